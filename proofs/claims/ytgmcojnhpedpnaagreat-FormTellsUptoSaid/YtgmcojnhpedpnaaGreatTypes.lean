/- The data of the program as plain types, and how each lies in memory. Plain definitions and laws; no program text is walked here. -/
import Derived.Test.YtgmcojnhpedpnaaGreatBase
namespace Go.Proofs.YtgmcojnhpedpnaaGreat
open Go.RowKit

def inI (n : Int) : Prop := (Lit.int .i64 n).wf = true
def old (w : World) : Nat → Prop := fun b => b < w.heap.size
theorem inI_bd {n : Int} (h : inI n) : -9223372036854775808 ≤ n ∧ n ≤ 9223372036854775807 := by
  have h' : IntKind.i64.min ≤ n ∧ n ≤ 9223372036854775807 := by simpa [inI, Lit.wf] using h
  have e : IntKind.i64.min = -9223372036854775808 := by decide
  omega
def inS (s : ByteArray) : Prop := s.size ≤ 140737488351232
theorem inS_max {s : ByteArray} (h : inS s) : s.size ≤ maxLen := by unfold inS at h; unfold maxLen; omega

theorem take_snoc (s : ByteArray) (k : Nat) (h : k < s.size) : s.data.toList.take (k + 1) = s.data.toList.take k ++ [s[k]] := by
  rw [List.take_succ_eq_append_getElem (by simpa using h)]; rfl

structure Val where (k n : Int) (s : ByteArray)
  deriving DecidableEq
structure Pol where (tries base cap : Int)
  deriving DecidableEq
structure Cll where (state id tries : Int) (key has : Val) (next : Int)
  deriving DecidableEq
structure Ltr where (field : ByteArray) (id : Int) (key answer : Val)
  deriving DecidableEq
structure Fct where (name : ByteArray) (key has : Val)
  deriving DecidableEq
structure Tmr where (id at_ : Int)
  deriving DecidableEq
structure Tkn where (kind at_ : Int) (s : ByteArray) (v : Val)
  deriving DecidableEq
structure Evt where (kind n : Int) (name : ByteArray) (value : Val)
  deriving DecidableEq
structure Rpl where (err page : Int)
  deriving DecidableEq

abbrev Val.cs (v : Val) : List Value := [.int .i64 v.k, .int .i64 v.n, .string v.s]
abbrev Pol.cs (p : Pol) : List Value := [.int .i64 p.tries, .int .i64 p.base, .int .i64 p.cap]
abbrev Cll.cs (c : Cll) : List Value := [.int .i64 c.state, .int .i64 c.id, .int .i64 c.tries, .int .i64 c.key.k, .int .i64 c.key.n, .string c.key.s, .int .i64 c.has.k, .int .i64 c.has.n, .string c.has.s, .int .i64 c.next]
abbrev Ltr.cs (l : Ltr) : List Value := [.string l.field, .int .i64 l.id, .int .i64 l.key.k, .int .i64 l.key.n, .string l.key.s, .int .i64 l.answer.k, .int .i64 l.answer.n, .string l.answer.s]
abbrev Fct.cs (f : Fct) : List Value := [.string f.name, .int .i64 f.key.k, .int .i64 f.key.n, .string f.key.s, .int .i64 f.has.k, .int .i64 f.has.n, .string f.has.s]
abbrev Tmr.cs (t : Tmr) : List Value := [.int .i64 t.id, .int .i64 t.at_]
abbrev Tkn.cs (t : Tkn) : List Value := [.int .i64 t.kind, .int .i64 t.at_, .string t.s, .int .i64 t.v.k, .int .i64 t.v.n, .string t.v.s]
abbrev Evt.cs (e : Evt) : List Value := [.int .i64 e.kind, .int .i64 e.n, .string e.name, .int .i64 e.value.k, .int .i64 e.value.n, .string e.value.s]
abbrev Rpl.cs (r : Rpl) : List Value := [.int .i64 r.err, .int .i64 r.page]

def Val.wf (v : Val) : Prop := inI v.k ∧ inI v.n ∧ inS v.s
def Pol.wf (p : Pol) : Prop := inI p.tries ∧ inI p.base ∧ inI p.cap
def Cll.wf (c : Cll) : Prop := inI c.state ∧ inI c.id ∧ inI c.tries ∧ c.key.wf ∧ c.has.wf ∧ inI c.next
def Ltr.wf (l : Ltr) : Prop := inS l.field ∧ inI l.id ∧ l.key.wf ∧ l.answer.wf
def Fct.wf (f : Fct) : Prop := inS f.name ∧ f.key.wf ∧ f.has.wf
def Tmr.wf (t : Tmr) : Prop := inI t.id ∧ inI t.at_
def Evt.wf (e : Evt) : Prop := inI e.kind ∧ inI e.n ∧ inS e.name ∧ e.value.wf

/-- How one thing of a flat type lies in its cells. -/
def RVal (cs : List Value) (v : Val) : Prop := cs = v.cs ∧ v.wf
def RPol (cs : List Value) (v : Pol) : Prop := cs = v.cs ∧ v.wf
def RCll (cs : List Value) (v : Cll) : Prop := cs = v.cs ∧ v.wf
def RLtr (cs : List Value) (v : Ltr) : Prop := cs = v.cs ∧ v.wf
def RFct (cs : List Value) (v : Fct) : Prop := cs = v.cs ∧ v.wf
def RTmr (cs : List Value) (v : Tmr) : Prop := cs = v.cs ∧ v.wf
def REvt (cs : List Value) (v : Evt) : Prop := cs = v.cs ∧ v.wf
def RStr (cs : List Value) (s : ByteArray) : Prop := cs = [.string s] ∧ inS s
def RInt (cs : List Value) (n : Int) : Prop := cs = [.int .i64 n] ∧ inI n

/-- A slice value (address A, length n) whose elements, of `size` cells each, read as the list l by R; its block is one of S. -/
def Sl {α : Type} (w : World) (S : Nat → Prop) (size : Nat) (R : List Value → α → Prop) (A : Option Addr) (n : Nat) (l : List α) : Prop :=
  l.length = n ∧ (0 < n → ∃ b o, A = some ⟨b, o, none⟩ ∧ S b ∧ ∀ i v, l[i]? = some v → ∃ cs, R cs v ∧ cs.length = size ∧ ∀ j, j < size → w.cell? ⟨b, o + (i * size + j), none⟩ = cs[j]?)

section
variable {α : Type} {w w' : World} {S S' : Nat → Prop} {size n : Nat} {R R' : List Value → α → Prop} {A : Option Addr} {l : List α}
theorem Sl.nil : Sl w S size R A 0 ([] : List α) := ⟨rfl, fun h => absurd h (by omega)⟩
theorem Sl.len (h : Sl w S size R A n l) : l.length = n := h.1
theorem Sl.at_ (h : Sl w S size R A n l) {k : Nat} (hk : k < n) : ∃ b o v cs, A = some ⟨b, o, none⟩ ∧ S b ∧ l[k]? = some v ∧ R cs v ∧ cs.length = size ∧ ∀ j, j < size → w.cell? ⟨b, o + (k * size + j), none⟩ = cs[j]? := by
  obtain ⟨b, o, e, hs, hc⟩ := h.2 (by omega)
  have hl : k < l.length := by have := h.1; omega
  obtain ⟨cs, h1, h2, h3⟩ := hc k l[k] (List.getElem?_eq_getElem hl)
  exact ⟨b, o, l[k], cs, e, hs, List.getElem?_eq_getElem hl, h1, h2, h3⟩
/-- It reads so in every world in which the blocks of S hold what they held. -/
theorem Sl.keep (h : Sl w S size R A n l) (hk : ∀ b, S b → w'.heap[b]? = w.heap[b]?) (hR : ∀ cs v, R cs v → R' cs v) : Sl w' S size R' A n l :=
  ⟨h.1, fun hn => by
    obtain ⟨b, o, e, hs, hc⟩ := h.2 hn
    refine ⟨b, o, e, hs, fun i v hv => ?_⟩
    obtain ⟨cs, h1, h2, h3⟩ := hc i v hv
    exact ⟨cs, hR _ _ h1, h2, fun j hj => (World.cell?_of_block (w := w) (a := ⟨b, _, none⟩) (hk b hs)).trans (h3 j hj)⟩⟩
theorem Sl.below {B : Nat} (h : Sl w S size R A n l) (hb : Below B w w') (hS : ∀ b, S b → b < B) : Sl w' S size R A n l :=
  h.keep (fun b hs => hb.block b (hS b hs)) fun _ _ h => h
theorem Sl.now (h : Sl w (old w) size R A n l) (hb : Below w.heap.size w w') : Sl w' (old w') size R A n l :=
  ⟨h.1, fun hn => by
    obtain ⟨b, o, e, hs, hc⟩ := h.2 hn
    exact ⟨b, o, e, Nat.lt_of_lt_of_le hs hb.size, ((h.below hb (fun _ h => h)).2 hn).elim fun b' x => by
      obtain ⟨o', e', hs', hc'⟩ := x
      rw [e] at e'
      cases e'
      exact hc'⟩⟩
theorem Sl.mono (h : Sl w S size R A n l) (hS : ∀ b, S b → S' b) : Sl w S' size R A n l :=
  ⟨h.1, fun hn => by
    obtain ⟨b, o, e, hs, hc⟩ := h.2 hn
    exact ⟨b, o, e, hS b hs, hc⟩⟩
end

-- AT
theorem Val_at {w : World} {S : Nat → Prop} {A : Option Addr} {n k : Nat} {l : List Val} (h : Sl w S 3 RVal A n l) (hk : k < n) :
    ∃ b o c, A = some ⟨b, o, none⟩ ∧ S b ∧ l[k]? = some c ∧ c.wf ∧ w.cell? ⟨b, o + k * 3, none⟩ = some (.int .i64 c.k) ∧ w.cell? ⟨b, o + k * 3 + 1, none⟩ = some (.int .i64 c.n) ∧ w.cell? ⟨b, o + k * 3 + 2, none⟩ = some (.string c.s) := by
  obtain ⟨b, o, c, cs, rfl, hs, hl, ⟨rfl, hw⟩, _, hc⟩ := h.at_ hk
  exact ⟨b, o, c, rfl, hs, hl, hw, hc 0 (by decide), hc 1 (by decide), hc 2 (by decide)⟩
theorem Pol_at {w : World} {S : Nat → Prop} {A : Option Addr} {n k : Nat} {l : List Pol} (h : Sl w S 3 RPol A n l) (hk : k < n) :
    ∃ b o c, A = some ⟨b, o, none⟩ ∧ S b ∧ l[k]? = some c ∧ c.wf ∧ w.cell? ⟨b, o + k * 3, none⟩ = some (.int .i64 c.tries) ∧ w.cell? ⟨b, o + k * 3 + 1, none⟩ = some (.int .i64 c.base) ∧ w.cell? ⟨b, o + k * 3 + 2, none⟩ = some (.int .i64 c.cap) := by
  obtain ⟨b, o, c, cs, rfl, hs, hl, ⟨rfl, hw⟩, _, hc⟩ := h.at_ hk
  exact ⟨b, o, c, rfl, hs, hl, hw, hc 0 (by decide), hc 1 (by decide), hc 2 (by decide)⟩
theorem Cll_at {w : World} {S : Nat → Prop} {A : Option Addr} {n k : Nat} {l : List Cll} (h : Sl w S 10 RCll A n l) (hk : k < n) :
    ∃ b o c, A = some ⟨b, o, none⟩ ∧ S b ∧ l[k]? = some c ∧ c.wf ∧ w.cell? ⟨b, o + k * 10, none⟩ = some (.int .i64 c.state) ∧ w.cell? ⟨b, o + k * 10 + 1, none⟩ = some (.int .i64 c.id) ∧ w.cell? ⟨b, o + k * 10 + 2, none⟩ = some (.int .i64 c.tries) ∧ w.cell? ⟨b, o + k * 10 + 3, none⟩ = some (.int .i64 c.key.k) ∧ w.cell? ⟨b, o + k * 10 + 4, none⟩ = some (.int .i64 c.key.n) ∧ w.cell? ⟨b, o + k * 10 + 5, none⟩ = some (.string c.key.s) ∧ w.cell? ⟨b, o + k * 10 + 6, none⟩ = some (.int .i64 c.has.k) ∧ w.cell? ⟨b, o + k * 10 + 7, none⟩ = some (.int .i64 c.has.n) ∧ w.cell? ⟨b, o + k * 10 + 8, none⟩ = some (.string c.has.s) ∧ w.cell? ⟨b, o + k * 10 + 9, none⟩ = some (.int .i64 c.next) := by
  obtain ⟨b, o, c, cs, rfl, hs, hl, ⟨rfl, hw⟩, _, hc⟩ := h.at_ hk
  exact ⟨b, o, c, rfl, hs, hl, hw, hc 0 (by decide), hc 1 (by decide), hc 2 (by decide), hc 3 (by decide), hc 4 (by decide), hc 5 (by decide), hc 6 (by decide), hc 7 (by decide), hc 8 (by decide), hc 9 (by decide)⟩
theorem Ltr_at {w : World} {S : Nat → Prop} {A : Option Addr} {n k : Nat} {l : List Ltr} (h : Sl w S 8 RLtr A n l) (hk : k < n) :
    ∃ b o c, A = some ⟨b, o, none⟩ ∧ S b ∧ l[k]? = some c ∧ c.wf ∧ w.cell? ⟨b, o + k * 8, none⟩ = some (.string c.field) ∧ w.cell? ⟨b, o + k * 8 + 1, none⟩ = some (.int .i64 c.id) ∧ w.cell? ⟨b, o + k * 8 + 2, none⟩ = some (.int .i64 c.key.k) ∧ w.cell? ⟨b, o + k * 8 + 3, none⟩ = some (.int .i64 c.key.n) ∧ w.cell? ⟨b, o + k * 8 + 4, none⟩ = some (.string c.key.s) ∧ w.cell? ⟨b, o + k * 8 + 5, none⟩ = some (.int .i64 c.answer.k) ∧ w.cell? ⟨b, o + k * 8 + 6, none⟩ = some (.int .i64 c.answer.n) ∧ w.cell? ⟨b, o + k * 8 + 7, none⟩ = some (.string c.answer.s) := by
  obtain ⟨b, o, c, cs, rfl, hs, hl, ⟨rfl, hw⟩, _, hc⟩ := h.at_ hk
  exact ⟨b, o, c, rfl, hs, hl, hw, hc 0 (by decide), hc 1 (by decide), hc 2 (by decide), hc 3 (by decide), hc 4 (by decide), hc 5 (by decide), hc 6 (by decide), hc 7 (by decide)⟩
theorem Fct_at {w : World} {S : Nat → Prop} {A : Option Addr} {n k : Nat} {l : List Fct} (h : Sl w S 7 RFct A n l) (hk : k < n) :
    ∃ b o c, A = some ⟨b, o, none⟩ ∧ S b ∧ l[k]? = some c ∧ c.wf ∧ w.cell? ⟨b, o + k * 7, none⟩ = some (.string c.name) ∧ w.cell? ⟨b, o + k * 7 + 1, none⟩ = some (.int .i64 c.key.k) ∧ w.cell? ⟨b, o + k * 7 + 2, none⟩ = some (.int .i64 c.key.n) ∧ w.cell? ⟨b, o + k * 7 + 3, none⟩ = some (.string c.key.s) ∧ w.cell? ⟨b, o + k * 7 + 4, none⟩ = some (.int .i64 c.has.k) ∧ w.cell? ⟨b, o + k * 7 + 5, none⟩ = some (.int .i64 c.has.n) ∧ w.cell? ⟨b, o + k * 7 + 6, none⟩ = some (.string c.has.s) := by
  obtain ⟨b, o, c, cs, rfl, hs, hl, ⟨rfl, hw⟩, _, hc⟩ := h.at_ hk
  exact ⟨b, o, c, rfl, hs, hl, hw, hc 0 (by decide), hc 1 (by decide), hc 2 (by decide), hc 3 (by decide), hc 4 (by decide), hc 5 (by decide), hc 6 (by decide)⟩
theorem Tmr_at {w : World} {S : Nat → Prop} {A : Option Addr} {n k : Nat} {l : List Tmr} (h : Sl w S 2 RTmr A n l) (hk : k < n) :
    ∃ b o c, A = some ⟨b, o, none⟩ ∧ S b ∧ l[k]? = some c ∧ c.wf ∧ w.cell? ⟨b, o + k * 2, none⟩ = some (.int .i64 c.id) ∧ w.cell? ⟨b, o + k * 2 + 1, none⟩ = some (.int .i64 c.at_) := by
  obtain ⟨b, o, c, cs, rfl, hs, hl, ⟨rfl, hw⟩, _, hc⟩ := h.at_ hk
  exact ⟨b, o, c, rfl, hs, hl, hw, hc 0 (by decide), hc 1 (by decide)⟩
theorem Evt_at {w : World} {S : Nat → Prop} {A : Option Addr} {n k : Nat} {l : List Evt} (h : Sl w S 6 REvt A n l) (hk : k < n) :
    ∃ b o c, A = some ⟨b, o, none⟩ ∧ S b ∧ l[k]? = some c ∧ c.wf ∧ w.cell? ⟨b, o + k * 6, none⟩ = some (.int .i64 c.kind) ∧ w.cell? ⟨b, o + k * 6 + 1, none⟩ = some (.int .i64 c.n) ∧ w.cell? ⟨b, o + k * 6 + 2, none⟩ = some (.string c.name) ∧ w.cell? ⟨b, o + k * 6 + 3, none⟩ = some (.int .i64 c.value.k) ∧ w.cell? ⟨b, o + k * 6 + 4, none⟩ = some (.int .i64 c.value.n) ∧ w.cell? ⟨b, o + k * 6 + 5, none⟩ = some (.string c.value.s) := by
  obtain ⟨b, o, c, cs, rfl, hs, hl, ⟨rfl, hw⟩, _, hc⟩ := h.at_ hk
  exact ⟨b, o, c, rfl, hs, hl, hw, hc 0 (by decide), hc 1 (by decide), hc 2 (by decide), hc 3 (by decide), hc 4 (by decide), hc 5 (by decide)⟩
theorem Str_at {w : World} {S : Nat → Prop} {A : Option Addr} {n k : Nat} {l : List ByteArray} (h : Sl w S 1 RStr A n l) (hk : k < n) :
    ∃ b o c, A = some ⟨b, o, none⟩ ∧ S b ∧ l[k]? = some c ∧ inS c ∧ w.cell? ⟨b, o + k, none⟩ = some (.string c) := by
  obtain ⟨b, o, c, cs, rfl, hs, hl, ⟨rfl, hw⟩, _, hc⟩ := h.at_ hk
  have h0 := hc 0 (by decide)
  rw [Nat.mul_one] at h0
  exact ⟨b, o, c, rfl, hs, hl, hw, h0⟩
theorem Int_at {w : World} {S : Nat → Prop} {A : Option Addr} {n k : Nat} {l : List Int} (h : Sl w S 1 RInt A n l) (hk : k < n) :
    ∃ b o c, A = some ⟨b, o, none⟩ ∧ S b ∧ l[k]? = some c ∧ inI c ∧ w.cell? ⟨b, o + k, none⟩ = some (.int .i64 c) := by
  obtain ⟨b, o, c, cs, rfl, hs, hl, ⟨rfl, hw⟩, _, hc⟩ := h.at_ hk
  have h0 := hc 0 (by decide)
  rw [Nat.mul_one] at h0
  exact ⟨b, o, c, rfl, hs, hl, hw, h0⟩
-- AT END

/-- A formula. -/
inductive Exp where
  | mk (op : Int) (v : Val) (name : ByteArray) (args : List Exp)
def Exp.op : Exp → Int | .mk op _ _ _ => op
def Exp.v : Exp → Val | .mk _ v _ _ => v
def Exp.name : Exp → ByteArray | .mk _ _ n _ => n
def Exp.args : Exp → List Exp | .mk _ _ _ a => a
structure Fld where (name : ByteArray) (kind type : Int) (source : Exp)
structure Pag where (name : ByteArray) (fields : List ByteArray) (skip : Exp)
structure Frm where (fields : List Fld) (pages : List Pag)

def inL (n : Nat) : Prop := n ≤ 140737488351232
/-- So many elements of b bytes each fit into what a slice may take. -/
def inB (b n : Nat) : Prop := n * b ≤ 140737488351232
theorem inB.l {b n : Nat} (h : inB b n) (hb : 0 < b) : inL n := Nat.le_trans (Nat.le_mul_of_pos_right n hb) h

/-- A formula in memory: its six cells, and its arguments in a row of their own, in blocks of S. -/
inductive XRep (w : World) (S : Nat → Prop) : List Value → Exp → Prop
  | mk (op : Int) (v : Val) (name : ByteArray) (args : List Exp) (A : Option Addr) (c b o : Nat) (cf : Nat → List Value) :
      inI op → v.wf → inS name → inB 80 args.length → args.length ≤ c → (∀ i a, args[i]? = some a → XRep w S (cf i) a) →
      (0 < args.length → A = some ⟨b, o, none⟩ ∧ S b ∧ ∀ i, i < args.length → (cf i).length = 6 ∧ ∀ j, j < 6 → w.cell? ⟨b, o + (i * 6 + j), none⟩ = (cf i)[j]?) →
      XRep w S [.int .i64 op, .int .i64 v.k, .int .i64 v.n, .string v.s, .string name, .slice A args.length c] (.mk op v name args)

theorem XRep.open_ {w : World} {S : Nat → Prop} {cs : List Value} {x : Exp} (h : XRep w S cs x) :
    ∃ A c, cs = [.int .i64 x.op, .int .i64 x.v.k, .int .i64 x.v.n, .string x.v.s, .string x.name, .slice A x.args.length c] ∧ inI x.op ∧ x.v.wf ∧ inS x.name ∧ inB 80 x.args.length ∧ x.args.length ≤ c ∧
      Sl w S 6 (XRep w S) A x.args.length x.args := by
  cases h with
  | mk op v name args A c b o cf h1 h2 h3 h4 h5 h6 h7 =>
    refine ⟨A, c, rfl, h1, h2, h3, h4, h5, rfl, fun hn => ?_⟩
    obtain ⟨e, hs, hc⟩ := h7 hn
    refine ⟨b, o, e, hs, fun i a ha => ?_⟩
    have hi : i < args.length := (List.getElem?_eq_some_iff.1 ha).1
    exact ⟨cf i, h6 i a ha, (hc i hi).1, (hc i hi).2⟩
theorem XRep.shut {w : World} {S : Nat → Prop} {op : Int} {v : Val} {name : ByteArray} {args : List Exp} {A : Option Addr} {n c : Nat} (h1 : inI op) (h2 : v.wf) (h3 : inS name) (h4 : inB 80 n) (h5 : n ≤ c)
    (h : Sl w S 6 (XRep w S) A n args) : XRep w S [.int .i64 op, .int .i64 v.k, .int .i64 v.n, .string v.s, .string name, .slice A n c] (.mk op v name args) := by
  obtain ⟨rfl, h⟩ := h
  rcases Nat.eq_zero_or_pos args.length with h0 | h0
  · exact .mk op v name args A c 0 0 (fun _ => []) h1 h2 h3 h4 h5 (fun i a ha => by have := (List.getElem?_eq_some_iff.1 ha).1; omega) (fun hn => by omega)
  · obtain ⟨b, o, e, hs, hc⟩ := h h0
    have hc' : ∀ i, ∃ cs, ∀ a, args[i]? = some a → XRep w S cs a ∧ cs.length = 6 ∧ ∀ j, j < 6 → w.cell? ⟨b, o + (i * 6 + j), none⟩ = cs[j]? := by
      intro i
      cases ha : args[i]? with
      | none => exact ⟨[], fun a h => by cases h⟩
      | some a =>
        obtain ⟨cs, r⟩ := hc i a ha
        exact ⟨cs, fun a' h => by cases h; exact r⟩
    refine .mk op v name args A c b o (fun i => (hc' i).choose) h1 h2 h3 h4 h5 (fun i a ha => ((hc' i).choose_spec a ha).1) (fun _ => ⟨e, hs, fun i hi => ?_⟩)
    have := (hc' i).choose_spec _ (List.getElem?_eq_getElem hi)
    exact ⟨this.2.1, this.2.2⟩
theorem XRep.keep {w w' : World} {S S' : Nat → Prop} {cs : List Value} {x : Exp} (h : XRep w S cs x) (hk : ∀ b, S b → S' b ∧ w'.heap[b]? = w.heap[b]?) : XRep w' S' cs x := by
  induction h with
  | mk op v name args A c b o cf h1 h2 h3 h4 h5 _ h7 ih =>
    refine .mk op v name args A c b o cf h1 h2 h3 h4 h5 ih (fun hn => ?_)
    obtain ⟨e, hs, hc⟩ := h7 hn
    refine ⟨e, (hk b hs).1, fun i hi => ⟨(hc i hi).1, fun j hj => ?_⟩⟩
    exact (World.cell?_of_block (w := w) (a := ⟨b, _, none⟩) (hk b hs).2).trans ((hc i hi).2 j hj)
theorem XRep.under {w w' : World} {S : Nat → Prop} {cs : List Value} {x : Exp} {B : Nat} (h : XRep w S cs x) (hb : Below B w w') (hS : ∀ b, S b → b < B) : XRep w' S cs x :=
  h.keep fun b hs => ⟨hs, hb.block b (hS b hs)⟩

def RFld (w : World) (S : Nat → Prop) (cs : List Value) (f : Fld) : Prop :=
  inS f.name ∧ inI f.kind ∧ inI f.type ∧ ∃ xs, cs = .string f.name :: .int .i64 f.kind :: .int .i64 f.type :: xs ∧ XRep w S xs f.source
def RPag (w : World) (S : Nat → Prop) (cs : List Value) (p : Pag) : Prop :=
  inS p.name ∧ ∃ A n c xs, cs = .string p.name :: .slice A n c :: xs ∧ inB 16 n ∧ n ≤ c ∧ Sl w S 1 RStr A n p.fields ∧ XRep w S xs p.skip
theorem RFld.keep {w w' : World} {S S' : Nat → Prop} {cs : List Value} {x : Fld} (h : RFld w S cs x) (hk : ∀ b, S b → S' b ∧ w'.heap[b]? = w.heap[b]?) : RFld w' S' cs x := by
  obtain ⟨h1, h2, h3, xs, e, h4⟩ := h
  exact ⟨h1, h2, h3, xs, e, h4.keep hk⟩
theorem RPag.keep {w w' : World} {S S' : Nat → Prop} {cs : List Value} {x : Pag} (h : RPag w S cs x) (hk : ∀ b, S b → S' b ∧ w'.heap[b]? = w.heap[b]?) : RPag w' S' cs x := by
  obtain ⟨h1, A, n, c, xs, e, hl, hc, h2, h4⟩ := h
  exact ⟨h1, A, n, c, xs, e, hl, hc, (h2.keep (fun b hb => (hk b hb).2) fun _ _ h => h).mono fun b hb => (hk b hb).1, h4.keep hk⟩


/-- A reading that stands wherever its blocks hold what they held. -/
def Keeps {α : Type} (R : World → (Nat → Prop) → List Value → α → Prop) : Prop :=
  ∀ (w w' : World) (S S' : Nat → Prop) (cs : List Value) (x : α), R w S cs x → (∀ b, S b → S' b ∧ w'.heap[b]? = w.heap[b]?) → R w' S' cs x
theorem keeps_flat {α : Type} (R : List Value → α → Prop) : Keeps (fun _ _ => R) := fun _ _ _ _ _ _ h _ => h
theorem keeps_Exp : Keeps XRep := fun _ _ _ _ _ _ h hk => h.keep hk
theorem keeps_Fld : Keeps RFld := fun _ _ _ _ _ _ h hk => h.keep hk
theorem keeps_Pag : Keeps RPag := fun _ _ _ _ _ _ h hk => h.keep hk
theorem Sl.keepN {α : Type} {R : World → (Nat → Prop) → List Value → α → Prop} (K : Keeps R) {w w' : World} {S S' : Nat → Prop} {size n : Nat} {A : Option Addr} {l : List α}
    (h : Sl w S size (R w S) A n l) (hk : ∀ b, S b → S' b ∧ w'.heap[b]? = w.heap[b]?) : Sl w' S' size (R w' S') A n l :=
  (h.keep (fun b hb => (hk b hb).2) (fun _ _ h => K _ _ _ _ _ _ h hk)).mono fun b hb => (hk b hb).1
theorem old_keep {w w' : World} (hb : Below w.heap.size w w') : ∀ b, old w b → old w' b ∧ w'.heap[b]? = w.heap[b]? :=
  fun b h => ⟨Nat.lt_of_lt_of_le h hb.size, hb.block b h⟩
theorem Sl.nowN {α : Type} {R : World → (Nat → Prop) → List Value → α → Prop} (K : Keeps R) {w w' : World} {size n : Nat} {A : Option Addr} {l : List α}
    (h : Sl w (old w) size (R w (old w)) A n l) (hb : Below w.heap.size w w') : Sl w' (old w') size (R w' (old w')) A n l := h.keepN K (old_keep hb)

theorem Fld_at {w : World} {S : Nat → Prop} {A : Option Addr} {n k : Nat} {l : List Fld} (h : Sl w S 9 (RFld w S) A n l) (hk : k < n) :
    ∃ b o f X C, A = some ⟨b, o, none⟩ ∧ S b ∧ l[k]? = some f ∧
      RFld w S [.string f.name, .int .i64 f.kind, .int .i64 f.type, .int .i64 f.source.op, .int .i64 f.source.v.k, .int .i64 f.source.v.n, .string f.source.v.s, .string f.source.name, .slice X f.source.args.length C] f ∧
      w.cell? ⟨b, o + k * 9, none⟩ = some (.string f.name) ∧ w.cell? ⟨b, o + k * 9 + 1, none⟩ = some (.int .i64 f.kind) ∧ w.cell? ⟨b, o + k * 9 + 2, none⟩ = some (.int .i64 f.type) ∧
      w.cell? ⟨b, o + k * 9 + 3, none⟩ = some (.int .i64 f.source.op) ∧ w.cell? ⟨b, o + k * 9 + 4, none⟩ = some (.int .i64 f.source.v.k) ∧ w.cell? ⟨b, o + k * 9 + 5, none⟩ = some (.int .i64 f.source.v.n) ∧
      w.cell? ⟨b, o + k * 9 + 6, none⟩ = some (.string f.source.v.s) ∧ w.cell? ⟨b, o + k * 9 + 7, none⟩ = some (.string f.source.name) ∧ w.cell? ⟨b, o + k * 9 + 8, none⟩ = some (.slice X f.source.args.length C) := by
  obtain ⟨b, o, f, cs, rfl, hs, hl, hr, _, hc⟩ := h.at_ hk
  obtain ⟨r1, r2, r3, xs, rfl, hx⟩ := hr
  have hx' := hx
  obtain ⟨X, C, rfl, _⟩ := hx.open_
  exact ⟨b, o, f, X, C, rfl, hs, hl, ⟨r1, r2, r3, _, rfl, hx'⟩, hc 0 (by decide), hc 1 (by decide), hc 2 (by decide), hc 3 (by decide), hc 4 (by decide), hc 5 (by decide), hc 6 (by decide), hc 7 (by decide), hc 8 (by decide)⟩


def valEq (x y : Val) : Bool := x.k == y.k && (x.n == y.n && x.s.toList == y.s.toList)
theorem toList_inj {a b : ByteArray} (h : a.toList = b.toList) : a = b := by
  rw [ByteArray.toList_eq, ByteArray.toList_eq] at h
  exact ByteArray.ext (Array.toList_inj.1 h)
theorem valEq_iff (x y : Val) : valEq x y = true ↔ x = y := by
  obtain ⟨k, n, s⟩ := x
  obtain ⟨k', n', s'⟩ := y
  simp only [valEq, Bool.and_eq_true, beq_iff_eq, Val.mk.injEq]
  exact ⟨fun ⟨a, b, c⟩ => ⟨a, b, toList_inj c⟩, fun ⟨a, b, c⟩ => ⟨a, b, by rw [c]⟩⟩
theorem run_eql_Val (w : World) (k n k' n' : Int) (s s' : ByteArray) : (binOp .eql 23 (.agg #[.int .i64 k, .int .i64 n, .string s]) (.agg #[.int .i64 k', .int .i64 n', .string s'])).run Tryz.prog w = .ok (.bool (valEq ⟨k, n, s⟩ ⟨k', n', s'⟩)) w := by
  go_simp
  unfold valEq
  by_cases h1 : k = k' <;> by_cases h2 : n = n' <;> by_cases h3 : s.toList = s'.toList <;> simp [h1, h2, h3]
theorem run_neq_Val (w : World) (k n k' n' : Int) (s s' : ByteArray) : (binOp .neq 23 (.agg #[.int .i64 k, .int .i64 n, .string s]) (.agg #[.int .i64 k', .int .i64 n', .string s'])).run Tryz.prog w = .ok (.bool (!valEq ⟨k, n, s⟩ ⟨k', n', s'⟩)) w := by
  go_simp
  unfold valEq
  by_cases h1 : k = k' <;> by_cases h2 : n = n' <;> by_cases h3 : s.toList = s'.toList <;> simp [h1, h2, h3]


theorem flat_at {α β : Type} (enc : α → List β) (size : Nat) (hsz : ∀ a, (enc a).length = size) : ∀ (l : List α) (i j : Nat) (a : α), l[i]? = some a → j < size → (l.flatMap enc)[i * size + j]? = (enc a)[j]?
  | [], i, j, a, h, _ => by simp at h
  | b :: l, 0, j, a, h, hj => by
    simp at h; subst h
    rw [List.flatMap_cons, Nat.zero_mul, Nat.zero_add, List.getElem?_append_left (by rw [hsz]; exact hj)]
  | b :: l, i + 1, j, a, h, hj => by
    rw [List.flatMap_cons, List.getElem?_append_right (by rw [hsz, Nat.add_mul]; omega), hsz]
    have e : (i + 1) * size + j - size = i * size + j := by rw [Nat.add_mul]; omega
    rw [e]
    exact flat_at enc size hsz l i j a (by simpa using h) hj
/-- A row of the call's own, read as a slice. -/
theorem own_sl {α : Type} (enc : α → List Value) {size : Nat} (hsz : ∀ a, (enc a).length = size) {w : World} {base : Nat} {e : TypeId} {v : Value} {n : Nat} {l : List α}
    (h : w.ownsRow base e size v n (l.flatMap enc)) (hl : l.length = n) :
    ∃ A c, v = .slice A n c ∧ n ≤ c ∧ Sl w (fun b => base ≤ b ∧ b < w.heap.size) size (fun cs a => cs = enc a) A n l := by
  obtain ⟨h1, h2⟩ := h
  rcases h2 with ⟨rfl, rfl⟩ | ⟨g, cap, cur, rfl, hg, hh, hc, hm, hs, ht⟩
  · exact ⟨none, 0, rfl, Nat.le_refl _, hl, fun h => absurd h (by omega)⟩
  · refine ⟨some ⟨g, 0, none⟩, cap, rfl, hc, hl, fun hn => ⟨g, 0, rfl, ⟨hg, ?_⟩, fun i a hi => ⟨_, rfl, hsz a, fun j hj => ?_⟩⟩⟩
    · rcases Nat.lt_or_ge g w.heap.size with h | h
      · exact h
      · rw [Array.getElem?_eq_none h] at hh; cases hh
    · rw [Nat.zero_add, cell_of_row w g (i * size + j) cur e (0, 0) hh]
      have hi' : i < l.length := (List.getElem?_eq_some_iff.1 hi).1
      have hlt : i * size + j < n * size := by
        have : (i + 1) * size ≤ n * size := Nat.mul_le_mul_right _ (by omega)
        rw [Nat.add_mul] at this
        omega
      rw [← flat_at enc size hsz l i j a hi hj, ← ht, List.getElem?_take_of_lt hlt]
      simp

theorem chunk_at {β : Type} (size : Nat) : ∀ (C : List (List β)), (∀ c ∈ C, c.length = size) → ∀ (i j : Nat) (c : List β), C[i]? = some c → j < size → C.flatten[i * size + j]? = c[j]?
  | [], _, i, j, c, h, _ => by simp at h
  | b :: l, hC, 0, j, c, h, hj => by
    simp at h; subst h
    rw [List.flatten_cons, Nat.zero_mul, Nat.zero_add, List.getElem?_append_left (by rw [hC b (by simp)]; exact hj)]
  | b :: l, hC, i + 1, j, c, h, hj => by
    have hb := hC b (by simp)
    rw [List.flatten_cons, List.getElem?_append_right (by rw [hb, Nat.add_mul]; omega), hb]
    have e : (i + 1) * size + j - size = i * size + j := by rw [Nat.add_mul]; omega
    rw [e]
    exact chunk_at size l (fun c hc => hC c (by simp [hc])) i j c (by simpa using h) hj
/-- A row of the call's own, whose elements are read one by one by R. -/
theorem own_rows {α : Type} {w : World} {base : Nat} {e : TypeId} {size : Nat} {v : Value} {n : Nat} {C : List (List Value)} {l : List α} {S : Nat → Prop} {R : List Value → α → Prop}
    (h : w.ownsRow base e size v n C.flatten) (hC : ∀ c ∈ C, c.length = size) (hl : C.length = n) (hl' : l.length = n) (hS : ∀ g, v.ownBlock = some g → S g)
    (hR : ∀ (i : Nat) (c : List Value) (a : α), C[i]? = some c → l[i]? = some a → R c a) : ∃ A c, v = .slice A n c ∧ n ≤ c ∧ Sl w S size R A n l := by
  obtain ⟨h1, h2⟩ := h
  rcases h2 with ⟨rfl, rfl⟩ | ⟨g, cap, cur, rfl, hg, hh, hc, hm, hs, ht⟩
  · exact ⟨none, 0, rfl, Nat.le_refl _, hl', fun h => absurd h (by omega)⟩
  · refine ⟨some ⟨g, 0, none⟩, cap, rfl, hc, hl', fun hn => ⟨g, 0, rfl, hS g rfl, fun i a hi => ?_⟩⟩
    have hi' : i < n := by rw [← hl']; exact (List.getElem?_eq_some_iff.1 hi).1
    have hCi : C[i]? = some (C[i]'(by omega)) := List.getElem?_eq_getElem (by omega)
    refine ⟨_, hR i _ a hCi hi, hC _ (List.getElem_mem _), fun j hj => ?_⟩
    rw [Nat.zero_add, cell_of_row w g (i * size + j) cur e (0, 0) hh]
    have hlt : i * size + j < n * size := by
      have : (i + 1) * size ≤ n * size := Nat.mul_le_mul_right _ (by omega)
      rw [Nat.add_mul] at this
      omega
    rw [← chunk_at size C hC i j _ hCi hj, ← ht, List.getElem?_take_of_lt hlt]
    simp
end Go.Proofs.YtgmcojnhpedpnaaGreat
