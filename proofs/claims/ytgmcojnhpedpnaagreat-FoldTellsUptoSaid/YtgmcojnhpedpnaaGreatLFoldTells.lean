/- Texts merged (mergeh.py): Put Sam Swp Valu Fol3 NPut Fol4 LFoldTells. -/
import Derived.Test.YtgmcojnhpedpnaaGreatCop
import Derived.Test.YtgmcojnhpedpnaaGreatKee
import Derived.Test.YtgmcojnhpedpnaaGreatRegT
import Derived.Test.YtgmcojnhpedpnaaGreatRow
import Derived.Test.YtgmcojnhpedpnaaGreatNum
import Derived.Test.YtgmcojnhpedpnaaGreatCopo
import Derived.Laws.IdiomCopy
import Derived.Test.YtgmcojnhpedpnaaGreatVals
import Derived.Test.YtgmcojnhpedpnaaGreatValdA
import Derived.Test.YtgmcojnhpedpnaaGreatValdC
import Derived.Test.YtgmcojnhpedpnaaGreatValdD
import Derived.Test.YtgmcojnhpedpnaaGreatValdN
import Derived.Test.YtgmcojnhpedpnaaGreatValdM
import Derived.Test.YtgmcojnhpedpnaaGreatFol2
import Derived.Test.YtgmcojnhpedpnaaGreatPrt3
import Derived.Test.YtgmcojnhpedpnaaGreatPrt4
/- A formula put in the place of a name: names.put. -/
namespace Go.Proofs.YtgmcojnhpedpnaaGreat
open Go.RowKit

def hitRef (name : ByteArray) (op : Int) (nm : ByteArray) : Bool := op == 2 && nm.toList == name.toList
mutual
def putX (name : ByteArray) (y : Exp) : Exp → Exp
  | .mk op v nm args => bif hitRef name op nm then y else .mk op v nm (putL name y args)
def putL (name : ByteArray) (y : Exp) : List Exp → List Exp
  | [] => []
  | a :: l => putX name y a :: putL name y l
end
theorem putL_map (name : ByteArray) (y : Exp) : ∀ l, putL name y l = l.map (putX name y)
  | [] => by simp [putL]
  | a :: l => by simp [putL, putL_map name y l]
theorem putX_hit {name : ByteArray} {y x : Exp} (h : hitRef name x.op x.name = true) : putX name y x = y := by
  obtain ⟨op, v, nm, args⟩ := x
  have h' : hitRef name op nm = true := h
  simp [putX, h']
theorem putX_miss {name : ByteArray} {y x : Exp} (h : hitRef name x.op x.name = false) : putX name y x = .mk x.op x.v x.name (x.args.map (putX name y)) := by
  obtain ⟨op, v, nm, args⟩ := x
  have h' : hitRef name op nm = false := h
  simp [putX, h', putL_map, Exp.op, Exp.v, Exp.name, Exp.args]
theorem hitRef_cases (name : ByteArray) (op : Int) (nm : ByteArray) : ((op == 2) = true ∧ (nm.toList == name.toList) = true ∧ hitRef name op nm = true) ∨ ((op == 2) = false ∧ hitRef name op nm = false) ∨ ((op == 2) = true ∧ (nm.toList == name.toList) = false ∧ hitRef name op nm = false) := by
  unfold hitRef
  cases (op == 2) <;> cases (nm.toList == name.toList) <;> simp

end Go.Proofs.YtgmcojnhpedpnaaGreat
/- sameExpr: true of a formula and its like. -/
namespace Go.Proofs.YtgmcojnhpedpnaaGreat
open Go.RowKit

abbrev Exp.cells (x : Exp) (A : Option Addr) (c : Nat) : List Value := [.int .i64 x.op, .int .i64 x.v.k, .int .i64 x.v.n, .string x.v.s, .string x.name, .slice A x.args.length c]
theorem cf_sameExpr (args : Array Value) (w : World) : (callFunc 11 args).run Tryz.prog w = .ok (.enter 11 args) w :=
  cf _ _ Tryz.func11 (by kernel_rfl) (by kernel_rfl) args w
set_option maxRecDepth 100000 in
set_option maxHeartbeats 1000000 in
theorem equal_Exprs (l : List Exp) (A : Option Addr) (n c : Nat) (A' : Option Addr) (c' : Nat) (w : World) (hn : inL n) (h : Sl w (old w) 6 (XRep w (old w)) A n l) (h' : Sl w (old w) 6 (XRep w (old w)) A' n l)
    (hcall : ∀ (wr : World) (k : Nat) (a : Exp) (X : Option Addr) (C : Nat) (X' : Option Addr) (C' : Nat), l[k]? = some a → XRep wr (old wr) (a.cells X C) a → XRep wr (old wr) (a.cells X' C') a →
      Calls Tryz.prog 11 #[.agg #[.int .i64 a.op, .int .i64 a.v.k, .int .i64 a.v.n, .string a.v.s, .string a.name, .slice X a.args.length C], .agg #[.int .i64 a.op, .int .i64 a.v.k, .int .i64 a.v.n, .string a.v.s, .string a.name, .slice X' a.args.length C']] wr (RetB wr true)) :
    Calls Tryz.prog 34 #[.slice A n c, .slice A' n c', .func (.func 11) #[] #[]] w (RetB w true) := by
  unfold inL at hn
  have HH := Lib.hid (And.intro h (And.intro h' hcall))
  have hcf := cf_sameExpr
  clear h h' hcall
  go_enter Tryz.func34, Tryz.ntmps34
  go_wp2_with fail
  go_loopw [17] (fun i wr => ∃ k : Nat, k ≤ n ∧ i = .int .i64 k ∧ Below w.heap.size w wr) (fun i _ => n - (intOf i).toNat)
  case atStart => exact ⟨0, by omega, rfl, Below.refl _ _⟩
  case round =>
    obtain ⟨k, hk, rfl, hb⟩ := hrel
    by_cases hlt : k < n
    · obtain ⟨b1, o1, a, X, C, rfl, hb1, hl, hx, x0, x1, x2, x3, x4, x5⟩ := Exp_at (HH.out.1.nowN keeps_Exp hb) hlt
      obtain ⟨b2, o2, a', X', C', rfl, hb2, hl', hx', y0, y1, y2, y3, y4, y5⟩ := Exp_at (HH.out.2.1.nowN keeps_Exp hb) hlt
      rw [hl] at hl'
      cases hl'
      have hb1' : b1 < wr.heap.size := hb1
      have hb2' : b2 < wr.heap.size := hb2
      have HX := Lib.hid (And.intro hx (And.intro hx' hl))
      clear hx hx' hl hb1 hb2
      go_wp2_with fail
      refine (HH.out.2.2 _ k a X C X' C' HX.out.2.2 (HX.out.1.keep (old_keep bel)) (HX.out.2.1.keep (old_keep bel))).mono ?_; rintro e w3 ⟨rfl, hb3⟩
      go_wp2_with fail
      go_roundw
      case rel => exact ⟨k + 1, by omega, by go_num, bel⟩
      case measure => simp [intOf]; omega
    · go_wp2_with fail
      go_ret
      exact ⟨rfl, hb⟩
set_option maxRecDepth 100000 in
set_option maxHeartbeats 1000000 in
theorem same_Expr (N : Nat) : ∀ (x : Exp) (A : Option Addr) (c : Nat) (A' : Option Addr) (c' : Nat) (w : World), x.nodes ≤ N → XRep w (old w) (x.cells A c) x → XRep w (old w) (x.cells A' c') x →
    Calls Tryz.prog 11 #[.agg #[.int .i64 x.op, .int .i64 x.v.k, .int .i64 x.v.n, .string x.v.s, .string x.name, .slice A x.args.length c], .agg #[.int .i64 x.op, .int .i64 x.v.k, .int .i64 x.v.n, .string x.v.s, .string x.name, .slice A' x.args.length c']] w (RetB w true) := by
  induction N with
  | zero =>
    intro x A c A' c' w hN
    obtain ⟨op, v, nm, args⟩ := x
    simp [Exp.nodes] at hN
  | succ N ih =>
    intro x A c A' c' w hN hx hx'
    have HI := Lib.hid ih
    clear ih
    obtain ⟨A0, c0, e0, _, _, _, i4, _, hsl⟩ := hx.open_
    simp only [List.cons.injEq, Value.slice.injEq, and_true, true_and] at e0
    obtain ⟨rfl, rfl⟩ := e0
    obtain ⟨A1, c1, e1, _, _, _, _, _, hsl'⟩ := hx'.open_
    simp only [List.cons.injEq, Value.slice.injEq, and_true, true_and] at e1
    obtain ⟨rfl, rfl⟩ := e1
    have hch : ∀ (i : Nat) (a : Exp), x.args[i]? = some a → a.nodes ≤ N := by
      obtain ⟨op, v, nm, args⟩ := x
      intro i a h
      have := nodes_at args i a h
      simp only [Exp.nodes] at hN
      omega
    have hcalls := fun w h h' => equal_Exprs x.args A x.args.length c A' c' w (i4.l (by decide)) h h' (fun wr k a X C X' C' hk h1 h2 => HI.out a X C X' C' wr (hch k a hk) h1 h2)
    have HH := Lib.hid (And.intro hsl (And.intro hsl' hcalls))
    have heq := fun w => run_eql_Val w x.v.k x.v.n x.v.k x.v.n x.v.s x.v.s
    have hvv : valEq ⟨x.v.k, x.v.n, x.v.s⟩ ⟨x.v.k, x.v.n, x.v.s⟩ = true := (valEq_iff _ _).2 rfl
    clear hsl hsl' hch hx hx' hN i4 hcalls
    go_enter Tryz.func11, Tryz.ntmps11
    go_wp2_with fail
    refine (HH.out.2.2 _ (HH.out.1.nowN keeps_Exp bel) (HH.out.2.1.nowN keeps_Exp bel)).mono ?_; rintro e w3 ⟨rfl, hb3⟩
    go_wp2_with fail
    go_ret
    exact ⟨rfl, bel⟩
end Go.Proofs.YtgmcojnhpedpnaaGreat
/- The reference swapped: a formula in the place of a name. -/
namespace Go.Proofs.YtgmcojnhpedpnaaGreat
open Go.RowKit

/-- The blocks of the call's own, but for g. -/
def apart (base g : Nat) (w : World) : Nat → Prop := fun b => base ≤ b ∧ b < w.heap.size ∧ b ≠ g
/-- A row of formulas in block g; what they hold lies in other blocks of the call's own. -/
def ZRow (w : World) (base : Nat) (A : Option Addr) (n : Nat) (l : List Exp) : Prop :=
  l.length = n ∧ (0 < n → ∃ g, A = some ⟨g, 0, none⟩ ∧ base ≤ g ∧ g < w.heap.size ∧ (∀ q, w.frozen? ⟨g, q, none⟩ = false) ∧
    ∀ i a, l[i]? = some a → ∃ X C, XRep w (apart base g w) (a.cells X C) a ∧ ∀ j, j < 6 → w.cell? ⟨g, 0 + i * 6 + j, none⟩ = (a.cells X C)[j]?)
theorem ZRow.of_own {w : World} {base : Nat} {A : Option Addr} {n c : Nat} {l : List Exp} (h : Own w base 26 6 XRep (.slice A n c) l) (hl : l.length = n) : ZRow w base A n l := by
  refine ⟨hl, fun hn => ?_⟩
  obtain ⟨C, h1, h2, h3, h4⟩ := h
  obtain ⟨A', c', e, _, hs⟩ := own_rows (S := fun b => some b = (Value.slice A n c).ownBlock) h1 h3 h2 rfl (fun g hg => hg.symm) h4
  cases e
  obtain ⟨h5, h6⟩ := h1
  rcases h6 with ⟨e, _⟩ | ⟨g, cap, cur, e, hg, hh, _⟩
  · injection e with _ e2 _; omega
  · cases e
    refine ⟨g, rfl, hg, (Array.getElem?_eq_some_iff.1 hh).1, fun q => frozen_of_row _ _ _ _ _ hh, fun i a hi => ?_⟩
    have hin : i < l.length := (List.getElem?_eq_some_iff.1 hi).1
    obtain ⟨b, o, v, cs, e1, _, e2, e3, e4, e5⟩ := hs.at_ hin
    cases e1
    rw [hi] at e2
    cases e2
    obtain ⟨X, C', rfl, _⟩ := e3.open_
    refine ⟨X, C', e3.keep fun b hb => ⟨⟨hb.1, hb.2.1, fun e => hb.2.2 (by rw [e]; rfl)⟩, rfl⟩, fun j hj => ?_⟩
    rw [← e5 j hj]
    congr 2
    omega
theorem ZRow.keep {w w' : World} {base : Nat} {A : Option Addr} {n : Nat} {l : List Exp} (h : ZRow w base A n l) (hb : Below w.heap.size w w') : ZRow w' base A n l := by
  refine ⟨h.1, fun hn => ?_⟩
  obtain ⟨g, e, h1, h2, h3, h4⟩ := h.2 hn
  refine ⟨g, e, h1, Nat.lt_of_lt_of_le h2 hb.size, fun q => (hb.frozen (p := ⟨g, q, none⟩) h2).trans (h3 q), fun i a hi => ?_⟩
  obtain ⟨X, C, h5, h6⟩ := h4 i a hi
  exact ⟨X, C, h5.keep fun b hb' => ⟨⟨hb'.1, Nat.lt_of_lt_of_le hb'.2.1 hb.size, hb'.2.2⟩, hb.block b hb'.2.1⟩, fun j hj => (hb.cell (p := ⟨g, _, none⟩) h2).trans (h6 j hj)⟩
theorem zip_set {l m : List Exp} {k n : Nat} {a : Exp} (h : l[k]? = some a) (hl : l.length = n) (hk : k < m.length) : (l.take k ++ m.drop k).set k a = l.take (k + 1) ++ m.drop (k + 1) := by
  have hkl : k < l.length := (List.getElem?_eq_some_iff.1 h).1
  rw [List.set_append_right _ _ (by simp; omega), List.length_take, Nat.min_eq_left (by omega), Nat.sub_self, List.take_add_one, h, List.drop_eq_getElem_cons hk, List.set_cons_zero, List.append_assoc]
  rfl
theorem rows6c' {w w1 : World} {b o : Nat} {v0 v1 v2 v3 v4 v5 : Value} (h : w.cell? ⟨b, o, none⟩ = some v0 ∧ w.cell? ⟨b, o + 1, none⟩ = some v1 ∧ w.cell? ⟨b, o + 2, none⟩ = some v2 ∧ w.cell? ⟨b, o + 3, none⟩ = some v3 ∧ w.cell? ⟨b, o + 4, none⟩ = some v4 ∧ w.cell? ⟨b, o + 5, none⟩ = some v5) (hb : Below w.heap.size w w1) :
    w1.cell? ⟨b, o, none⟩ = some v0 ∧ w1.cell? ⟨b, o + 1, none⟩ = some v1 ∧ w1.cell? ⟨b, o + 2, none⟩ = some v2 ∧ w1.cell? ⟨b, o + 3, none⟩ = some v3 ∧ w1.cell? ⟨b, o + 4, none⟩ = some v4 ∧ w1.cell? ⟨b, o + 5, none⟩ = some v5 :=
  ⟨cell_keep h.1 hb, cell_keep h.2.1 hb, cell_keep h.2.2.1 hb, cell_keep h.2.2.2.1 hb, cell_keep h.2.2.2.2.1 hb, cell_keep h.2.2.2.2.2 hb⟩
theorem heap_setCells_not (w : World) (g : Nat) (b : Nat) (h : b ≠ g) : ∀ (vs : List Value) (o : Nat) , (w.setCells g o vs).heap[b]? = w.heap[b]?  := by
  intro vs
  induction vs generalizing w with
  | nil => intro o; rfl
  | cons v r ih => intro o; rw [World.setCells, ih, heap_setCell_other _ _ _ _ h]
theorem size_setCells (g : Nat) : ∀ (vs : List Value) (w : World) (o : Nat), (w.setCells g o vs).heap.size = w.heap.size
  | [], _, _ => rfl
  | v :: r, w, o => by rw [World.setCells, size_setCells g r]; simp
/-- One formula of the row is replaced. -/
theorem ZRow.put {w : World} {base : Nat} {g n : Nat} {l : List Exp} (h : ZRow w base (some ⟨g, 0, none⟩) n l) {k : Nat} (hk : k < n) {a : Exp} {X : Option Addr} {C : Nat} (ha : XRep w (apart base g w) (a.cells X C) a) :
    ZRow (w.setCells g (0 + k * 6) (a.cells X C)) base (some ⟨g, 0, none⟩) n (l.set k a) := by
  refine ⟨by rw [List.length_set]; exact h.1, fun hn => ?_⟩
  obtain ⟨g', e, h1, h2, h3, h4⟩ := h.2 hn
  cases e
  have hkeep : ∀ b, apart base g w b → apart base g (w.setCells g (0 + k * 6) (a.cells X C)) b ∧ (w.setCells g (0 + k * 6) (a.cells X C)).heap[b]? = w.heap[b]? :=
    fun b hb => ⟨⟨hb.1, by rw [size_setCells]; exact hb.2.1, hb.2.2⟩, heap_setCells_not _ _ _ hb.2.2 _ _⟩
  refine ⟨g, rfl, h1, by rw [size_setCells]; exact h2, fun q => by rw [World.frozen?_setCells]; exact h3 q, fun i b hi => ?_⟩
  by_cases hik : i = k
  · subst hik
    rw [List.getElem?_set_self (by rw [h.1]; exact hk)] at hi
    cases hi
    refine ⟨X, C, ha.keep hkeep, fun j hj => ?_⟩
    have hlk : l[i]? = some (l[i]'(by rw [h.1]; exact hk)) := List.getElem?_eq_getElem _
    obtain ⟨X0, C0, _, h6⟩ := h4 i _ hlk
    rw [World.cell?_setCells_in g _ _ _ (fun j' hj' => ?_) j (by simpa using hj)]
    · exact (List.getElem?_eq_getElem (l := a.cells X C) (by simpa using hj)).symm
    · rw [h6 j' (by simpa using hj'), List.getElem?_eq_getElem (by simpa using hj')]; rfl
  · rw [List.getElem?_set_ne (fun e => hik e.symm)] at hi
    obtain ⟨X0, C0, h5, h6⟩ := h4 i b hi
    refine ⟨X0, C0, h5.keep hkeep, fun j hj => ?_⟩
    rw [← h6 j hj]
    refine World.cell?_setCells_out g _ _ _ _ (fun _ _ => ?_)
    simp only [List.length_cons, List.length_nil]
    omega
theorem ZRow.sl {w : World} {base : Nat} {A : Option Addr} {n : Nat} {l : List Exp} (h : ZRow w base A n l) : Sl w (since base w) 6 (XRep w (since base w)) A n l := by
  refine ⟨h.1, fun hn => ?_⟩
  obtain ⟨g, e, h1, h2, h3, h4⟩ := h.2 hn
  refine ⟨g, 0, e, ⟨h1, h2⟩, fun i a hi => ?_⟩
  obtain ⟨X, C, h5, h6⟩ := h4 i a hi
  refine ⟨a.cells X C, h5.keep fun b hb => ⟨⟨hb.1, hb.2.1⟩, rfl⟩, rfl, fun j hj => ?_⟩
  rw [← h6 j hj]
  congr 2
  omega

end Go.Proofs.YtgmcojnhpedpnaaGreat
/- The reference valued, ValueBy; and eval.Of. -/
namespace Go.Proofs.YtgmcojnhpedpnaaGreat
open Go.RowKit Go.Maps

theorem factV_hit {l : List Fct} {nm : ByteArray} {k : Nat} {y : Fct} (h0 : (l.take k).any (sameName nm) = false) (h1 : l[k]? = some y) (h2 : sameName nm y = true) : factV l nm = some y.has := by
  unfold factV; rw [find_take h0 h1 h2]; rfl
theorem factV_none {l : List Fct} {nm : ByteArray} (h0 : l.any (sameName nm) = false) : factV l nm = none := by
  unfold factV; rw [find_none _ _ h0]; rfl
section
variable (l : List Fct) (hl : factsOk l) (F : Option Addr) (nF cF N : Nat) (IH : ValN l F nF cF N)
set_option maxRecDepth 100000 in
set_option maxHeartbeats 8000000 in
theorem valued_ref (hnF : inL nF) (x : Exp) (A : Option Addr) (c : Nat) (w : World) (ho2 : x.op = 2) (hF : Sl w (old w) 7 RFct F nF l) :
    Calls Tryz.prog 69 #[.agg (x.cs A c).toArray, .slice F nF cF] w (RetV w ((factV l x.name).getD (faultV 5))) := by
  have hob : (x.op == 1) = false := by rw [ho2]; rfl
  have hob2 : (x.op == 2) = true := by rw [ho2]; rfl
  obtain ⟨out, hout⟩ : ∃ v, (factV l x.name).getD (faultV 5) = v := ⟨_, rfl⟩
  rw [hout]
  have HO := Lib.hid hout
  have HF := Lib.hid (And.intro hF hF.len)
  unfold inL at hnF
  clear ho2 hF hout
  go_enter Tryz.func69, Tryz.ntmps69
  go_wp2_with fail
  obtain ⟨W, hW⟩ : ∃ W, W = ((w.alloc (.cells #[.int .i64 x.op, .int .i64 x.v.k, .int .i64 x.v.n, .string x.v.s, .string x.name, .slice A x.args.length c] 26)).alloc (.cells #[.int .i64 0, .int .i64 0, .string ⟨#[]⟩] 23)) := ⟨_, rfl⟩
  have hb0 : Below w.heap.size w W := by rw [hW]; exact bel
  have d0 : W.cell? ⟨w.heap.size, 2, none⟩ = some (.int .i64 x.v.n) := by rw [hW]; go_simp
  have d1 : W.cell? ⟨w.heap.size, 4, none⟩ = some (.string x.name) := by rw [hW]; go_simp
  have r0 : W.cell? ⟨w.heap.size + 1, 0, none⟩ = some (.int .i64 0) := by rw [hW]; go_simp
  have r1 : W.cell? ⟨w.heap.size + 1, 1, none⟩ = some (.int .i64 0) := by rw [hW]; go_simp
  have r2 : W.cell? ⟨w.heap.size + 1, 2, none⟩ = some (.string ⟨#[]⟩) := by rw [hW]; go_simp
  have q0 : W.frozen? ⟨w.heap.size + 1, 0, none⟩ = false := by rw [hW]; go_simp
  have q1 : W.frozen? ⟨w.heap.size + 1, 1, none⟩ = false := by rw [hW]; go_simp
  have q2 : W.frozen? ⟨w.heap.size + 1, 2, none⟩ = false := by rw [hW]; go_simp
  have hsz : w.heap.size + 2 ≤ W.heap.size := by rw [hW]; simp
  rw [← hW]
  clear hW
  have HB0 := Lib.hid hb0
  clear hb0
  go_loopw [31] (fun i wr => ∃ k : Nat, k ≤ nF ∧ i = .int .i64 k ∧ Hid ((l.take k).any (sameName x.name) = false) ∧ Below W.heap.size W wr) (fun i _ => nF - (intOf i).toNat)
  case atStart => exact ⟨0, by omega, rfl, Lib.hid (by simp), Below.refl _ _⟩
  case round =>
    obtain ⟨k, hk, rfl, hz, hbr⟩ := hrel
    have HBr := Lib.hid (show Below w.heap.size w wr from below_step HB0.out hbr (by omega))
    have hw1 : w.heap.size < W.heap.size := by omega
    have hw2 : w.heap.size + 1 < W.heap.size := by omega
    obtain ⟨hcr, hfr⟩ := bcell hbr; (try simp only [World.heap_drewN, World.cell?_drewN, World.frozen?_drewN] at hcr hfr); have hzr := hbr.size; (try simp at hzr); (try (have hyr := Nat.lt_of_succ_le hzr)); (try (have hxr := Nat.lt_of_succ_lt hyr)); (first | refine szz6 wr w (by omega) ?_ | refine szz5 wr w (by omega) ?_ | refine szz4 wr w (by omega) ?_ | refine szz3 wr w (by omega) ?_ | refine szz2 wr w (by omega) ?_ | refine szz1 wr w (by omega) ?_ | refine szz0 wr w (by omega) ?_ | refine szzn wr w (by omega) ?_ | skip); intros; (first | refine szz6 wr W (by omega) ?_ | refine szz5 wr W (by omega) ?_ | refine szz4 wr W (by omega) ?_ | refine szz3 wr W (by omega) ?_ | refine szz2 wr W (by omega) ?_ | refine szz1 wr W (by omega) ?_ | refine szz0 wr W (by omega) ?_ | refine szzn wr W (by omega) ?_ | skip); intros
    by_cases hlt : k < nF
    · obtain ⟨b, o, y, hFe, hbl, hy, hwf, x0, x1, x2, x3, x4, x5, x6⟩ := Fct_at (HF.out.1.now HBr.out) hlt
      subst hFe
      have hbl' : b < wr.heap.size := hbl
      have HL := Lib.hid hy
      have hsn : sameName x.name y = (y.name.toList == x.name.toList) := rfl
      clear hy hwf hbl
      cases hp : (y.name.toList == x.name.toList)
      · have HP := Lib.hid (hsn.trans hp)
        clear hsn
        go_wp2_with fail
        go_roundw
        case rel => exact ⟨k + 1, by omega, by go_num, Lib.hid (any_next hz.out HL.out HP.out), bel⟩
        case measure => simp [intOf]; omega
      · have HD := Lib.hid (show y.has = out by rw [← HO.out, factV_hit hz.out HL.out (hsn.trans hp)]; rfl)
        have hBw := HBr.out
        clear hsn
        go_wp2_with fail
        exact bodyPost_ret (v := .agg #[.int .i64 y.has.k, .int .i64 y.has.n, .string y.has.s]) (by first | (simp [results, Tryz.results69, go_sem]; done) | (simp [results, Tryz.results69, go_sem, *]; done)) rfl ⟨by rw [HD.out], bel⟩
    · have hke : k = nF := by omega
      subst hke
      have HD := Lib.hid (show faultV 5 = out by rw [← HO.out, factV_none (by have h := hz.out; rwa [List.take_of_length_le (by rw [HF.out.2]; exact Nat.le_refl _)] at h)]; rfl)
      have hBw := HBr.out
      go_wp2_with (go_at_call 106; refine (ref_no _ _).mono ?_; rintro e w6 ⟨rfl, hb6⟩; obtain ⟨hc6, hf6⟩ := bcell hb6; (try simp only [World.heap_drewN, World.cell?_drewN, World.frozen?_drewN] at hc6 hf6); have hz6 := hb6.size; (try simp at hz6); (try (have hy6 := Nat.lt_of_succ_le hz6)); (try (have hx6 := Nat.lt_of_succ_lt hy6)); (first | refine szz6 w6 w (by omega) ?_ | refine szz5 w6 w (by omega) ?_ | refine szz4 w6 w (by omega) ?_ | refine szz3 w6 w (by omega) ?_ | refine szz2 w6 w (by omega) ?_ | refine szz1 w6 w (by omega) ?_ | refine szz0 w6 w (by omega) ?_ | refine szzn w6 w (by omega) ?_ | skip); intros; (first | refine szz6 w6 W (by omega) ?_ | refine szz5 w6 W (by omega) ?_ | refine szz4 w6 W (by omega) ?_ | refine szz3 w6 W (by omega) ?_ | refine szz2 w6 W (by omega) ?_ | refine szz1 w6 W (by omega) ?_ | refine szz0 w6 W (by omega) ?_ | refine szzn w6 W (by omega) ?_ | skip); intros; (first | refine szz6 w6 wr (by omega) ?_ | refine szz5 w6 wr (by omega) ?_ | refine szz4 w6 wr (by omega) ?_ | refine szz3 w6 wr (by omega) ?_ | refine szz2 w6 wr (by omega) ?_ | refine szz1 w6 wr (by omega) ?_ | refine szz0 w6 wr (by omega) ?_ | refine szzn w6 wr (by omega) ?_ | skip); intros; dsimp only)
      exact bodyPost_ret (v := .agg #[.int .i64 5, .int .i64 5, .string ⟨#[]⟩]) (by first | (simp [results, Tryz.results69, go_sem]; done) | (simp [results, Tryz.results69, go_sem, *]; done)) rfl ⟨by rw [← HD.out]; rfl, bel⟩
set_option maxRecDepth 100000 in
set_option maxHeartbeats 8000000 in
theorem valued_con (x : Exp) (A : Option Addr) (c : Nat) (w : World) (ho1 : x.op = 1) :
    Calls Tryz.prog 69 #[.agg (x.cs A c).toArray, .slice F nF cF] w (RetV w x.v) := by
  have hob : (x.op == 1) = true := by rw [ho1]; rfl
  clear ho1
  go_enter Tryz.func69, Tryz.ntmps69
  go_wp2_with fail
  exact bodyPost_ret (v := .agg #[.int .i64 x.v.k, .int .i64 x.v.n, .string x.v.s]) (by first | (simp [results, Tryz.results69, go_sem]; done) | (simp [results, Tryz.results69, go_sem, *]; done)) rfl ⟨rfl, bel⟩
include hl IH
theorem valued_step (hnF : inL nF) : ValN l F nF cF (N + 1) := by
  intro x A c w hN hp hx hF
  obtain ⟨i1, i2, i3, i4, i5, hsl, hch⟩ := hx.kids
  obtain ⟨p1, p2, p3, p4⟩ := prt_ok hp
  have hkid : ∀ a ∈ x.args, a.nodes ≤ N ∧ prtN a = 0 := by
    intro a ha
    obtain ⟨i, hi⟩ := List.mem_iff_getElem?.1 ha
    exact ⟨by have := hch i a hi; omega, p4 a ha⟩
  have hok : ∀ a ∈ x.args, valCheck (evX l a) = 0 := fun a ha => evX_ok hl a.nodes a (Nat.le_refl _) (hkid a ha).2
  by_cases ho1 : x.op = 1
  · rw [evX_const l ho1]; exact valued_con F nF cF x A c w ho1
  by_cases ho2 : x.op = 2
  · rw [evX_ref l ho2]; exact valued_ref l F nF cF hnF x A c w ho2 hF
  rw [evX_app l ho1 ho2]
  rcases (by omega : x.op = 15 ∨ x.op = 16 ∨ x.op = 17 ∨ (x.op = 3 ∨ x.op = 4 ∨ x.op = 18) ∨ (x.op = 5 ∨ x.op = 6 ∨ x.op = 7 ∨ x.op = 8 ∨ x.op = 9 ∨ x.op = 10 ∨ x.op = 11 ∨ x.op = 12 ∨ x.op = 13 ∨ x.op = 14)) with ho | ho | ho | ho | ho
  · rw [ho]; exact valued_15 l hl F nF cF N IH x A c w ho p3 hkid hx hF
  · rw [ho]; exact valued_16 l hl F nF cF N IH x A c w ho p3 hkid hx hF
  · rw [ho]; exact valued_17 l hl F nF cF N IH x A c w ho p3 hkid hx hF
  · rw [opV_rest (by omega)]
    have hn : x.args.length = 1 := by
      rcases ho with h | h | h <;> (rw [h] at p3; have p3 : (x.args.length : Int) = 1 := p3; omega)
    obtain ⟨a0, ha⟩ : ∃ a0, x.args = [a0] := by
      match x.args, hn with
      | [a0], _ => exact ⟨a0, rfl⟩
    have h0 : x.args[0]? = some a0 := by rw [ha]; rfl
    have m0 : a0 ∈ x.args := by rw [ha]; simp
    rw [show x.args.map (evX l) = [evX l a0] by rw [ha]; rfl]
    rcases ho with h | h | h
    · rw [h]; exact valued_3 l F nF cF N IH x a0 _ h0 A c w h hn rfl (hkid a0 m0) (hok a0 m0) hx hF
    · rw [h]; exact valued_4 l F nF cF N IH x a0 _ h0 A c w h hn rfl (hkid a0 m0) (hok a0 m0) hx hF
    · rw [h]; exact valued_18 l F nF cF N IH x a0 _ h0 A c w h hn rfl (hkid a0 m0) (hok a0 m0) hx hF
  · rw [opV_rest (by omega)]
    have hn : x.args.length = 2 := by
      rcases ho with h | h | h | h | h | h | h | h | h | h <;> (rw [h] at p3; have p3 : (x.args.length : Int) = 2 := p3; omega)
    obtain ⟨a0, a1, ha⟩ : ∃ a0 a1, x.args = [a0, a1] := by
      match x.args, hn with
      | [a0, a1], _ => exact ⟨a0, a1, rfl⟩
    have h0 : x.args[0]? = some a0 := by rw [ha]; rfl
    have h1 : x.args[1]? = some a1 := by rw [ha]; rfl
    have m0 : a0 ∈ x.args := by rw [ha]; simp
    have m1 : a1 ∈ x.args := by rw [ha]; simp
    rw [show x.args.map (evX l) = [evX l a0, evX l a1] by rw [ha]; rfl]
    rcases ho with h | h | h | h | h | h | h | h | h | h
    · rw [h]; exact valued_5 l F nF cF N IH x a0 _ h0 a1 _ h1 A c w h hn rfl (hkid a0 m0) (hok a0 m0) rfl (hkid a1 m1) (hok a1 m1) hx hF
    · rw [h]; exact valued_6 l F nF cF N IH x a0 _ h0 a1 _ h1 A c w h hn rfl (hkid a0 m0) (hok a0 m0) rfl (hkid a1 m1) (hok a1 m1) hx hF
    · rw [h]; exact valued_7 l F nF cF N IH x a0 _ h0 a1 _ h1 A c w h hn rfl (hkid a0 m0) (hok a0 m0) rfl (hkid a1 m1) (hok a1 m1) hx hF
    · rw [h]; exact valued_8 l F nF cF N IH x a0 _ h0 a1 _ h1 A c w h hn rfl (hkid a0 m0) (hok a0 m0) rfl (hkid a1 m1) (hok a1 m1) hx hF
    · rw [h]; exact valued_9 l F nF cF N IH x a0 _ h0 a1 _ h1 A c w h hn rfl (hkid a0 m0) (hok a0 m0) rfl (hkid a1 m1) (hok a1 m1) hx hF
    · rw [h]; exact valued_10 l F nF cF N IH x a0 _ h0 a1 _ h1 A c w h hn rfl (hkid a0 m0) (hok a0 m0) rfl (hkid a1 m1) (hok a1 m1) hx hF
    · rw [h]; exact valued_11 l F nF cF N IH x a0 _ h0 a1 _ h1 A c w h hn rfl (hkid a0 m0) (hok a0 m0) rfl (hkid a1 m1) (hok a1 m1) hx hF
    · rw [h]; exact valued_12 l F nF cF N IH x a0 _ h0 a1 _ h1 A c w h hn rfl (hkid a0 m0) (hok a0 m0) rfl (hkid a1 m1) (hok a1 m1) hx hF
    · rw [h]; exact valued_13 l F nF cF N IH x a0 _ h0 a1 _ h1 A c w h hn rfl (hkid a0 m0) (hok a0 m0) rfl (hkid a1 m1) (hok a1 m1) hx hF
    · rw [h]; exact valued_14 l F nF cF N IH x a0 _ h0 a1 _ h1 A c w h hn rfl (hkid a0 m0) (hok a0 m0) rfl (hkid a1 m1) (hok a1 m1) hx hF
end
theorem valued_N (l : List Fct) (hl : factsOk l) (F : Option Addr) (nF cF : Nat) (hnF : inL nF) : ∀ N, ValN l F nF cF N
  | 0 => by
    intro x A c w hN
    obtain ⟨op, v, nm, args⟩ := x
    simp [Exp.nodes] at hN
  | N + 1 => valued_step l hl F nF cF N (valued_N l hl F nF cF hnF N) hnF
end Go.Proofs.YtgmcojnhpedpnaaGreat
/- The reference folded. -/
namespace Go.Proofs.YtgmcojnhpedpnaaGreat
open Go.RowKit

theorem empty_of_check {s : ByteArray} (h : emptyCheck s = 0) : s = ⟨#[]⟩ := by
  unfold emptyCheck at h
  split at h
  · rename_i h3
    exact toList_inj ((List.isEmpty_iff.1 h3).trans (ByteArray.toList_eq ⟨#[]⟩).symm)
  · cases h
theorem arg0_empty {x : Exp} {l : List Exp} {a0 : Exp} (hp : prtN x = 0) (hl : l = x.args.map foldX) (ha : l[0]? = some a0) (ho : (a0.op == 1) = true) (hk : (a0.v.k == 2) = true) : a0.v.s = ⟨#[]⟩ := by
  obtain ⟨p1, p2, p3, p4⟩ := prt_ok hp
  have hm := List.mem_of_getElem? ha
  rw [hl] at hm
  obtain ⟨a, hma, rfl⟩ := List.mem_map.1 hm
  have hkn := foldX_const _ a (Nat.le_refl _) (p4 a hma) (by simpa using ho)
  have hc := (known_bd hkn).1
  have hk' : (foldX a).v.k = 2 := by simpa using hk
  unfold valCheck at hc
  rw [if_neg (by omega), if_pos hk'] at hc
  split at hc
  · exact empty_of_check hc
  · cases hc
set_option maxRecDepth 100000 in
set_option maxHeartbeats 4000000 in
theorem ref_folded_known (x : Exp) (A : Option Addr) (c : Nat) (w : World) (hN : x.nodes ≤ 1048576) (he : exprErr x = 0) (hx : XRep w (old w) (x.cs A c) x) (hk : askN x = []) (hk2 : valKnown (evX [] x) = true) :
    Calls Tryz.prog 31 #[.agg (x.cs A c).toArray] w (RetExp w (foldX x)) := by
  rw [foldX_known hk hk2]
  have hask := fun w h => ref_asked _ x A c w (Nat.le_refl _) (askN_small hN) h
  rw [hk] at hask
  have hva := fun w h => valued_N [] factsOk_nil none 0 0 (by unfold inL; omega) x.nodes x A c w (Nat.le_refl _) (prt_of_exprErr he) h Sl.nil
  obtain ⟨u, hu⟩ : ∃ u, u = evX [] x := ⟨_, rfl⟩
  rw [← hu] at hva hk2 ⊢
  obtain ⟨hc0, hka, hkb⟩ := known_bd hk2
  have hwf := val_wf hc0
  have HX := Lib.hid hx
  have HW := Lib.hid hwf
  clear hx hk hk2 hu he
  have hk4 : u.k < 4 := by omega
  by_cases hneg : u.k = 1 ∧ u.n < 0
  · have hcx : constX u = .mk 3 ⟨0, 0, noStr⟩ noStr [.mk 1 ⟨u.k, -u.n, u.s⟩ noStr []] := by unfold constX; rw [if_pos hneg]
    rw [hcx]
    obtain ⟨hs0, hb1, hb2⟩ := num_bd hc0 hneg.1
    obtain ⟨k, n, s⟩ := u
    obtain ⟨h1, h2⟩ := hneg
    dsimp only at h1 h2 hb1 hb2 hs0 ⊢
    subst h1
    subst hs0
    have hn : -9223372036854775808 ≤ -n ∧ -n ≤ 9223372036854775807 := by omega
    have hwf2 : (⟨1, -n, ⟨#[]⟩⟩ : Val).wf := ⟨inI_one, inI_of hn.1 hn.2, str0⟩
    clear hcx hc0 hka hkb hk4 hwf
    have HW2 := Lib.hid hwf2
    clear hwf2
    go_enter Tryz.func31, Tryz.ntmps31
    go_wp2_with (first
      | (go_at_call 33; refine (hask _ (HX.out.keep (old_keep bel))).mono ?_; clear hask; rintro e w2 ⟨v2, rfl, hown2, hb2⟩; obtain ⟨A2, c2, rfl, hc2', hs2⟩ := ownStr hown2 rfl (fun a ha => absurd ha List.not_mem_nil); clear hown2 hs2 hc2'; obtain ⟨hc2, hf2⟩ := bcell hb2; (try simp only [World.heap_drewN, World.cell?_drewN, World.frozen?_drewN] at hc2 hf2); have hz2 := hb2.size; (try simp at hz2); (try (have hy2 := Nat.lt_of_succ_le hz2)); (try (have hx2 := Nat.lt_of_succ_lt hy2)); (first | refine szz6 w2 w (by omega) ?_ | refine szz5 w2 w (by omega) ?_ | refine szz4 w2 w (by omega) ?_ | refine szz3 w2 w (by omega) ?_ | refine szz2 w2 w (by omega) ?_ | refine szz1 w2 w (by omega) ?_ | refine szz0 w2 w (by omega) ?_ | refine szzn w2 w (by omega) ?_ | skip); intros;)
      | (go_at_call 69; refine (hva _ (HX.out.keep (old_keep bel))).mono ?_; clear hva; rintro e w3 ⟨rfl, hb3⟩; obtain ⟨hc3, hf3⟩ := bcell hb3; (try simp only [World.heap_drewN, World.cell?_drewN, World.frozen?_drewN] at hc3 hf3); have hz3 := hb3.size; (try simp at hz3); (try (have hy3 := Nat.lt_of_succ_le hz3)); (try (have hx3 := Nat.lt_of_succ_lt hy3)); (first | refine szz6 w3 w (by omega) ?_ | refine szz5 w3 w (by omega) ?_ | refine szz4 w3 w (by omega) ?_ | refine szz3 w3 w (by omega) ?_ | refine szz2 w3 w (by omega) ?_ | refine szz1 w3 w (by omega) ?_ | refine szz0 w3 w (by omega) ?_ | refine szzn w3 w (by omega) ?_ | skip); intros; (first | refine szz6 w3 w2 (by omega) ?_ | refine szz5 w3 w2 (by omega) ?_ | refine szz4 w3 w2 (by omega) ?_ | refine szz3 w3 w2 (by omega) ?_ | refine szz2 w3 w2 (by omega) ?_ | refine szz1 w3 w2 (by omega) ?_ | refine szz0 w3 w2 (by omega) ?_ | refine szzn w3 w2 (by omega) ?_ | skip); intros))
    have hy9 : w.heap.size + 1 < w.heap.size + 1 + 1 := by omega
    refine bodyPost_ret (v := .agg #[.int .i64 3, .int .i64 0, .int .i64 0, .string ⟨#[]⟩, .string ⟨#[]⟩, .slice (some ⟨w3.heap.size + 1, 0, none⟩) 1 1]) (by first | (simp [results, Tryz.results31, go_sem]; done) | (simp [results, Tryz.results31, go_sem, *]; done)) rfl ?_
    refine ⟨some ⟨w3.heap.size + 1, 0, none⟩, 1, rfl, ?_, bel⟩
    refine XRep.shut (v := ⟨0, 0, noStr⟩) (args := [.mk 1 ⟨1, -n, ⟨#[]⟩⟩ noStr []]) (n := 1) inI_three ⟨(rfl : inI 0), (rfl : inI 0), str0⟩ str0 (by unfold inB; omega) (Nat.le_refl _) ?_
    refine slOneX (e := 26) (fr := (0, 0)) (.mk 1 ⟨1, -n, ⟨#[]⟩⟩ noStr []) none 0 ⟨by omega, by simp⟩ (const_rep HW2.out) ?_
    exact heap_new_at (by simp)
  · have hcx : constX u = .mk 1 u noStr [] := by unfold constX; rw [if_neg hneg]
    rw [hcx]
    obtain ⟨k, n, s⟩ := u
    dsimp only at hneg hk4 ⊢
    have hcase : (k == 1) = false ∨ ((k == 1) = true ∧ ¬ n < 0) := by
      by_cases h1 : k = 1
      · exact .inr ⟨by simpa using h1, fun h => hneg ⟨h1, h⟩⟩
      · exact .inl (by simpa using h1)
    clear hcx hc0 hka hkb hwf hneg
    rcases hcase with hk1 | ⟨hk1, hn0⟩
    all_goals
      go_enter Tryz.func31, Tryz.ntmps31
      go_wp2_with (first
        | (go_at_call 33; refine (hask _ (HX.out.keep (old_keep bel))).mono ?_; clear hask; rintro e w2 ⟨v2, rfl, hown2, hb2⟩; obtain ⟨A2, c2, rfl, hc2', hs2⟩ := ownStr hown2 rfl (fun a ha => absurd ha List.not_mem_nil); clear hown2 hs2 hc2'; obtain ⟨hc2, hf2⟩ := bcell hb2; (try simp only [World.heap_drewN, World.cell?_drewN, World.frozen?_drewN] at hc2 hf2); have hz2 := hb2.size; (try simp at hz2); (try (have hy2 := Nat.lt_of_succ_le hz2)); (try (have hx2 := Nat.lt_of_succ_lt hy2)); (first | refine szz6 w2 w (by omega) ?_ | refine szz5 w2 w (by omega) ?_ | refine szz4 w2 w (by omega) ?_ | refine szz3 w2 w (by omega) ?_ | refine szz2 w2 w (by omega) ?_ | refine szz1 w2 w (by omega) ?_ | refine szz0 w2 w (by omega) ?_ | refine szzn w2 w (by omega) ?_ | skip); intros;)
        | (go_at_call 69; refine (hva _ (HX.out.keep (old_keep bel))).mono ?_; clear hva; rintro e w3 ⟨rfl, hb3⟩; obtain ⟨hc3, hf3⟩ := bcell hb3; (try simp only [World.heap_drewN, World.cell?_drewN, World.frozen?_drewN] at hc3 hf3); have hz3 := hb3.size; (try simp at hz3); (try (have hy3 := Nat.lt_of_succ_le hz3)); (try (have hx3 := Nat.lt_of_succ_lt hy3)); (first | refine szz6 w3 w (by omega) ?_ | refine szz5 w3 w (by omega) ?_ | refine szz4 w3 w (by omega) ?_ | refine szz3 w3 w (by omega) ?_ | refine szz2 w3 w (by omega) ?_ | refine szz1 w3 w (by omega) ?_ | refine szz0 w3 w (by omega) ?_ | refine szzn w3 w (by omega) ?_ | skip); intros; (first | refine szz6 w3 w2 (by omega) ?_ | refine szz5 w3 w2 (by omega) ?_ | refine szz4 w3 w2 (by omega) ?_ | refine szz3 w3 w2 (by omega) ?_ | refine szz2 w3 w2 (by omega) ?_ | refine szz1 w3 w2 (by omega) ?_ | refine szz0 w3 w2 (by omega) ?_ | refine szzn w3 w2 (by omega) ?_ | skip); intros))
      have hy9 : w.heap.size + 1 < w.heap.size + 1 + 1 := by omega
      refine bodyPost_ret (v := .agg #[.int .i64 1, .int .i64 k, .int .i64 n, .string s, .string ⟨#[]⟩, .slice none 0 0]) (by first | (simp [results, Tryz.results31, go_sem]; done) | (simp [results, Tryz.results31, go_sem, *]; done)) rfl ?_
      exact ⟨none, 0, rfl, const_rep HW.out, bel⟩

set_option maxRecDepth 100000 in
set_option maxHeartbeats 8000000 in
theorem ref_folded (N : Nat) : ∀ (x : Exp) (A : Option Addr) (c : Nat) (w : World), x.nodes ≤ N → x.nodes ≤ 1048576 → exprErr x = 0 → XRep w (old w) (x.cs A c) x → Calls Tryz.prog 31 #[.agg (x.cs A c).toArray] w (RetExp w (foldX x)) := by
  induction N with
  | zero =>
    intro x A c w hN
    obtain ⟨op, v, nm, args⟩ := x
    simp [Exp.nodes] at hN
  | succ N ih =>
    intro x A c w hN hM he hx
    by_cases hk : askN x = [] ∧ valKnown (evX [] x) = true
    · exact ref_folded_known x A c w hM he hx hk.1 hk.2
    rw [foldX_else hk]
    have HI := Lib.hid ih
    clear ih
    obtain ⟨A0, c0, e0, i1, i2, i3, i4, i5, hsl⟩ := hx.open_
    simp only [List.cons.injEq, Value.slice.injEq, and_true, true_and] at e0
    obtain ⟨rfl, rfl⟩ := e0
    have hkid : ∀ (i : Nat) (a : Exp), x.args[i]? = some a → a.nodes ≤ N ∧ a.nodes ≤ 1048576 ∧ exprErr a = 0 := by
      intro i a h
      have hm := List.mem_of_getElem? h
      have := nodes_mem hm
      exact ⟨by omega, by omega, exprErr_kid he hM hm⟩
    have hask := fun w h => ref_asked _ x A c w (Nat.le_refl _) (askN_small hM) h
    have hva := fun w h => valued_N [] factsOk_nil none 0 0 (by unfold inL; omega) x.nodes x A c w (Nat.le_refl _) (prt_of_exprErr he) h Sl.nil
    have hin : ∀ s ∈ askN x, inS s := fun s hs => askN_inS hx s hs
    have hc0 : valCheck (evX [] x) = 0 := evX_ok factsOk_nil _ x (Nat.le_refl _) (prt_of_exprErr he)
    have hp := prt_of_exprErr he
    obtain ⟨l, hl0⟩ : ∃ l, l = x.args.map foldX := ⟨_, rfl⟩
    have hll : l.length = x.args.length := by rw [hl0]; simp
    have hlg : ∀ i a, x.args[i]? = some a → l[i]? = some (foldX a) := fun i a h => by rw [hl0, List.getElem?_map, h]; rfl
    rw [← hl0]
    have HX := Lib.hid hx
    have HH := Lib.hid (And.intro hsl (And.intro hkid (And.intro i1 (And.intro i2 (And.intro i3 (And.intro i4 (And.intro hll hlg)))))))
    have hlen : x.args.length ≤ 1759218604416 := by unfold inB at i4; omega
    have HP := Lib.hid (And.intro hp hl0)
    have hal := askN_small hM
    obtain ⟨u, hu⟩ : ∃ u, u = evX [] x := ⟨_, rfl⟩
    rw [← hu] at hva hk hc0
    obtain ⟨R, hR⟩ : ∃ R, R = askN x := ⟨_, rfl⟩
    rw [← hR] at hask hk hin hal
    have hb : ((R.length : Int) == 0) = false ∨ (((R.length : Int) == 0) = true ∧ (u.k == 1) = false ∧ ¬ u.k < 4) := by
      by_cases h1 : R = []
      · refine .inr ⟨by rw [h1]; rfl, ?_⟩
        have hq : ¬ valKnown u = true := fun h => hk ⟨h1, h⟩
        have hkd := valCheck_kind hc0
        have h4 : ¬ u.k < 4 := fun h => hq (by
          unfold valKnown
          simp only [Bool.and_eq_true, decide_eq_true_eq]
          exact ⟨⟨by omega, by omega⟩, hc0⟩)
        exact ⟨by simp only [beq_eq_false_iff_ne, ne_eq]; omega, h4⟩
      · refine .inl ?_
        have : R.length ≠ 0 := fun h => h1 (List.eq_nil_of_length_eq_zero h)
        simp only [beq_eq_false_iff_ne, ne_eq]; omega
    have HIN := Lib.hid hin
    clear hsl hkid hx hN i1 i2 i3 i4 i5 hll hlg hl0 hk hM he hc0 hp hu hin hR
    obtain ⟨uk, un, us⟩ := u
    dsimp only at hb
    obtain ⟨y, hy⟩ : ∃ y : Exp, y = Exp.mk x.op x.v x.name l := ⟨_, rfl⟩
    have e0 : y.op = x.op := by rw [hy]; rfl
    have e1 : y.v = x.v := by rw [hy]; rfl
    have e2 : y.name = x.name := by rw [hy]; rfl
    have e3 : y.args = l := by rw [hy]; rfl
    have HE := Lib.hid (And.intro e0 (And.intro e1 (And.intro e2 (And.intro e3 hy))))
    rw [← hy]
    clear e0 e1 e2 e3 hy
    rcases hb with hb0 | ⟨hb0, hk1, hk4⟩
    · go_enter Tryz.func31, Tryz.ntmps31
      go_wp2_with fail
      refine (hask _ (HX.out.keep (old_keep bel))).mono ?_; clear hask; rintro e w2 ⟨v2, rfl, hown2, hb2⟩; obtain ⟨A2, c2, rfl, hc2', hs2⟩ := ownStr hown2 rfl HIN.out; clear hown2 hs2 hc2'; obtain ⟨hc2, hf2⟩ := bcell hb2; (try simp only [World.heap_drewN, World.cell?_drewN, World.frozen?_drewN] at hc2 hf2); have hz2 := hb2.size; (try simp at hz2); (try (have hy2 := Nat.lt_of_succ_le hz2)); (try (have hx2 := Nat.lt_of_succ_lt hy2)); (first | refine szz6 w2 w (by omega) ?_ | refine szz5 w2 w (by omega) ?_ | refine szz4 w2 w (by omega) ?_ | refine szz3 w2 w (by omega) ?_ | refine szz2 w2 w (by omega) ?_ | refine szz1 w2 w (by omega) ?_ | refine szz0 w2 w (by omega) ?_ | refine szzn w2 w (by omega) ?_ | skip); intros;
      go_wp2_with fail
      have m5 : w2.cell? ⟨w.heap.size, 5, none⟩ = some (.slice A x.args.length c) := by rw [hc2 _ _ (by simp <;> omega)]; go_simp
      have m7 : ∀ j, j < 6 → ∃ u, w2.cell? ⟨w.heap.size + 1, j, none⟩ = some u := fun j hj => by rw [hc2 _ _ (by simp)]; go_simp
      have m8 : ∀ j, w2.frozen? ⟨w.heap.size + 1, j, none⟩ = false := fun j => by rw [hf2 _ _ (by simp)]; go_simp
      have hzc : w.heap.size + 2 ≤ w2.heap.size := by (try simp at hz2); omega
      have hbc : Below w.heap.size w w2 := bel
      refine (ref_ExprCopyO x A c _ (HX.out.keep (old_keep hbc))).mono ?_; rintro e w1 ⟨A1, c1, rfl, hcc, hown, hb1⟩
      have HO1 := Lib.hid (And.intro hcc hown)
      have hz1 := hb1.size
      have m6 : w1.cell? ⟨w.heap.size, 5, none⟩ = some (.slice A x.args.length c) := cell_keep m5 hb1
      have m7' : ∀ j, j < 6 → ∃ u, w1.cell? ⟨w.heap.size + 1, j, none⟩ = some u := fun j hj => by
        obtain ⟨u, hu⟩ := m7 j hj
        exact ⟨u, cell_keep hu hb1⟩
      have m8' : ∀ j, w1.frozen? ⟨w.heap.size + 1, j, none⟩ = false := fun j => (hb1.frozen (p := ⟨w.heap.size + 1, j, none⟩) (by show w.heap.size + 1 < _; omega)).trans (m8 j)
      have hzw : w.heap.size + 2 ≤ w1.heap.size := by omega
      have hBW1 : Below w.heap.size w w1 := below_step hbc hb1 (by omega)
      have HM := Lib.hid (And.intro m7' m8')
      have HLOW := Lib.hid hzc
      clear hcc hown m5 m7 m8 m7' m8' hb1 hbc hz1 hzc hb2 hc2 hf2 hva
      have hl0 : w.heap.size < w1.heap.size := by omega
      have hl1 : w.heap.size + 1 < w1.heap.size := by omega
      go_wp2_with fail
      go_loopw [37] (fun i wr => ∃ k : Nat, k ≤ x.args.length ∧ i = .int .i64 k ∧ ZRow wr (w.heap.size + 2) A1 x.args.length (l.take k ++ x.args.drop k) ∧ (wr.cell? ⟨w1.heap.size, 0, none⟩ = some (.int .i64 x.op) ∧ wr.cell? ⟨w1.heap.size, 1, none⟩ = some (.int .i64 x.v.k) ∧ wr.cell? ⟨w1.heap.size, 2, none⟩ = some (.int .i64 x.v.n) ∧ wr.cell? ⟨w1.heap.size, 3, none⟩ = some (.string x.v.s) ∧ wr.cell? ⟨w1.heap.size, 4, none⟩ = some (.string x.name) ∧ wr.cell? ⟨w1.heap.size, 5, none⟩ = some (.slice A1 x.args.length c1)) ∧ wr.cell? ⟨w.heap.size, 5, none⟩ = some (.slice A x.args.length c) ∧ Below w.heap.size w wr ∧ w1.heap.size + 1 ≤ wr.heap.size ∧ (∀ j, wr.frozen? ⟨w.heap.size + 1, j, none⟩ = false) ∧ (∀ j, j < 6 → ∃ u, wr.cell? ⟨w.heap.size + 1, j, none⟩ = some u)) (fun i _ => x.args.length - (intOf i).toNat)
      case atStart =>
        refine ⟨0, by omega, rfl, ?_, ⟨by go_simp, by go_simp, by go_simp, by go_simp, by go_simp, by go_simp⟩, by go_simp, bel, by simp, fun j => ?_, fun j hj => ?_⟩
        · rw [List.take_zero, List.drop_zero, List.nil_append]
          refine (ZRow.of_own (HO1.out.2.low keeps_Exp (base' := w.heap.size + 2) HLOW.out) rfl).keep ?_
          exact (Below.refl _ _).alloc (Nat.le_refl _) _
        · rw [frozen?_alloc_cells]; exact HM.out.2 j
        · rw [World.cell?_alloc_past _ _ _ (by omega)]; exact HM.out.1 j hj
      case round =>
        obtain ⟨k, hk, rfl, hrow, ⟨q0, q1, q2, q3, q4, q5⟩, rx5, hbr, hbase, rf, rc⟩ := hrel
        by_cases hlt : k < x.args.length
        · obtain ⟨b, o, a, X, C, hAe, hbl, hl, hxa, x0, x1, x2, x3, x4, x5⟩ := Exp_at (HH.out.1.nowN keeps_Exp hbr) hlt
          subst hAe
          have hbl' : b < wr.heap.size := hbl
          obtain ⟨a', ha'⟩ : ∃ a', foldX a = a' := ⟨_, rfl⟩
          have hla : l[k]? = some a' := by rw [← ha']; exact HH.out.2.2.2.2.2.2.2 k a hl
          have hia := fun w h => HI.out a X C w (HH.out.2.1 k a hl).1 (HH.out.2.1 k a hl).2.1 (HH.out.2.1 k a hl).2.2 h
          rw [ha'] at hia
          have HO := Lib.hid (And.intro hrow (And.intro hxa (And.intro hla (And.intro rf rc))))
          clear hrow hxa hbl hl rf rc ha' hla
          go_wp2_with fail
          obtain ⟨g, rfl, hg1, hg2, hfz, hcz⟩ := HO.out.1.2 (by omega)
          have hZL := HO.out.1.1
          obtain ⟨a0, ha0⟩ : ∃ a0, (l.take k ++ x.args.drop k)[k]? = some a0 := ⟨_, List.getElem?_eq_getElem (by rw [hZL]; exact hlt)⟩
          obtain ⟨X0, C0, _, hz6⟩ := hcz k a0 ha0
          have HZ := Lib.hid (And.intro hz6 hfz)
          have hgN : g < w1.heap.size := (HO1.out.2.lt g rfl).2
          have hgN' : w1.heap.size ≠ g := by omega
          clear hfz hcz ha0 hz6 hZL
          refine wp_world ?_; intro W0 hW0
          have hS0 : (W0.drew.cell? ⟨b, o + k * 6, none⟩ = some (.int .i64 a.op) ∧ W0.drew.cell? ⟨b, o + k * 6 + 1, none⟩ = some (.int .i64 a.v.k) ∧ W0.drew.cell? ⟨b, o + k * 6 + 2, none⟩ = some (.int .i64 a.v.n) ∧ W0.drew.cell? ⟨b, o + k * 6 + 3, none⟩ = some (.string a.v.s) ∧ W0.drew.cell? ⟨b, o + k * 6 + 4, none⟩ = some (.string a.name) ∧ W0.drew.cell? ⟨b, o + k * 6 + 5, none⟩ = some (.slice X a.args.length C)) ∧ (W0.drew.cell? ⟨w1.heap.size, 5, none⟩ = some (.slice (some ⟨g, 0, none⟩) x.args.length c1) ∧ W0.drew.cell? ⟨w.heap.size, 5, none⟩ = some (.slice (some ⟨b, o, none⟩) x.args.length c)) := by rw [hW0]; exact ⟨⟨by go_simp, by go_simp, by go_simp, by go_simp, by go_simp, by go_simp⟩, ⟨by go_simp, by go_simp⟩⟩
          have hB0 : Below wr.heap.size wr W0.drew := by rw [hW0]; exact bel
          have hZ0 : W0.heap.size = wr.heap.size := by rw [hW0]
          have hBw : Below w.heap.size w W0.drew := below_step hbr hB0 (by omega)
          clear hW0
          refine wp_region_T (fun w' => (w'.cell? ⟨b, o + k * 6, none⟩ = some (.int .i64 a.op) ∧ w'.cell? ⟨b, o + k * 6 + 1, none⟩ = some (.int .i64 a.v.k) ∧ w'.cell? ⟨b, o + k * 6 + 2, none⟩ = some (.int .i64 a.v.n) ∧ w'.cell? ⟨b, o + k * 6 + 3, none⟩ = some (.string a.v.s) ∧ w'.cell? ⟨b, o + k * 6 + 4, none⟩ = some (.string a.name) ∧ w'.cell? ⟨b, o + k * 6 + 5, none⟩ = some (.slice X a.args.length C)) ∧ (w'.cell? ⟨w1.heap.size, 5, none⟩ = some (.slice (some ⟨g, 0, none⟩) x.args.length c1) ∧ w'.cell? ⟨w.heap.size, 5, none⟩ = some (.slice (some ⟨b, o, none⟩) x.args.length c))) 10 (by kernel_rfl) ?_
          refine wpAnyT_take (i := 0) (oi := _) (v := ?_) rfl (by kernel_rfl) (fun _ _ _ h => h) hS0 (by rfl) ?_ ?_
          rotate_left
          · intro w' hS'; (try dsimp only at hS'); (try go_split_ands); go_simp; (try rw [if_neg (by omega)]); try with_reducible rfl
          simp only [Act.put, List.setIfInBounds_toArray, List.set_cons_zero, List.set_cons_succ]
          refine wpAnyT_take (i := 1) (oi := _) (v := ?_) rfl (by kernel_rfl) (fun _ _ _ h => h) hS0 (by rfl) ?_ ?_
          rotate_left
          · intro w' hS'; (try dsimp only at hS'); (try go_split_ands); go_simp; (try rw [if_neg (by omega)]); try with_reducible rfl
          simp only [Act.put, List.setIfInBounds_toArray, List.set_cons_zero, List.set_cons_succ]
          refine wpAnyT_take (i := 2) (oi := _) (v := ?_) rfl (by kernel_rfl) (fun _ _ _ h => h) hS0 (by rfl) ?_ ?_
          rotate_left
          · intro w' hS'; (try dsimp only at hS'); (try go_split_ands); go_simp; (try rw [if_neg (by omega)]); try with_reducible rfl
          simp only [Act.put, List.setIfInBounds_toArray, List.set_cons_zero, List.set_cons_succ]
          refine wpAnyT_take (i := 3) (oi := _) (v := ?_) rfl (by kernel_rfl) (fun _ _ _ h => h) hS0 (by rfl) ?_ ?_
          rotate_left
          · intro w' hS'; (try dsimp only at hS'); (try go_split_ands); go_simp; (try rw [if_neg (by omega)]); try with_reducible rfl
          simp only [Act.put, List.setIfInBounds_toArray, List.set_cons_zero, List.set_cons_succ]
          refine wpAnyT_take (i := 4) (oi := _) (v := ?_) rfl (by kernel_rfl) (fun _ _ _ h => h) hS0 (by rfl) ?_ ?_
          rotate_left
          · intro w' hS'; (try dsimp only at hS'); (try go_split_ands); go_simp; (try rw [if_neg (by omega)]); try with_reducible rfl
          simp only [Act.put, List.setIfInBounds_toArray, List.set_cons_zero, List.set_cons_succ]
          refine wpAnyT_take (i := 5) (oi := _) (v := ?_) rfl (by kernel_rfl) (fun _ _ _ h => h) hS0 (by rfl) ?_ ?_
          rotate_left
          · intro w' hS'; (try dsimp only at hS'); (try go_split_ands); go_simp; (try rw [if_neg (by omega)]); try with_reducible rfl
          simp only [Act.put, List.setIfInBounds_toArray, List.set_cons_zero, List.set_cons_succ]
          refine wpAnyT_take (i := 6) (oi := _) (v := ?_) rfl (by kernel_rfl) (fun _ _ _ h => h) hS0 (by rfl) ?_ ?_
          rotate_left
          · intro w' hS'; (try dsimp only at hS'); (try go_split_ands); go_simp; (try rw [if_neg (by omega)]); try with_reducible rfl
          simp only [Act.put, List.setIfInBounds_toArray, List.set_cons_zero, List.set_cons_succ]
          refine wpAnyT_take (i := 7) (oi := _) (v := ?_) rfl (by kernel_rfl) (fun _ _ _ h => h) hS0 (by rfl) ?_ ?_
          rotate_left
          · intro w' hS'; (try dsimp only at hS'); (try go_split_ands); go_simp; (try rw [if_neg (by omega)]); try with_reducible rfl
          simp only [Act.put, List.setIfInBounds_toArray, List.set_cons_zero, List.set_cons_succ]
          refine wpAnyT_one (i := 8) (o := _) rfl (by kernel_rfl) (fun K hK => ?_)
          go_simp
          go_at_call 31; refine (hia _ (HO.out.2.1.keep (old_keep hB0))).mono ?_; rintro e w3 ⟨A2, c2, rfl, hx3', hb3⟩
          have hz3 := hb3.size
          have hS3 := And.intro (rows6c' hS0.1 hb3) (And.intro (cell_keep hS0.2.1 hb3) (cell_keep hS0.2.2 hb3))
          have hw3 : Below wr.heap.size wr w3 := below_step hB0 hb3 (by simp [heap_drew]; omega)
          have hzz3 : wr.heap.size ≤ w3.heap.size := hw3.size
          refine hK.out _ _ (fun _ => hS3) ?_
          clear hK K
          try simp only [Act.put, List.setIfInBounds_toArray, List.set_cons_zero, List.set_cons_succ]
          refine wpAnyT_take (i := 9) (oi := _) (v := ?_) rfl (by kernel_rfl) (fun _ _ _ h => h) hS3 (by rfl) ?_ ?_
          rotate_left
          · intro w' hS'; (try dsimp only at hS'); (try go_split_ands); go_simp; (try rw [if_neg (by omega)]); try with_reducible rfl
          simp only [Act.put, List.setIfInBounds_toArray, List.set_cons_zero, List.set_cons_succ]
          refine wpAnyT_one (i := 10) (o := _) rfl (by kernel_rfl) (fun K hK => ?_)
          have g0 := (hw3.cell (p := ⟨g, 0 + k * 6 + 0, none⟩) hg2).trans (HZ.out.1 0 (by decide))
          have g1 := (hw3.cell (p := ⟨g, 0 + k * 6 + 1, none⟩) hg2).trans (HZ.out.1 1 (by decide))
          have g2 := (hw3.cell (p := ⟨g, 0 + k * 6 + 2, none⟩) hg2).trans (HZ.out.1 2 (by decide))
          have g3 := (hw3.cell (p := ⟨g, 0 + k * 6 + 3, none⟩) hg2).trans (HZ.out.1 3 (by decide))
          have g4 := (hw3.cell (p := ⟨g, 0 + k * 6 + 4, none⟩) hg2).trans (HZ.out.1 4 (by decide))
          have g5 := (hw3.cell (p := ⟨g, 0 + k * 6 + 5, none⟩) hg2).trans (HZ.out.1 5 (by decide))
          have gz : ∀ q, w3.frozen? ⟨g, q, none⟩ = false := fun q => (hw3.frozen (p := ⟨g, q, none⟩) hg2).trans (HZ.out.2 q)
          have gz0 := gz (0 + k * 6 + 0)
          have gz1 := gz (0 + k * 6 + 1)
          have gz2 := gz (0 + k * 6 + 2)
          have gz3 := gz (0 + k * 6 + 3)
          have gz4 := gz (0 + k * 6 + 4)
          have gz5 := gz (0 + k * 6 + 5)
          simp only [Nat.zero_add, Nat.add_zero, List.getElem?_cons_zero, List.getElem?_cons_succ] at g0 g1 g2 g3 g4 g5 gz0 gz1 gz2 gz3 gz4 gz5
          clear hS0 gz
          clear hS3
          go_simp
          refine hK.out _ _ (fun h => absurd h (by decide)) ?_
          clear hK K
          refine wpAnyT_done (by kernel_rfl) ?_ _
          try simp only [Act.put, List.setIfInBounds_toArray, List.set_cons_zero, List.set_cons_succ]
          have hZ3 := (HO.out.1.keep hw3).put hlt (a := a') (X := A2) (C := c2) (hx3'.keep (S' := apart (w.heap.size + 2) g w3) (fun b hb => ⟨⟨by have h1 := hb.1; simp [heap_drew] at h1; omega, hb.2, by have h1 := hb.1; simp [heap_drew] at h1; omega⟩, rfl⟩))
          rw [zip_set HO.out.2.2.1 (by rw [HH.out.2.2.2.2.2.2.1]) hlt] at hZ3
          have HZ3 := Lib.hid hZ3
          clear hZ3 hx3' HZ g0 g1 g2 g3 g4 g5 gz0 gz1 gz2 gz3 gz4 gz5
          have hk1 : ∀ j, w3.cell? ⟨w1.heap.size, j, none⟩ = wr.cell? ⟨w1.heap.size, j, none⟩ := fun j => hw3.cell (p := ⟨w1.heap.size, j, none⟩) (by show w1.heap.size < wr.heap.size; omega)
          have hk3 : ∀ j, w3.cell? ⟨w.heap.size, j, none⟩ = wr.cell? ⟨w.heap.size, j, none⟩ := fun j => hw3.cell (p := ⟨w.heap.size, j, none⟩) (by show w.heap.size < wr.heap.size; omega)
          have hk4 : ∀ j, w3.cell? ⟨w.heap.size + 1, j, none⟩ = wr.cell? ⟨w.heap.size + 1, j, none⟩ := fun j => hw3.cell (p := ⟨w.heap.size + 1, j, none⟩) (by show w.heap.size + 1 < wr.heap.size; omega)
          have hk5 : ∀ j, w3.frozen? ⟨w.heap.size + 1, j, none⟩ = wr.frozen? ⟨w.heap.size + 1, j, none⟩ := fun j => hw3.frozen (p := ⟨w.heap.size + 1, j, none⟩) (by show w.heap.size + 1 < wr.heap.size; omega)
          have ng1 : g ≠ w.heap.size := by omega
          have ng3 : g ≠ w.heap.size + 1 := by omega
          have ng4 : g ≠ w1.heap.size := by omega
          go_wp2_with fail
          go_roundw
          case rel =>
            refine ⟨k + 1, by omega, by go_num, by have := HZ3.out; rw [Nat.zero_add] at this; exact this, ?_, ?_, ?_, by simp; omega, fun j => ?_, fun j hj => ?_⟩
            · refine ⟨?_, ?_, ?_, ?_, ?_, ?_⟩
              all_goals
                iterate 6 rw [World.cell?_setCell_other _ _ _ _ (by simp [ng4])]
                rw [hk1]
                assumption
            · iterate 6 rw [World.cell?_setCell_other _ _ _ _ (by simp [ng1])]
              rw [hk3]
              assumption
            · iterate 6 refine below_set ?_ (by simp; omega)
              exact below_step hbr hw3 (by omega)
            · simp only [World.frozen?_setCell]
              rw [hk5]
              exact HO.out.2.2.2.1 j
            · iterate 6 rw [World.cell?_setCell_other _ _ _ _ (by simp [ng3])]
              rw [hk4]
              exact HO.out.2.2.2.2 j hj
          case measure => simp [intOf]; omega
        · have hke : k = x.args.length := by omega
          subst hke
          have etk : l.take x.args.length ++ x.args.drop x.args.length = l := by rw [List.drop_length, List.append_nil]; exact List.take_of_length_le (by rw [HH.out.2.2.2.2.2.2.1]; exact Nat.le_refl _)
          rw [etk] at hrow
          have HS := Lib.hid (And.intro hrow.sl HO1.out.1)
          obtain ⟨u0, y0⟩ := rc 0 (by decide)
          obtain ⟨u1, y1⟩ := rc 1 (by decide)
          obtain ⟨u2, y2⟩ := rc 2 (by decide)
          obtain ⟨u3, y3⟩ := rc 3 (by decide)
          obtain ⟨u4, y4⟩ := rc 4 (by decide)
          obtain ⟨u5, y5⟩ := rc 5 (by decide)
          have f0 := rf 0
          have f1 := rf 1
          have f2 := rf 2
          have f3 := rf 3
          have f4 := rf 4
          have f5 := rf 5
          have hif := ifX_of HP.out.1 HP.out.2 HE.out.2.2.2.2
          clear rf rc hrow etk
          rcases hif with ⟨hy, h17⟩ | ⟨hy, h17, a0, ha0, hn1, ho1⟩ | ⟨hy, h17, a0, ha0, hn1, ho1, hk2⟩ | ⟨a0, a1, a2, hargs, h17, ho1, hk2, hn, hy⟩ | ⟨a0, a1, a2, hargs, h17, ho1, hk2, hn, hy⟩
          · have HY := Lib.hid hy
            clear hy
            go_wp2_with fail
            refine bodyPost_ret (v := .agg #[.int .i64 x.op, .int .i64 x.v.k, .int .i64 x.v.n, .string x.v.s, .string x.name, .slice A1 x.args.length c1]) (by first | (simp [results, Tryz.results31, go_sem, y0, y1, y2, y3, y4, y5]; done) | (simp [results, Tryz.results31, go_sem, *]; done)) rfl ?_
            rw [HY.out, HE.out.2.2.2.2]
            have hR : ∀ W9 : World, (∀ b, since (w.heap.size + 2) wr b → fresh w W9 b ∧ W9.heap[b]? = wr.heap[b]?) → Below w.heap.size w W9 → RetExp w (Exp.mk x.op x.v x.name l) (.returned (.agg #[.int .i64 x.op, .int .i64 x.v.k, .int .i64 x.v.n, .string x.v.s, .string x.name, .slice A1 x.args.length c1])) W9 := by
              intro W9 hW hB9
              have hrep := XRep.shut HH.out.2.2.1 HH.out.2.2.2.1 HH.out.2.2.2.2.1 HH.out.2.2.2.2.2.1 HS.out.2 (HS.out.1.keepN keeps_Exp hW)
              refine ⟨A1, c1, ?_, ?_, hB9⟩
              · show Ending.returned _ = Ending.returned (.agg #[.int .i64 x.op, .int .i64 x.v.k, .int .i64 x.v.n, .string x.v.s, .string x.name, .slice A1 l.length c1])
                rw [HH.out.2.2.2.2.2.2.1]
              · show XRep W9 (fresh w W9) [.int .i64 x.op, .int .i64 x.v.k, .int .i64 x.v.n, .string x.v.s, .string x.name, .slice A1 l.length c1] _
                rw [HH.out.2.2.2.2.2.2.1]; exact hrep
            refine hR _ (fun b hb => ⟨⟨by have := hb.1; omega, by simpa using hb.2⟩, ?_⟩) bel
            have hb1 := hb.1
            iterate 6 rw [heap_setCell_other _ _ _ _ (by simp; omega)]
          · obtain ⟨g, o9, a9, X9, C9, e9, hg9, hl9, hx9, x0, x1, x2, x3, x4, x5⟩ := Exp_at HS.out.1 (k := 0) (by omega)
            subst e9
            obtain rfl : a9 = a0 := Option.some.inj (hl9.symm.trans ha0)
            have hgl : g < wr.heap.size := hg9.2
            simp only [Nat.zero_mul, Nat.add_zero] at x0 x1 x2 x3 x4 x5
            clear hl9 hx9 ha0
            have HY := Lib.hid hy
            clear hy
            go_wp2_with fail
            refine bodyPost_ret (v := .agg #[.int .i64 x.op, .int .i64 x.v.k, .int .i64 x.v.n, .string x.v.s, .string x.name, .slice (some ⟨g, o9, none⟩) x.args.length c1]) (by first | (simp [results, Tryz.results31, go_sem, y0, y1, y2, y3, y4, y5]; done) | (simp [results, Tryz.results31, go_sem, *]; done)) rfl ?_
            rw [HY.out, HE.out.2.2.2.2]
            have hR : ∀ W9 : World, (∀ b, since (w.heap.size + 2) wr b → fresh w W9 b ∧ W9.heap[b]? = wr.heap[b]?) → Below w.heap.size w W9 → RetExp w (Exp.mk x.op x.v x.name l) (.returned (.agg #[.int .i64 x.op, .int .i64 x.v.k, .int .i64 x.v.n, .string x.v.s, .string x.name, .slice (some ⟨g, o9, none⟩) x.args.length c1])) W9 := by
              intro W9 hW hB9
              have hrep := XRep.shut HH.out.2.2.1 HH.out.2.2.2.1 HH.out.2.2.2.2.1 HH.out.2.2.2.2.2.1 HS.out.2 (HS.out.1.keepN keeps_Exp hW)
              refine ⟨(some ⟨g, o9, none⟩), c1, ?_, ?_, hB9⟩
              · show Ending.returned _ = Ending.returned (.agg #[.int .i64 x.op, .int .i64 x.v.k, .int .i64 x.v.n, .string x.v.s, .string x.name, .slice (some ⟨g, o9, none⟩) l.length c1])
                rw [HH.out.2.2.2.2.2.2.1]
              · show XRep W9 (fresh w W9) [.int .i64 x.op, .int .i64 x.v.k, .int .i64 x.v.n, .string x.v.s, .string x.name, .slice (some ⟨g, o9, none⟩) l.length c1] _
                rw [HH.out.2.2.2.2.2.2.1]; exact hrep
            refine hR _ (fun b hb => ⟨⟨by have := hb.1; omega, by simpa using hb.2⟩, ?_⟩) bel
            have hb1 := hb.1
            iterate 6 rw [heap_setCell_other _ _ _ _ (by simp; omega)]
          · obtain ⟨g, o9, a9, X9, C9, e9, hg9, hl9, hx9, x0, x1, x2, x3, x4, x5⟩ := Exp_at HS.out.1 (k := 0) (by omega)
            subst e9
            obtain rfl : a9 = a0 := Option.some.inj (hl9.symm.trans ha0)
            have hgl : g < wr.heap.size := hg9.2
            simp only [Nat.zero_mul, Nat.add_zero] at x0 x1 x2 x3 x4 x5
            clear hl9 hx9 ha0
            have HY := Lib.hid hy
            clear hy
            go_wp2_with fail
            refine bodyPost_ret (v := .agg #[.int .i64 x.op, .int .i64 x.v.k, .int .i64 x.v.n, .string x.v.s, .string x.name, .slice (some ⟨g, o9, none⟩) x.args.length c1]) (by first | (simp [results, Tryz.results31, go_sem, y0, y1, y2, y3, y4, y5]; done) | (simp [results, Tryz.results31, go_sem, *]; done)) rfl ?_
            rw [HY.out, HE.out.2.2.2.2]
            have hR : ∀ W9 : World, (∀ b, since (w.heap.size + 2) wr b → fresh w W9 b ∧ W9.heap[b]? = wr.heap[b]?) → Below w.heap.size w W9 → RetExp w (Exp.mk x.op x.v x.name l) (.returned (.agg #[.int .i64 x.op, .int .i64 x.v.k, .int .i64 x.v.n, .string x.v.s, .string x.name, .slice (some ⟨g, o9, none⟩) x.args.length c1])) W9 := by
              intro W9 hW hB9
              have hrep := XRep.shut HH.out.2.2.1 HH.out.2.2.2.1 HH.out.2.2.2.2.1 HH.out.2.2.2.2.2.1 HS.out.2 (HS.out.1.keepN keeps_Exp hW)
              refine ⟨(some ⟨g, o9, none⟩), c1, ?_, ?_, hB9⟩
              · show Ending.returned _ = Ending.returned (.agg #[.int .i64 x.op, .int .i64 x.v.k, .int .i64 x.v.n, .string x.v.s, .string x.name, .slice (some ⟨g, o9, none⟩) l.length c1])
                rw [HH.out.2.2.2.2.2.2.1]
              · show XRep W9 (fresh w W9) [.int .i64 x.op, .int .i64 x.v.k, .int .i64 x.v.n, .string x.v.s, .string x.name, .slice (some ⟨g, o9, none⟩) l.length c1] _
                rw [HH.out.2.2.2.2.2.2.1]; exact hrep
            refine hR _ (fun b hb => ⟨⟨by have := hb.1; omega, by simpa using hb.2⟩, ?_⟩) bel
            have hb1 := hb.1
            iterate 6 rw [heap_setCell_other _ _ _ _ (by simp; omega)]
          · have hl3 : l.length = 3 := by rw [hargs]; rfl
            have hn3 : x.args.length = 3 := by rw [← HH.out.2.2.2.2.2.2.1]; exact hl3
            obtain ⟨g, o9, a9, X9, C9, e9, hg9, hl9, hx9, x0, x1, x2, x3, x4, x5⟩ := Exp_at HS.out.1 (k := 0) (by omega)
            obtain ⟨g', o9', aJ, XJ, CJ, e9', hg9', hlJ, hxJ, t0, t1, t2, t3, t4, t5⟩ := Exp_at HS.out.1 (k := 1) (by omega)
            rw [e9] at e9'
            cases e9'
            subst e9
            obtain rfl : a9 = a0 := Option.some.inj (hl9.symm.trans (by rw [hargs]; rfl))
            obtain rfl : aJ = a1 := Option.some.inj (hlJ.symm.trans (by rw [hargs]; rfl))
            have hgl : g < wr.heap.size := hg9.2
            have hse := arg0_empty HP.out.1 HP.out.2 hl9 ho1 hk2
            rw [hn] at x2
            rw [hse] at x3
            rw [show a9.v.k = 2 by simpa using hk2] at x1
            simp only [Nat.zero_mul, Nat.one_mul, Nat.add_zero] at x0 x1 x2 x3 x4 x5 t0 t1 t2 t3 t4 t5
            have HY := Lib.hid hy
            have HXJ := Lib.hid hxJ
            have hp3 : (0 : Int) < x.args.length ∧ (1 : Int) < x.args.length ∧ (2 : Int) < x.args.length := by omega
            obtain ⟨hp1, hp2, hp4⟩ := hp3
            clear hl9 hx9 hlJ hxJ hy hargs hn hl3 hn3 hse hk2
            go_wp2_with fail
            refine bodyPost_ret (v := .agg #[.int .i64 aJ.op, .int .i64 aJ.v.k, .int .i64 aJ.v.n, .string aJ.v.s, .string aJ.name, .slice XJ aJ.args.length CJ]) (by first | (simp [results, Tryz.results31, go_sem, y0, y1, y2, y3, y4, y5]; done) | (simp [results, Tryz.results31, go_sem, *]; done)) rfl ?_
            rw [HY.out]
            refine ⟨XJ, CJ, rfl, HXJ.out.keep (fun b hb => ?_), bel⟩
            have hb1 := hb.1
            refine ⟨⟨by omega, by simpa using hb.2⟩, ?_⟩
            iterate 6 rw [heap_setCell_other _ _ _ _ (by simp; omega)]
          · have hl3 : l.length = 3 := by rw [hargs]; rfl
            have hn3 : x.args.length = 3 := by rw [← HH.out.2.2.2.2.2.2.1]; exact hl3
            obtain ⟨g, o9, a9, X9, C9, e9, hg9, hl9, hx9, x0, x1, x2, x3, x4, x5⟩ := Exp_at HS.out.1 (k := 0) (by omega)
            obtain ⟨g', o9', aJ, XJ, CJ, e9', hg9', hlJ, hxJ, t0, t1, t2, t3, t4, t5⟩ := Exp_at HS.out.1 (k := 2) (by omega)
            rw [e9] at e9'
            cases e9'
            subst e9
            obtain rfl : a9 = a0 := Option.some.inj (hl9.symm.trans (by rw [hargs]; rfl))
            obtain rfl : aJ = a2 := Option.some.inj (hlJ.symm.trans (by rw [hargs]; rfl))
            have hgl : g < wr.heap.size := hg9.2
            have hse := arg0_empty HP.out.1 HP.out.2 hl9 ho1 hk2
            rw [hn] at x2
            rw [hse] at x3
            rw [show a9.v.k = 2 by simpa using hk2] at x1
            simp only [Nat.zero_mul, Nat.reduceMul, Nat.add_zero] at x0 x1 x2 x3 x4 x5 t0 t1 t2 t3 t4 t5
            have HY := Lib.hid hy
            have HXJ := Lib.hid hxJ
            have hp3 : (0 : Int) < x.args.length ∧ (1 : Int) < x.args.length ∧ (2 : Int) < x.args.length := by omega
            obtain ⟨hp1, hp2, hp4⟩ := hp3
            clear hl9 hx9 hlJ hxJ hy hargs hn hl3 hn3 hse hk2
            go_wp2_with fail
            refine bodyPost_ret (v := .agg #[.int .i64 aJ.op, .int .i64 aJ.v.k, .int .i64 aJ.v.n, .string aJ.v.s, .string aJ.name, .slice XJ aJ.args.length CJ]) (by first | (simp [results, Tryz.results31, go_sem, y0, y1, y2, y3, y4, y5]; done) | (simp [results, Tryz.results31, go_sem, *]; done)) rfl ?_
            rw [HY.out]
            refine ⟨XJ, CJ, rfl, HXJ.out.keep (fun b hb => ?_), bel⟩
            have hb1 := hb.1
            refine ⟨⟨by omega, by simpa using hb.2⟩, ?_⟩
            iterate 6 rw [heap_setCell_other _ _ _ _ (by simp; omega)]
    · go_enter Tryz.func31, Tryz.ntmps31
      go_wp2_with fail
      refine (hask _ (HX.out.keep (old_keep bel))).mono ?_; clear hask; rintro e w2 ⟨v2, rfl, hown2, hb2⟩; obtain ⟨A2, c2, rfl, hc2', hs2⟩ := ownStr hown2 rfl HIN.out; clear hown2 hs2 hc2'; obtain ⟨hc2, hf2⟩ := bcell hb2; (try simp only [World.heap_drewN, World.cell?_drewN, World.frozen?_drewN] at hc2 hf2); have hz2 := hb2.size; (try simp at hz2); (try (have hy2 := Nat.lt_of_succ_le hz2)); (try (have hx2 := Nat.lt_of_succ_lt hy2)); (first | refine szz6 w2 w (by omega) ?_ | refine szz5 w2 w (by omega) ?_ | refine szz4 w2 w (by omega) ?_ | refine szz3 w2 w (by omega) ?_ | refine szz2 w2 w (by omega) ?_ | refine szz1 w2 w (by omega) ?_ | refine szz0 w2 w (by omega) ?_ | refine szzn w2 w (by omega) ?_ | skip); intros;
      go_wp2_with fail
      refine (hva _ (HX.out.keep (old_keep bel))).mono ?_; clear hva; rintro e w3 ⟨rfl, hb3⟩; obtain ⟨hc3, hf3⟩ := bcell hb3; (try simp only [World.heap_drewN, World.cell?_drewN, World.frozen?_drewN] at hc3 hf3); have hz3 := hb3.size; (try simp at hz3); (try (have hy3 := Nat.lt_of_succ_le hz3)); (try (have hx3 := Nat.lt_of_succ_lt hy3)); (first | refine szz6 w3 w (by omega) ?_ | refine szz5 w3 w (by omega) ?_ | refine szz4 w3 w (by omega) ?_ | refine szz3 w3 w (by omega) ?_ | refine szz2 w3 w (by omega) ?_ | refine szz1 w3 w (by omega) ?_ | refine szz0 w3 w (by omega) ?_ | refine szzn w3 w (by omega) ?_ | skip); intros; (first | refine szz6 w3 w2 (by omega) ?_ | refine szz5 w3 w2 (by omega) ?_ | refine szz4 w3 w2 (by omega) ?_ | refine szz3 w3 w2 (by omega) ?_ | refine szz2 w3 w2 (by omega) ?_ | refine szz1 w3 w2 (by omega) ?_ | refine szz0 w3 w2 (by omega) ?_ | refine szzn w3 w2 (by omega) ?_ | skip); intros;
      go_wp2_with fail
      obtain ⟨W3, hW3⟩ : ∃ W, W = w3.alloc (.cells #[.int .i64 uk, .int .i64 un, .string us] 23) := ⟨_, rfl⟩
      have hyA : w.heap.size + 1 < w.heap.size + 1 + 1 := by omega
      have m5 : W3.cell? ⟨w.heap.size, 5, none⟩ = some (.slice A x.args.length c) := by rw [hW3]; go_simp
      have m7 : ∀ j, j < 6 → ∃ u, W3.cell? ⟨w.heap.size + 1, j, none⟩ = some u := fun j hj => by
        rw [hW3, World.cell?_alloc_past _ _ _ (by omega), hc3 _ _ (by omega), hc2 _ _ (by simp)]; go_simp
      have m8 : ∀ j, W3.frozen? ⟨w.heap.size + 1, j, none⟩ = false := fun j => by
        rw [hW3, frozen?_alloc_cells, hf3 _ _ (by omega), hf2 _ _ (by simp)]; go_simp
      have hzc : w.heap.size + 2 ≤ W3.heap.size := by rw [hW3]; simp; omega
      have hbc : Below w.heap.size w W3 := by rw [hW3]; exact bel
      rw [← hW3]
      clear hW3
      refine (ref_ExprCopyO x A c _ (HX.out.keep (old_keep hbc))).mono ?_; rintro e w1 ⟨A1, c1, rfl, hcc, hown, hb1⟩
      have HO1 := Lib.hid (And.intro hcc hown)
      have hz1 := hb1.size
      have m6 : w1.cell? ⟨w.heap.size, 5, none⟩ = some (.slice A x.args.length c) := cell_keep m5 hb1
      have m7' : ∀ j, j < 6 → ∃ u, w1.cell? ⟨w.heap.size + 1, j, none⟩ = some u := fun j hj => by
        obtain ⟨u, hu⟩ := m7 j hj
        exact ⟨u, cell_keep hu hb1⟩
      have m8' : ∀ j, w1.frozen? ⟨w.heap.size + 1, j, none⟩ = false := fun j => (hb1.frozen (p := ⟨w.heap.size + 1, j, none⟩) (by show w.heap.size + 1 < _; omega)).trans (m8 j)
      have hzw : w.heap.size + 2 ≤ w1.heap.size := by omega
      have hBW1 : Below w.heap.size w w1 := below_step hbc hb1 (by omega)
      have HM := Lib.hid (And.intro m7' m8')
      have HLOW := Lib.hid hzc
      clear hcc hown m5 m7 m8 m7' m8' hb1 hbc hz1 hzc hb2 hc2 hf2 hb3 hc3 hf3
      have hl0 : w.heap.size < w1.heap.size := by omega
      have hl1 : w.heap.size + 1 < w1.heap.size := by omega
      go_wp2_with fail
      go_loopw [37] (fun i wr => ∃ k : Nat, k ≤ x.args.length ∧ i = .int .i64 k ∧ ZRow wr (w.heap.size + 2) A1 x.args.length (l.take k ++ x.args.drop k) ∧ (wr.cell? ⟨w1.heap.size, 0, none⟩ = some (.int .i64 x.op) ∧ wr.cell? ⟨w1.heap.size, 1, none⟩ = some (.int .i64 x.v.k) ∧ wr.cell? ⟨w1.heap.size, 2, none⟩ = some (.int .i64 x.v.n) ∧ wr.cell? ⟨w1.heap.size, 3, none⟩ = some (.string x.v.s) ∧ wr.cell? ⟨w1.heap.size, 4, none⟩ = some (.string x.name) ∧ wr.cell? ⟨w1.heap.size, 5, none⟩ = some (.slice A1 x.args.length c1)) ∧ wr.cell? ⟨w.heap.size, 5, none⟩ = some (.slice A x.args.length c) ∧ Below w.heap.size w wr ∧ w1.heap.size + 1 ≤ wr.heap.size ∧ (∀ j, wr.frozen? ⟨w.heap.size + 1, j, none⟩ = false) ∧ (∀ j, j < 6 → ∃ u, wr.cell? ⟨w.heap.size + 1, j, none⟩ = some u)) (fun i _ => x.args.length - (intOf i).toNat)
      case atStart =>
        refine ⟨0, by omega, rfl, ?_, ⟨by go_simp, by go_simp, by go_simp, by go_simp, by go_simp, by go_simp⟩, by go_simp, bel, by simp, fun j => ?_, fun j hj => ?_⟩
        · rw [List.take_zero, List.drop_zero, List.nil_append]
          refine (ZRow.of_own (HO1.out.2.low keeps_Exp (base' := w.heap.size + 2) HLOW.out) rfl).keep ?_
          exact (Below.refl _ _).alloc (Nat.le_refl _) _
        · rw [frozen?_alloc_cells]; exact HM.out.2 j
        · rw [World.cell?_alloc_past _ _ _ (by omega)]; exact HM.out.1 j hj
      case round =>
        obtain ⟨k, hk, rfl, hrow, ⟨q0, q1, q2, q3, q4, q5⟩, rx5, hbr, hbase, rf, rc⟩ := hrel
        by_cases hlt : k < x.args.length
        · obtain ⟨b, o, a, X, C, hAe, hbl, hl, hxa, x0, x1, x2, x3, x4, x5⟩ := Exp_at (HH.out.1.nowN keeps_Exp hbr) hlt
          subst hAe
          have hbl' : b < wr.heap.size := hbl
          obtain ⟨a', ha'⟩ : ∃ a', foldX a = a' := ⟨_, rfl⟩
          have hla : l[k]? = some a' := by rw [← ha']; exact HH.out.2.2.2.2.2.2.2 k a hl
          have hia := fun w h => HI.out a X C w (HH.out.2.1 k a hl).1 (HH.out.2.1 k a hl).2.1 (HH.out.2.1 k a hl).2.2 h
          rw [ha'] at hia
          have HO := Lib.hid (And.intro hrow (And.intro hxa (And.intro hla (And.intro rf rc))))
          clear hrow hxa hbl hl rf rc ha' hla
          go_wp2_with fail
          obtain ⟨g, rfl, hg1, hg2, hfz, hcz⟩ := HO.out.1.2 (by omega)
          have hZL := HO.out.1.1
          obtain ⟨a0, ha0⟩ : ∃ a0, (l.take k ++ x.args.drop k)[k]? = some a0 := ⟨_, List.getElem?_eq_getElem (by rw [hZL]; exact hlt)⟩
          obtain ⟨X0, C0, _, hz6⟩ := hcz k a0 ha0
          have HZ := Lib.hid (And.intro hz6 hfz)
          have hgN : g < w1.heap.size := (HO1.out.2.lt g rfl).2
          have hgN' : w1.heap.size ≠ g := by omega
          clear hfz hcz ha0 hz6 hZL
          refine wp_world ?_; intro W0 hW0
          have hS0 : (W0.drew.cell? ⟨b, o + k * 6, none⟩ = some (.int .i64 a.op) ∧ W0.drew.cell? ⟨b, o + k * 6 + 1, none⟩ = some (.int .i64 a.v.k) ∧ W0.drew.cell? ⟨b, o + k * 6 + 2, none⟩ = some (.int .i64 a.v.n) ∧ W0.drew.cell? ⟨b, o + k * 6 + 3, none⟩ = some (.string a.v.s) ∧ W0.drew.cell? ⟨b, o + k * 6 + 4, none⟩ = some (.string a.name) ∧ W0.drew.cell? ⟨b, o + k * 6 + 5, none⟩ = some (.slice X a.args.length C)) ∧ (W0.drew.cell? ⟨w1.heap.size, 5, none⟩ = some (.slice (some ⟨g, 0, none⟩) x.args.length c1) ∧ W0.drew.cell? ⟨w.heap.size, 5, none⟩ = some (.slice (some ⟨b, o, none⟩) x.args.length c)) := by rw [hW0]; exact ⟨⟨by go_simp, by go_simp, by go_simp, by go_simp, by go_simp, by go_simp⟩, ⟨by go_simp, by go_simp⟩⟩
          have hB0 : Below wr.heap.size wr W0.drew := by rw [hW0]; exact bel
          have hZ0 : W0.heap.size = wr.heap.size := by rw [hW0]
          have hBw : Below w.heap.size w W0.drew := below_step hbr hB0 (by omega)
          clear hW0
          refine wp_region_T (fun w' => (w'.cell? ⟨b, o + k * 6, none⟩ = some (.int .i64 a.op) ∧ w'.cell? ⟨b, o + k * 6 + 1, none⟩ = some (.int .i64 a.v.k) ∧ w'.cell? ⟨b, o + k * 6 + 2, none⟩ = some (.int .i64 a.v.n) ∧ w'.cell? ⟨b, o + k * 6 + 3, none⟩ = some (.string a.v.s) ∧ w'.cell? ⟨b, o + k * 6 + 4, none⟩ = some (.string a.name) ∧ w'.cell? ⟨b, o + k * 6 + 5, none⟩ = some (.slice X a.args.length C)) ∧ (w'.cell? ⟨w1.heap.size, 5, none⟩ = some (.slice (some ⟨g, 0, none⟩) x.args.length c1) ∧ w'.cell? ⟨w.heap.size, 5, none⟩ = some (.slice (some ⟨b, o, none⟩) x.args.length c))) 10 (by kernel_rfl) ?_
          refine wpAnyT_take (i := 0) (oi := _) (v := ?_) rfl (by kernel_rfl) (fun _ _ _ h => h) hS0 (by rfl) ?_ ?_
          rotate_left
          · intro w' hS'; (try dsimp only at hS'); (try go_split_ands); go_simp; (try rw [if_neg (by omega)]); try with_reducible rfl
          simp only [Act.put, List.setIfInBounds_toArray, List.set_cons_zero, List.set_cons_succ]
          refine wpAnyT_take (i := 1) (oi := _) (v := ?_) rfl (by kernel_rfl) (fun _ _ _ h => h) hS0 (by rfl) ?_ ?_
          rotate_left
          · intro w' hS'; (try dsimp only at hS'); (try go_split_ands); go_simp; (try rw [if_neg (by omega)]); try with_reducible rfl
          simp only [Act.put, List.setIfInBounds_toArray, List.set_cons_zero, List.set_cons_succ]
          refine wpAnyT_take (i := 2) (oi := _) (v := ?_) rfl (by kernel_rfl) (fun _ _ _ h => h) hS0 (by rfl) ?_ ?_
          rotate_left
          · intro w' hS'; (try dsimp only at hS'); (try go_split_ands); go_simp; (try rw [if_neg (by omega)]); try with_reducible rfl
          simp only [Act.put, List.setIfInBounds_toArray, List.set_cons_zero, List.set_cons_succ]
          refine wpAnyT_take (i := 3) (oi := _) (v := ?_) rfl (by kernel_rfl) (fun _ _ _ h => h) hS0 (by rfl) ?_ ?_
          rotate_left
          · intro w' hS'; (try dsimp only at hS'); (try go_split_ands); go_simp; (try rw [if_neg (by omega)]); try with_reducible rfl
          simp only [Act.put, List.setIfInBounds_toArray, List.set_cons_zero, List.set_cons_succ]
          refine wpAnyT_take (i := 4) (oi := _) (v := ?_) rfl (by kernel_rfl) (fun _ _ _ h => h) hS0 (by rfl) ?_ ?_
          rotate_left
          · intro w' hS'; (try dsimp only at hS'); (try go_split_ands); go_simp; (try rw [if_neg (by omega)]); try with_reducible rfl
          simp only [Act.put, List.setIfInBounds_toArray, List.set_cons_zero, List.set_cons_succ]
          refine wpAnyT_take (i := 5) (oi := _) (v := ?_) rfl (by kernel_rfl) (fun _ _ _ h => h) hS0 (by rfl) ?_ ?_
          rotate_left
          · intro w' hS'; (try dsimp only at hS'); (try go_split_ands); go_simp; (try rw [if_neg (by omega)]); try with_reducible rfl
          simp only [Act.put, List.setIfInBounds_toArray, List.set_cons_zero, List.set_cons_succ]
          refine wpAnyT_take (i := 6) (oi := _) (v := ?_) rfl (by kernel_rfl) (fun _ _ _ h => h) hS0 (by rfl) ?_ ?_
          rotate_left
          · intro w' hS'; (try dsimp only at hS'); (try go_split_ands); go_simp; (try rw [if_neg (by omega)]); try with_reducible rfl
          simp only [Act.put, List.setIfInBounds_toArray, List.set_cons_zero, List.set_cons_succ]
          refine wpAnyT_take (i := 7) (oi := _) (v := ?_) rfl (by kernel_rfl) (fun _ _ _ h => h) hS0 (by rfl) ?_ ?_
          rotate_left
          · intro w' hS'; (try dsimp only at hS'); (try go_split_ands); go_simp; (try rw [if_neg (by omega)]); try with_reducible rfl
          simp only [Act.put, List.setIfInBounds_toArray, List.set_cons_zero, List.set_cons_succ]
          refine wpAnyT_one (i := 8) (o := _) rfl (by kernel_rfl) (fun K hK => ?_)
          go_simp
          go_at_call 31; refine (hia _ (HO.out.2.1.keep (old_keep hB0))).mono ?_; rintro e w3 ⟨A2, c2, rfl, hx3', hb3⟩
          have hz3 := hb3.size
          have hS3 := And.intro (rows6c' hS0.1 hb3) (And.intro (cell_keep hS0.2.1 hb3) (cell_keep hS0.2.2 hb3))
          have hw3 : Below wr.heap.size wr w3 := below_step hB0 hb3 (by simp [heap_drew]; omega)
          have hzz3 : wr.heap.size ≤ w3.heap.size := hw3.size
          refine hK.out _ _ (fun _ => hS3) ?_
          clear hK K
          try simp only [Act.put, List.setIfInBounds_toArray, List.set_cons_zero, List.set_cons_succ]
          refine wpAnyT_take (i := 9) (oi := _) (v := ?_) rfl (by kernel_rfl) (fun _ _ _ h => h) hS3 (by rfl) ?_ ?_
          rotate_left
          · intro w' hS'; (try dsimp only at hS'); (try go_split_ands); go_simp; (try rw [if_neg (by omega)]); try with_reducible rfl
          simp only [Act.put, List.setIfInBounds_toArray, List.set_cons_zero, List.set_cons_succ]
          refine wpAnyT_one (i := 10) (o := _) rfl (by kernel_rfl) (fun K hK => ?_)
          have g0 := (hw3.cell (p := ⟨g, 0 + k * 6 + 0, none⟩) hg2).trans (HZ.out.1 0 (by decide))
          have g1 := (hw3.cell (p := ⟨g, 0 + k * 6 + 1, none⟩) hg2).trans (HZ.out.1 1 (by decide))
          have g2 := (hw3.cell (p := ⟨g, 0 + k * 6 + 2, none⟩) hg2).trans (HZ.out.1 2 (by decide))
          have g3 := (hw3.cell (p := ⟨g, 0 + k * 6 + 3, none⟩) hg2).trans (HZ.out.1 3 (by decide))
          have g4 := (hw3.cell (p := ⟨g, 0 + k * 6 + 4, none⟩) hg2).trans (HZ.out.1 4 (by decide))
          have g5 := (hw3.cell (p := ⟨g, 0 + k * 6 + 5, none⟩) hg2).trans (HZ.out.1 5 (by decide))
          have gz : ∀ q, w3.frozen? ⟨g, q, none⟩ = false := fun q => (hw3.frozen (p := ⟨g, q, none⟩) hg2).trans (HZ.out.2 q)
          have gz0 := gz (0 + k * 6 + 0)
          have gz1 := gz (0 + k * 6 + 1)
          have gz2 := gz (0 + k * 6 + 2)
          have gz3 := gz (0 + k * 6 + 3)
          have gz4 := gz (0 + k * 6 + 4)
          have gz5 := gz (0 + k * 6 + 5)
          simp only [Nat.zero_add, Nat.add_zero, List.getElem?_cons_zero, List.getElem?_cons_succ] at g0 g1 g2 g3 g4 g5 gz0 gz1 gz2 gz3 gz4 gz5
          clear hS0 gz
          clear hS3
          go_simp
          refine hK.out _ _ (fun h => absurd h (by decide)) ?_
          clear hK K
          refine wpAnyT_done (by kernel_rfl) ?_ _
          try simp only [Act.put, List.setIfInBounds_toArray, List.set_cons_zero, List.set_cons_succ]
          have hZ3 := (HO.out.1.keep hw3).put hlt (a := a') (X := A2) (C := c2) (hx3'.keep (S' := apart (w.heap.size + 2) g w3) (fun b hb => ⟨⟨by have h1 := hb.1; simp [heap_drew] at h1; omega, hb.2, by have h1 := hb.1; simp [heap_drew] at h1; omega⟩, rfl⟩))
          rw [zip_set HO.out.2.2.1 (by rw [HH.out.2.2.2.2.2.2.1]) hlt] at hZ3
          have HZ3 := Lib.hid hZ3
          clear hZ3 hx3' HZ g0 g1 g2 g3 g4 g5 gz0 gz1 gz2 gz3 gz4 gz5
          have hk1 : ∀ j, w3.cell? ⟨w1.heap.size, j, none⟩ = wr.cell? ⟨w1.heap.size, j, none⟩ := fun j => hw3.cell (p := ⟨w1.heap.size, j, none⟩) (by show w1.heap.size < wr.heap.size; omega)
          have hk3 : ∀ j, w3.cell? ⟨w.heap.size, j, none⟩ = wr.cell? ⟨w.heap.size, j, none⟩ := fun j => hw3.cell (p := ⟨w.heap.size, j, none⟩) (by show w.heap.size < wr.heap.size; omega)
          have hk4 : ∀ j, w3.cell? ⟨w.heap.size + 1, j, none⟩ = wr.cell? ⟨w.heap.size + 1, j, none⟩ := fun j => hw3.cell (p := ⟨w.heap.size + 1, j, none⟩) (by show w.heap.size + 1 < wr.heap.size; omega)
          have hk5 : ∀ j, w3.frozen? ⟨w.heap.size + 1, j, none⟩ = wr.frozen? ⟨w.heap.size + 1, j, none⟩ := fun j => hw3.frozen (p := ⟨w.heap.size + 1, j, none⟩) (by show w.heap.size + 1 < wr.heap.size; omega)
          have ng1 : g ≠ w.heap.size := by omega
          have ng3 : g ≠ w.heap.size + 1 := by omega
          have ng4 : g ≠ w1.heap.size := by omega
          go_wp2_with fail
          go_roundw
          case rel =>
            refine ⟨k + 1, by omega, by go_num, by have := HZ3.out; rw [Nat.zero_add] at this; exact this, ?_, ?_, ?_, by simp; omega, fun j => ?_, fun j hj => ?_⟩
            · refine ⟨?_, ?_, ?_, ?_, ?_, ?_⟩
              all_goals
                iterate 6 rw [World.cell?_setCell_other _ _ _ _ (by simp [ng4])]
                rw [hk1]
                assumption
            · iterate 6 rw [World.cell?_setCell_other _ _ _ _ (by simp [ng1])]
              rw [hk3]
              assumption
            · iterate 6 refine below_set ?_ (by simp; omega)
              exact below_step hbr hw3 (by omega)
            · simp only [World.frozen?_setCell]
              rw [hk5]
              exact HO.out.2.2.2.1 j
            · iterate 6 rw [World.cell?_setCell_other _ _ _ _ (by simp [ng3])]
              rw [hk4]
              exact HO.out.2.2.2.2 j hj
          case measure => simp [intOf]; omega
        · have hke : k = x.args.length := by omega
          subst hke
          have etk : l.take x.args.length ++ x.args.drop x.args.length = l := by rw [List.drop_length, List.append_nil]; exact List.take_of_length_le (by rw [HH.out.2.2.2.2.2.2.1]; exact Nat.le_refl _)
          rw [etk] at hrow
          have HS := Lib.hid (And.intro hrow.sl HO1.out.1)
          obtain ⟨u0, y0⟩ := rc 0 (by decide)
          obtain ⟨u1, y1⟩ := rc 1 (by decide)
          obtain ⟨u2, y2⟩ := rc 2 (by decide)
          obtain ⟨u3, y3⟩ := rc 3 (by decide)
          obtain ⟨u4, y4⟩ := rc 4 (by decide)
          obtain ⟨u5, y5⟩ := rc 5 (by decide)
          have f0 := rf 0
          have f1 := rf 1
          have f2 := rf 2
          have f3 := rf 3
          have f4 := rf 4
          have f5 := rf 5
          have hif := ifX_of HP.out.1 HP.out.2 HE.out.2.2.2.2
          clear rf rc hrow etk
          rcases hif with ⟨hy, h17⟩ | ⟨hy, h17, a0, ha0, hn1, ho1⟩ | ⟨hy, h17, a0, ha0, hn1, ho1, hk2⟩ | ⟨a0, a1, a2, hargs, h17, ho1, hk2, hn, hy⟩ | ⟨a0, a1, a2, hargs, h17, ho1, hk2, hn, hy⟩
          · have HY := Lib.hid hy
            clear hy
            go_wp2_with fail
            refine bodyPost_ret (v := .agg #[.int .i64 x.op, .int .i64 x.v.k, .int .i64 x.v.n, .string x.v.s, .string x.name, .slice A1 x.args.length c1]) (by first | (simp [results, Tryz.results31, go_sem, y0, y1, y2, y3, y4, y5]; done) | (simp [results, Tryz.results31, go_sem, *]; done)) rfl ?_
            rw [HY.out, HE.out.2.2.2.2]
            have hR : ∀ W9 : World, (∀ b, since (w.heap.size + 2) wr b → fresh w W9 b ∧ W9.heap[b]? = wr.heap[b]?) → Below w.heap.size w W9 → RetExp w (Exp.mk x.op x.v x.name l) (.returned (.agg #[.int .i64 x.op, .int .i64 x.v.k, .int .i64 x.v.n, .string x.v.s, .string x.name, .slice A1 x.args.length c1])) W9 := by
              intro W9 hW hB9
              have hrep := XRep.shut HH.out.2.2.1 HH.out.2.2.2.1 HH.out.2.2.2.2.1 HH.out.2.2.2.2.2.1 HS.out.2 (HS.out.1.keepN keeps_Exp hW)
              refine ⟨A1, c1, ?_, ?_, hB9⟩
              · show Ending.returned _ = Ending.returned (.agg #[.int .i64 x.op, .int .i64 x.v.k, .int .i64 x.v.n, .string x.v.s, .string x.name, .slice A1 l.length c1])
                rw [HH.out.2.2.2.2.2.2.1]
              · show XRep W9 (fresh w W9) [.int .i64 x.op, .int .i64 x.v.k, .int .i64 x.v.n, .string x.v.s, .string x.name, .slice A1 l.length c1] _
                rw [HH.out.2.2.2.2.2.2.1]; exact hrep
            refine hR _ (fun b hb => ⟨⟨by have := hb.1; omega, by simpa using hb.2⟩, ?_⟩) bel
            have hb1 := hb.1
            iterate 6 rw [heap_setCell_other _ _ _ _ (by simp; omega)]
          · obtain ⟨g, o9, a9, X9, C9, e9, hg9, hl9, hx9, x0, x1, x2, x3, x4, x5⟩ := Exp_at HS.out.1 (k := 0) (by omega)
            subst e9
            obtain rfl : a9 = a0 := Option.some.inj (hl9.symm.trans ha0)
            have hgl : g < wr.heap.size := hg9.2
            simp only [Nat.zero_mul, Nat.add_zero] at x0 x1 x2 x3 x4 x5
            clear hl9 hx9 ha0
            have HY := Lib.hid hy
            clear hy
            go_wp2_with fail
            refine bodyPost_ret (v := .agg #[.int .i64 x.op, .int .i64 x.v.k, .int .i64 x.v.n, .string x.v.s, .string x.name, .slice (some ⟨g, o9, none⟩) x.args.length c1]) (by first | (simp [results, Tryz.results31, go_sem, y0, y1, y2, y3, y4, y5]; done) | (simp [results, Tryz.results31, go_sem, *]; done)) rfl ?_
            rw [HY.out, HE.out.2.2.2.2]
            have hR : ∀ W9 : World, (∀ b, since (w.heap.size + 2) wr b → fresh w W9 b ∧ W9.heap[b]? = wr.heap[b]?) → Below w.heap.size w W9 → RetExp w (Exp.mk x.op x.v x.name l) (.returned (.agg #[.int .i64 x.op, .int .i64 x.v.k, .int .i64 x.v.n, .string x.v.s, .string x.name, .slice (some ⟨g, o9, none⟩) x.args.length c1])) W9 := by
              intro W9 hW hB9
              have hrep := XRep.shut HH.out.2.2.1 HH.out.2.2.2.1 HH.out.2.2.2.2.1 HH.out.2.2.2.2.2.1 HS.out.2 (HS.out.1.keepN keeps_Exp hW)
              refine ⟨(some ⟨g, o9, none⟩), c1, ?_, ?_, hB9⟩
              · show Ending.returned _ = Ending.returned (.agg #[.int .i64 x.op, .int .i64 x.v.k, .int .i64 x.v.n, .string x.v.s, .string x.name, .slice (some ⟨g, o9, none⟩) l.length c1])
                rw [HH.out.2.2.2.2.2.2.1]
              · show XRep W9 (fresh w W9) [.int .i64 x.op, .int .i64 x.v.k, .int .i64 x.v.n, .string x.v.s, .string x.name, .slice (some ⟨g, o9, none⟩) l.length c1] _
                rw [HH.out.2.2.2.2.2.2.1]; exact hrep
            refine hR _ (fun b hb => ⟨⟨by have := hb.1; omega, by simpa using hb.2⟩, ?_⟩) bel
            have hb1 := hb.1
            iterate 6 rw [heap_setCell_other _ _ _ _ (by simp; omega)]
          · obtain ⟨g, o9, a9, X9, C9, e9, hg9, hl9, hx9, x0, x1, x2, x3, x4, x5⟩ := Exp_at HS.out.1 (k := 0) (by omega)
            subst e9
            obtain rfl : a9 = a0 := Option.some.inj (hl9.symm.trans ha0)
            have hgl : g < wr.heap.size := hg9.2
            simp only [Nat.zero_mul, Nat.add_zero] at x0 x1 x2 x3 x4 x5
            clear hl9 hx9 ha0
            have HY := Lib.hid hy
            clear hy
            go_wp2_with fail
            refine bodyPost_ret (v := .agg #[.int .i64 x.op, .int .i64 x.v.k, .int .i64 x.v.n, .string x.v.s, .string x.name, .slice (some ⟨g, o9, none⟩) x.args.length c1]) (by first | (simp [results, Tryz.results31, go_sem, y0, y1, y2, y3, y4, y5]; done) | (simp [results, Tryz.results31, go_sem, *]; done)) rfl ?_
            rw [HY.out, HE.out.2.2.2.2]
            have hR : ∀ W9 : World, (∀ b, since (w.heap.size + 2) wr b → fresh w W9 b ∧ W9.heap[b]? = wr.heap[b]?) → Below w.heap.size w W9 → RetExp w (Exp.mk x.op x.v x.name l) (.returned (.agg #[.int .i64 x.op, .int .i64 x.v.k, .int .i64 x.v.n, .string x.v.s, .string x.name, .slice (some ⟨g, o9, none⟩) x.args.length c1])) W9 := by
              intro W9 hW hB9
              have hrep := XRep.shut HH.out.2.2.1 HH.out.2.2.2.1 HH.out.2.2.2.2.1 HH.out.2.2.2.2.2.1 HS.out.2 (HS.out.1.keepN keeps_Exp hW)
              refine ⟨(some ⟨g, o9, none⟩), c1, ?_, ?_, hB9⟩
              · show Ending.returned _ = Ending.returned (.agg #[.int .i64 x.op, .int .i64 x.v.k, .int .i64 x.v.n, .string x.v.s, .string x.name, .slice (some ⟨g, o9, none⟩) l.length c1])
                rw [HH.out.2.2.2.2.2.2.1]
              · show XRep W9 (fresh w W9) [.int .i64 x.op, .int .i64 x.v.k, .int .i64 x.v.n, .string x.v.s, .string x.name, .slice (some ⟨g, o9, none⟩) l.length c1] _
                rw [HH.out.2.2.2.2.2.2.1]; exact hrep
            refine hR _ (fun b hb => ⟨⟨by have := hb.1; omega, by simpa using hb.2⟩, ?_⟩) bel
            have hb1 := hb.1
            iterate 6 rw [heap_setCell_other _ _ _ _ (by simp; omega)]
          · have hl3 : l.length = 3 := by rw [hargs]; rfl
            have hn3 : x.args.length = 3 := by rw [← HH.out.2.2.2.2.2.2.1]; exact hl3
            obtain ⟨g, o9, a9, X9, C9, e9, hg9, hl9, hx9, x0, x1, x2, x3, x4, x5⟩ := Exp_at HS.out.1 (k := 0) (by omega)
            obtain ⟨g', o9', aJ, XJ, CJ, e9', hg9', hlJ, hxJ, t0, t1, t2, t3, t4, t5⟩ := Exp_at HS.out.1 (k := 1) (by omega)
            rw [e9] at e9'
            cases e9'
            subst e9
            obtain rfl : a9 = a0 := Option.some.inj (hl9.symm.trans (by rw [hargs]; rfl))
            obtain rfl : aJ = a1 := Option.some.inj (hlJ.symm.trans (by rw [hargs]; rfl))
            have hgl : g < wr.heap.size := hg9.2
            have hse := arg0_empty HP.out.1 HP.out.2 hl9 ho1 hk2
            rw [hn] at x2
            rw [hse] at x3
            rw [show a9.v.k = 2 by simpa using hk2] at x1
            simp only [Nat.zero_mul, Nat.one_mul, Nat.add_zero] at x0 x1 x2 x3 x4 x5 t0 t1 t2 t3 t4 t5
            have HY := Lib.hid hy
            have HXJ := Lib.hid hxJ
            have hp3 : (0 : Int) < x.args.length ∧ (1 : Int) < x.args.length ∧ (2 : Int) < x.args.length := by omega
            obtain ⟨hp1, hp2, hp4⟩ := hp3
            clear hl9 hx9 hlJ hxJ hy hargs hn hl3 hn3 hse hk2
            go_wp2_with fail
            refine bodyPost_ret (v := .agg #[.int .i64 aJ.op, .int .i64 aJ.v.k, .int .i64 aJ.v.n, .string aJ.v.s, .string aJ.name, .slice XJ aJ.args.length CJ]) (by first | (simp [results, Tryz.results31, go_sem, y0, y1, y2, y3, y4, y5]; done) | (simp [results, Tryz.results31, go_sem, *]; done)) rfl ?_
            rw [HY.out]
            refine ⟨XJ, CJ, rfl, HXJ.out.keep (fun b hb => ?_), bel⟩
            have hb1 := hb.1
            refine ⟨⟨by omega, by simpa using hb.2⟩, ?_⟩
            iterate 6 rw [heap_setCell_other _ _ _ _ (by simp; omega)]
          · have hl3 : l.length = 3 := by rw [hargs]; rfl
            have hn3 : x.args.length = 3 := by rw [← HH.out.2.2.2.2.2.2.1]; exact hl3
            obtain ⟨g, o9, a9, X9, C9, e9, hg9, hl9, hx9, x0, x1, x2, x3, x4, x5⟩ := Exp_at HS.out.1 (k := 0) (by omega)
            obtain ⟨g', o9', aJ, XJ, CJ, e9', hg9', hlJ, hxJ, t0, t1, t2, t3, t4, t5⟩ := Exp_at HS.out.1 (k := 2) (by omega)
            rw [e9] at e9'
            cases e9'
            subst e9
            obtain rfl : a9 = a0 := Option.some.inj (hl9.symm.trans (by rw [hargs]; rfl))
            obtain rfl : aJ = a2 := Option.some.inj (hlJ.symm.trans (by rw [hargs]; rfl))
            have hgl : g < wr.heap.size := hg9.2
            have hse := arg0_empty HP.out.1 HP.out.2 hl9 ho1 hk2
            rw [hn] at x2
            rw [hse] at x3
            rw [show a9.v.k = 2 by simpa using hk2] at x1
            simp only [Nat.zero_mul, Nat.reduceMul, Nat.add_zero] at x0 x1 x2 x3 x4 x5 t0 t1 t2 t3 t4 t5
            have HY := Lib.hid hy
            have HXJ := Lib.hid hxJ
            have hp3 : (0 : Int) < x.args.length ∧ (1 : Int) < x.args.length ∧ (2 : Int) < x.args.length := by omega
            obtain ⟨hp1, hp2, hp4⟩ := hp3
            clear hl9 hx9 hlJ hxJ hy hargs hn hl3 hn3 hse hk2
            go_wp2_with fail
            refine bodyPost_ret (v := .agg #[.int .i64 aJ.op, .int .i64 aJ.v.k, .int .i64 aJ.v.n, .string aJ.v.s, .string aJ.name, .slice XJ aJ.args.length CJ]) (by first | (simp [results, Tryz.results31, go_sem, y0, y1, y2, y3, y4, y5]; done) | (simp [results, Tryz.results31, go_sem, *]; done)) rfl ?_
            rw [HY.out]
            refine ⟨XJ, CJ, rfl, HXJ.out.keep (fun b hb => ?_), bel⟩
            have hb1 := hb.1
            refine ⟨⟨by omega, by simpa using hb.2⟩, ?_⟩
            iterate 6 rw [heap_setCell_other _ _ _ _ (by simp; omega)]
end Go.Proofs.YtgmcojnhpedpnaaGreat
/- names.Put and the reference NamesPut. -/
namespace Go.Proofs.YtgmcojnhpedpnaaGreat
open Go.RowKit

def zeroX : Exp := .mk 0 ⟨0, 0, ⟨#[]⟩⟩ ⟨#[]⟩ []
theorem zeroX_rep (w : World) (S : Nat → Prop) : XRep w S [.int .i64 0, .int .i64 0, .int .i64 0, .string ⟨#[]⟩, .string ⟨#[]⟩, .slice none 0 0] zeroX :=
  XRep.shut (v := ⟨0, 0, ⟨#[]⟩⟩) (by unfold inI; decide) ⟨by unfold inI; decide, by unfold inI; decide, by unfold inS; decide⟩ (by unfold inS; decide) (by unfold inB; decide) (Nat.le_refl _) Sl.nil
/-- The ending with a formula in new memory, and an error. -/
def RetXC (w : World) (x : Exp) (k : Int) (e : Ending) (w' : World) : Prop :=
  ∃ A c, e = .returned (.tuple #[.agg #[.int .i64 x.op, .int .i64 x.v.k, .int .i64 x.v.n, .string x.v.s, .string x.name, .slice A x.args.length c], .int .i64 k]) ∧
    XRep w' (fresh w w') [.int .i64 x.op, .int .i64 x.v.k, .int .i64 x.v.n, .string x.v.s, .string x.name, .slice A x.args.length c] x ∧ Below w.heap.size w w'
theorem RetXC.zero {w w' : World} {k : Int} (h : Below w.heap.size w w') : RetXC w zeroX k (.returned (.tuple #[.agg #[.int .i64 0, .int .i64 0, .int .i64 0, .string ⟨#[]⟩, .string ⟨#[]⟩, .slice none 0 0], .int .i64 k])) w' :=
  ⟨none, 0, rfl, zeroX_rep _ _, h⟩
def putRes (name : ByteArray) (x y : Exp) : Exp × Int :=
  if exprErr x ≠ 0 then (zeroX, exprErr x) else if exprErr y ≠ 0 then (zeroX, exprErr y) else if nameCheck name ≠ 0 then (zeroX, nameCheck name)
  else if exprErr (putX name y x) ≠ 0 then (zeroX, exprErr (putX name y x)) else (putX name y x, 0)
theorem putRes_cases (name : ByteArray) (x y : Exp) :
    ((exprErr x != 0) = true ∧ putRes name x y = (zeroX, exprErr x)) ∨ (exprErr x = 0 ∧ (exprErr y != 0) = true ∧ putRes name x y = (zeroX, exprErr y)) ∨
    (exprErr x = 0 ∧ exprErr y = 0 ∧ (nameCheck name != 0) = true ∧ putRes name x y = (zeroX, nameCheck name)) ∨
    (exprErr x = 0 ∧ exprErr y = 0 ∧ nameCheck name = 0 ∧ (exprErr (putX name y x) != 0) = true ∧ putRes name x y = (zeroX, exprErr (putX name y x))) ∨
    (exprErr x = 0 ∧ exprErr y = 0 ∧ nameCheck name = 0 ∧ exprErr (putX name y x) = 0 ∧ putRes name x y = (putX name y x, 0)) := by
  unfold putRes
  by_cases h1 : exprErr x = 0
  · by_cases h2 : exprErr y = 0
    · by_cases h3 : nameCheck name = 0
      · by_cases h4 : exprErr (putX name y x) = 0 <;> simp [h1, h2, h3, h4]
      · simp [h1, h2, h3]
    · simp [h1, h2]
  · simp [h1]

end Go.Proofs.YtgmcojnhpedpnaaGreat
/- fold.Fold, fold.Closed, the reference Folded. -/
namespace Go.Proofs.YtgmcojnhpedpnaaGreat
open Go.RowKit

def foldR (x : Exp) : Exp × Int := if exprErr x = 0 then (foldX x, 0) else (zeroX, exprErr x)
def RetBE (w : World) (b : Bool) (k : Int) (e : Ending) (w' : World) : Prop := e = .returned (.tuple #[.bool b, .int .i64 k]) ∧ Below w.heap.size w w'
set_option maxRecDepth 100000 in
set_option maxHeartbeats 2000000 in
theorem fold_Fold (x : Exp) (A : Option Addr) (c : Nat) (w : World) (hN : x.nodes ≤ 1048576) (hx : XRep w (old w) (x.cs A c) x) : Calls Tryz.prog 7 #[.agg (x.cs A c).toArray] w (RetXC w (foldR x).1 (foldR x).2) := by
  have hck := fun w h => expr_Check x A c w h
  have HX := Lib.hid hx
  clear hx
  by_cases he : exprErr x = 0
  · have hfo := fun w h => fold_fold _ x A c w (Nat.le_refl _) hN he h
    have hr : foldR x = (foldX x, 0) := by rw [foldR, if_pos he]
    rw [hr]
    rw [he] at hck
    generalize foldX x = y at hfo ⊢
    clear he hr
    dsimp only
    go_enter Tryz.func7, Tryz.ntmps7
    go_wp2_with (first
      | (go_at_call 27; refine (hck _ (HX.out.keep (old_keep bel))).mono ?_; clear hck; rintro e w1 ⟨rfl, hb1⟩; obtain ⟨hc1, hf1⟩ := bcell hb1; (try simp only [World.heap_drewN, World.cell?_drewN, World.frozen?_drewN] at hc1 hf1); have hz1 := hb1.size; (try simp at hz1); (try (have hy1 := Nat.lt_of_succ_le hz1)); (try (have hx1 := Nat.lt_of_succ_lt hy1)); (first | refine szz6 w1 w (by omega) ?_ | refine szz5 w1 w (by omega) ?_ | refine szz4 w1 w (by omega) ?_ | refine szz3 w1 w (by omega) ?_ | refine szz2 w1 w (by omega) ?_ | refine szz1 w1 w (by omega) ?_ | refine szz0 w1 w (by omega) ?_ | refine szzn w1 w (by omega) ?_ | skip); intros)
      | (go_at_call 28; refine (hfo _ (HX.out.keep (old_keep bel))).mono ?_; clear hfo; rintro e w2 ⟨A2, c2, rfl, hx2, hb2⟩; obtain ⟨hc2, hf2⟩ := bcell hb2; (try simp only [World.heap_drewN, World.cell?_drewN, World.frozen?_drewN] at hc2 hf2); have hz2 := hb2.size; (try simp at hz2); (try (have hy2 := Nat.lt_of_succ_le hz2)); (try (have hx2 := Nat.lt_of_succ_lt hy2)); (first | refine szz6 w2 w (by omega) ?_ | refine szz5 w2 w (by omega) ?_ | refine szz4 w2 w (by omega) ?_ | refine szz3 w2 w (by omega) ?_ | refine szz2 w2 w (by omega) ?_ | refine szz1 w2 w (by omega) ?_ | refine szz0 w2 w (by omega) ?_ | refine szzn w2 w (by omega) ?_ | skip); intros; (first | refine szz6 w2 w1 (by omega) ?_ | refine szz5 w2 w1 (by omega) ?_ | refine szz4 w2 w1 (by omega) ?_ | refine szz3 w2 w1 (by omega) ?_ | refine szz2 w2 w1 (by omega) ?_ | refine szz1 w2 w1 (by omega) ?_ | refine szz0 w2 w1 (by omega) ?_ | refine szzn w2 w1 (by omega) ?_ | skip); intros; have HX2 := Lib.hid hx2; clear hx2))
    have hy9 : w.heap.size + 1 < w.heap.size + 1 + 1 := by omega
    refine bodyPost_ret (v := .tuple #[.agg #[.int .i64 y.op, .int .i64 y.v.k, .int .i64 y.v.n, .string y.v.s, .string y.name, .slice A2 y.args.length c2], .int .i64 0]) (by first | (simp [results, Tryz.results7, go_sem]; done) | (simp [results, Tryz.results7, go_sem, *]; done)) rfl ?_
    refine ⟨A2, c2, rfl, HX2.out.keep (fun b hb => ?_), bel⟩
    have h1 := hb.1
    refine ⟨⟨by omega, by simpa using hb.2⟩, ?_⟩
    iterate 6 rw [heap_setCell_other _ _ _ _ (by simp; omega)]
  · have hr : foldR x = (zeroX, exprErr x) := by rw [foldR, if_neg he]
    rw [hr]
    have hne : (exprErr x != 0) = true := by simpa using he
    generalize exprErr x = er at hck hne ⊢
    clear he hr
    dsimp only
    go_enter Tryz.func7, Tryz.ntmps7
    go_wp2_with (go_at_call 27; refine (hck _ (HX.out.keep (old_keep bel))).mono ?_; clear hck; rintro e w1 ⟨rfl, hb1⟩; obtain ⟨hc1, hf1⟩ := bcell hb1; (try simp only [World.heap_drewN, World.cell?_drewN, World.frozen?_drewN] at hc1 hf1); have hz1 := hb1.size; (try simp at hz1); (try (have hy1 := Nat.lt_of_succ_le hz1)); (try (have hx1 := Nat.lt_of_succ_lt hy1)); (first | refine szz6 w1 w (by omega) ?_ | refine szz5 w1 w (by omega) ?_ | refine szz4 w1 w (by omega) ?_ | refine szz3 w1 w (by omega) ?_ | refine szz2 w1 w (by omega) ?_ | refine szz1 w1 w (by omega) ?_ | refine szz0 w1 w (by omega) ?_ | refine szzn w1 w (by omega) ?_ | skip); intros)
    have hy9 : w.heap.size + 1 < w.heap.size + 1 + 1 := by omega
    exact bodyPost_ret (v := .tuple #[.agg #[.int .i64 0, .int .i64 0, .int .i64 0, .string ⟨#[]⟩, .string ⟨#[]⟩, .slice none 0 0], .int .i64 er]) (by first | (simp [results, Tryz.results7, go_sem]; done) | (simp [results, Tryz.results7, go_sem, *]; done)) rfl (RetXC.zero bel)
set_option maxRecDepth 100000 in
set_option maxHeartbeats 2000000 in
theorem ref_Folded (x : Exp) (A : Option Addr) (c : Nat) (w : World) (hN : x.nodes ≤ 1048576) (hx : XRep w (old w) (x.cs A c) x) : Calls Tryz.prog 9 #[.agg (x.cs A c).toArray] w (RetXC w (foldR x).1 (foldR x).2) := by
  have hck := fun w h => ref_ExprFault x A c w h
  have HX := Lib.hid hx
  clear hx
  by_cases he : exprErr x = 0
  · have hfo := fun w h => ref_folded _ x A c w (Nat.le_refl _) hN he h
    have hr : foldR x = (foldX x, 0) := by rw [foldR, if_pos he]
    rw [hr]
    rw [he] at hck
    generalize foldX x = y at hfo ⊢
    clear he hr
    dsimp only
    go_enter Tryz.func9, Tryz.ntmps9
    go_wp2_with (first
      | (go_at_call 30; refine (hck _ (HX.out.keep (old_keep bel))).mono ?_; clear hck; rintro e w1 ⟨rfl, hb1⟩; obtain ⟨hc1, hf1⟩ := bcell hb1; (try simp only [World.heap_drewN, World.cell?_drewN, World.frozen?_drewN] at hc1 hf1); have hz1 := hb1.size; (try simp at hz1); (try (have hy1 := Nat.lt_of_succ_le hz1)); (try (have hx1 := Nat.lt_of_succ_lt hy1)); (first | refine szz6 w1 w (by omega) ?_ | refine szz5 w1 w (by omega) ?_ | refine szz4 w1 w (by omega) ?_ | refine szz3 w1 w (by omega) ?_ | refine szz2 w1 w (by omega) ?_ | refine szz1 w1 w (by omega) ?_ | refine szz0 w1 w (by omega) ?_ | refine szzn w1 w (by omega) ?_ | skip); intros)
      | (go_at_call 31; refine (hfo _ (HX.out.keep (old_keep bel))).mono ?_; clear hfo; rintro e w2 ⟨A2, c2, rfl, hx2, hb2⟩; obtain ⟨hc2, hf2⟩ := bcell hb2; (try simp only [World.heap_drewN, World.cell?_drewN, World.frozen?_drewN] at hc2 hf2); have hz2 := hb2.size; (try simp at hz2); (try (have hy2 := Nat.lt_of_succ_le hz2)); (try (have hx2 := Nat.lt_of_succ_lt hy2)); (first | refine szz6 w2 w (by omega) ?_ | refine szz5 w2 w (by omega) ?_ | refine szz4 w2 w (by omega) ?_ | refine szz3 w2 w (by omega) ?_ | refine szz2 w2 w (by omega) ?_ | refine szz1 w2 w (by omega) ?_ | refine szz0 w2 w (by omega) ?_ | refine szzn w2 w (by omega) ?_ | skip); intros; (first | refine szz6 w2 w1 (by omega) ?_ | refine szz5 w2 w1 (by omega) ?_ | refine szz4 w2 w1 (by omega) ?_ | refine szz3 w2 w1 (by omega) ?_ | refine szz2 w2 w1 (by omega) ?_ | refine szz1 w2 w1 (by omega) ?_ | refine szz0 w2 w1 (by omega) ?_ | refine szzn w2 w1 (by omega) ?_ | skip); intros; have HX2 := Lib.hid hx2; clear hx2))
    have hy9 : w.heap.size + 1 < w.heap.size + 1 + 1 := by omega
    refine bodyPost_ret (v := .tuple #[.agg #[.int .i64 y.op, .int .i64 y.v.k, .int .i64 y.v.n, .string y.v.s, .string y.name, .slice A2 y.args.length c2], .int .i64 0]) (by first | (simp [results, Tryz.results9, go_sem]; done) | (simp [results, Tryz.results9, go_sem, *]; done)) rfl ?_
    refine ⟨A2, c2, rfl, HX2.out.keep (fun b hb => ?_), bel⟩
    have h1 := hb.1
    refine ⟨⟨by omega, by simpa using hb.2⟩, ?_⟩
    iterate 6 rw [heap_setCell_other _ _ _ _ (by simp; omega)]
  · have hr : foldR x = (zeroX, exprErr x) := by rw [foldR, if_neg he]
    rw [hr]
    have hne : (exprErr x != 0) = true := by simpa using he
    generalize exprErr x = er at hck hne ⊢
    clear he hr
    dsimp only
    go_enter Tryz.func9, Tryz.ntmps9
    go_wp2_with (go_at_call 30; refine (hck _ (HX.out.keep (old_keep bel))).mono ?_; clear hck; rintro e w1 ⟨rfl, hb1⟩; obtain ⟨hc1, hf1⟩ := bcell hb1; (try simp only [World.heap_drewN, World.cell?_drewN, World.frozen?_drewN] at hc1 hf1); have hz1 := hb1.size; (try simp at hz1); (try (have hy1 := Nat.lt_of_succ_le hz1)); (try (have hx1 := Nat.lt_of_succ_lt hy1)); (first | refine szz6 w1 w (by omega) ?_ | refine szz5 w1 w (by omega) ?_ | refine szz4 w1 w (by omega) ?_ | refine szz3 w1 w (by omega) ?_ | refine szz2 w1 w (by omega) ?_ | refine szz1 w1 w (by omega) ?_ | refine szz0 w1 w (by omega) ?_ | refine szzn w1 w (by omega) ?_ | skip); intros)
    have hy9 : w.heap.size + 1 < w.heap.size + 1 + 1 := by omega
    exact bodyPost_ret (v := .tuple #[.agg #[.int .i64 0, .int .i64 0, .int .i64 0, .string ⟨#[]⟩, .string ⟨#[]⟩, .slice none 0 0], .int .i64 er]) (by first | (simp [results, Tryz.results9, go_sem]; done) | (simp [results, Tryz.results9, go_sem, *]; done)) rfl (RetXC.zero bel)

set_option maxRecDepth 100000 in
set_option maxHeartbeats 2000000 in
theorem fold_Closed (x : Exp) (A : Option Addr) (c : Nat) (w : World) (hN : x.nodes ≤ 1048576) (hx : XRep w (old w) (x.cs A c) x) :
    Calls Tryz.prog 8 #[.agg (x.cs A c).toArray] w (RetBE w (decide (exprErr x = 0) && decide ((namesR x).1.length = 0)) (exprErr x)) := by
  have hck := fun w h => expr_Check x A c w h
  have HX := Lib.hid hx
  clear hx
  by_cases he : exprErr x = 0
  · have hcl := fun w h => fold_closed x A c w hN he h
    have hb : (decide (exprErr x = 0) && decide ((namesR x).1.length = 0)) = decide (askN x = []) := by
      have e : namesR x = (rise (askN x), 0) := by rw [namesR, if_pos he]
      rw [e, he, Bool.eq_iff_iff]
      simp only [Bool.and_eq_true, decide_eq_true_eq, true_and]
      exact rise_nil _
    rw [hb]
    rw [he] at hck ⊢
    generalize decide (askN x = []) = bo at hcl ⊢
    clear he hb
    go_enter Tryz.func8, Tryz.ntmps8
    go_wp2_with (first
      | (go_at_call 27; refine (hck _ (HX.out.keep (old_keep bel))).mono ?_; clear hck; rintro e w1 ⟨rfl, hb1⟩; obtain ⟨hc1, hf1⟩ := bcell hb1; (try simp only [World.heap_drewN, World.cell?_drewN, World.frozen?_drewN] at hc1 hf1); have hz1 := hb1.size; (try simp at hz1); (try (have hy1 := Nat.lt_of_succ_le hz1)); (try (have hx1 := Nat.lt_of_succ_lt hy1)); (first | refine szz6 w1 w (by omega) ?_ | refine szz5 w1 w (by omega) ?_ | refine szz4 w1 w (by omega) ?_ | refine szz3 w1 w (by omega) ?_ | refine szz2 w1 w (by omega) ?_ | refine szz1 w1 w (by omega) ?_ | refine szz0 w1 w (by omega) ?_ | refine szzn w1 w (by omega) ?_ | skip); intros)
      | (go_at_call 29; refine (hcl _ (HX.out.keep (old_keep bel))).mono ?_; clear hcl; rintro e w2 ⟨rfl, hb2⟩; obtain ⟨hc2, hf2⟩ := bcell hb2; (try simp only [World.heap_drewN, World.cell?_drewN, World.frozen?_drewN] at hc2 hf2); have hz2 := hb2.size; (try simp at hz2); (try (have hy2 := Nat.lt_of_succ_le hz2)); (try (have hx2 := Nat.lt_of_succ_lt hy2)); (first | refine szz6 w2 w (by omega) ?_ | refine szz5 w2 w (by omega) ?_ | refine szz4 w2 w (by omega) ?_ | refine szz3 w2 w (by omega) ?_ | refine szz2 w2 w (by omega) ?_ | refine szz1 w2 w (by omega) ?_ | refine szz0 w2 w (by omega) ?_ | refine szzn w2 w (by omega) ?_ | skip); intros; (first | refine szz6 w2 w1 (by omega) ?_ | refine szz5 w2 w1 (by omega) ?_ | refine szz4 w2 w1 (by omega) ?_ | refine szz3 w2 w1 (by omega) ?_ | refine szz2 w2 w1 (by omega) ?_ | refine szz1 w2 w1 (by omega) ?_ | refine szz0 w2 w1 (by omega) ?_ | refine szzn w2 w1 (by omega) ?_ | skip); intros))
    go_ret2
    exact ⟨rfl, bel⟩
  · have hb : (decide (exprErr x = 0) && decide ((namesR x).1.length = 0)) = false := by simp [he]
    rw [hb]
    have hne : (exprErr x != 0) = true := by simpa using he
    generalize exprErr x = er at hck hne ⊢
    clear he hb
    go_enter Tryz.func8, Tryz.ntmps8
    go_wp2_with (go_at_call 27; refine (hck _ (HX.out.keep (old_keep bel))).mono ?_; clear hck; rintro e w1 ⟨rfl, hb1⟩; obtain ⟨hc1, hf1⟩ := bcell hb1; (try simp only [World.heap_drewN, World.cell?_drewN, World.frozen?_drewN] at hc1 hf1); have hz1 := hb1.size; (try simp at hz1); (try (have hy1 := Nat.lt_of_succ_le hz1)); (try (have hx1 := Nat.lt_of_succ_lt hy1)); (first | refine szz6 w1 w (by omega) ?_ | refine szz5 w1 w (by omega) ?_ | refine szz4 w1 w (by omega) ?_ | refine szz3 w1 w (by omega) ?_ | refine szz2 w1 w (by omega) ?_ | refine szz1 w1 w (by omega) ?_ | refine szz0 w1 w (by omega) ?_ | refine szzn w1 w (by omega) ?_ | skip); intros)
    go_ret2
    exact ⟨rfl, bel⟩
end Go.Proofs.YtgmcojnhpedpnaaGreat
/- The law FoldTells returns true for every input of bulk at most 1048576: fold.Fold and fold.Closed agree with the references. -/
namespace Go.Proofs.YtgmcojnhpedpnaaGreat
open Go.ChangeShapes Go.WideShapes Go.ChangeAt Go.RowKit

mutual
theorem bulk_nodes : ∀ x : Exp, x.nodes ≤ x.bulk
  | .mk op v nm args => by
    have := bulks_nodes args
    simp only [Exp.bulk, Exp.nodes]
    omega
theorem bulks_nodes : ∀ l : List Exp, nodesL l ≤ Exp.bulk.bulks l
  | [] => by simp [nodesL]
  | a :: l => by
    have := bulk_nodes a
    have := bulks_nodes l
    simp only [Exp.bulk.bulks, nodesL]
    omega
end
theorem namesR_inS {w : World} {S : Nat → Prop} {cs : List Value} {x : Exp} (h : XRep w S cs x) : ∀ s ∈ (namesR x).1, inS s := by
  intro s hs
  unfold namesR at hs
  split at hs
  · exact askN_inS h s ((rise_mem _ _).1 hs)
  · cases hs
theorem namesR_len (x : Exp) : (namesR x).1.length ≤ x.nodes := by
  unfold namesR
  split
  · exact Nat.le_trans (rise_len _) (askN_nodes x)
  · simp

theorem foldR_snd (x : Exp) : (foldR x).2 = exprErr x := by
  unfold foldR
  split
  · rename_i h; exact h.symm
  · rfl
theorem namesR_snd (x : Exp) : (namesR x).2 = exprErr x := by
  unfold namesR
  split
  · rename_i h; exact h.symm
  · rfl
set_option maxRecDepth 100000 in
set_option maxHeartbeats 2000000 in
theorem law_FoldTells (w : World) (cx : List Value) (x : Exp) (hx : XRep w (old w) cx x) (hb : x.bulk ≤ 1048576) :
    Calls Tryz.prog 3 #[.agg cx.toArray] w fun e w' => e = .returned (.bool true) ∧ Below w.heap.size w w' := by
  obtain ⟨A, c, rfl, _⟩ := hx.open_
  have hN : x.nodes ≤ 1048576 := Nat.le_trans (bulk_nodes x) hb
  have hin := namesR_inS hx
  have hln := namesR_len x
  have HX := Lib.hid (And.intro hx hin)
  have h1 := fun w h => fold_Fold x A c w hN h
  have h2 := fun w h => fold_Closed x A c w hN h
  have h3 := fun w h => ref_Folded x A c w hN h
  have h4 := fun w h => ref_NamesOf x A c w hN h
  rw [foldR_snd] at h1 h3
  rw [namesR_snd] at h4
  clear hx hin
  generalize (foldR x).1 = z at h1 h3
  generalize (namesR x).1 = l at *
  generalize hbo : (decide (exprErr x = 0) && decide (l.length = 0)) = bo at h2
  have hbo2 : bo = (((exprErr x : Int) == 0) && ((l.length : Int) == 0)) := by
    rw [← hbo, Bool.eq_iff_iff]
    simp only [Bool.and_eq_true, decide_eq_true_eq, beq_iff_eq]
    constructor
    · rintro ⟨a, b⟩; exact ⟨a, by omega⟩
    · rintro ⟨a, b⟩; exact ⟨a, by omega⟩
  clear hbo
  generalize exprErr x = er at *
  have hcase : (er == 0) = false ∨ (er == 0) = true := by cases (er == 0) <;> simp
  have HBO := Lib.hid hbo2
  clear hbo2
  have law : ∀ q : Bool, (er == 0) = q → Calls Tryz.prog 3 #[.agg (x.cs A c).toArray] w fun e w' => e = .returned (.bool true) ∧ Below w.heap.size w w' := by
    intro q hq
    have hbq : bo = (q && ((l.length : Int) == 0)) := by rw [HBO.out, hq]
    subst hbq
    cases q
    all_goals
      go_enter Tryz.func3, Tryz.ntmps3
      go_wp2_with fail
      refine (h1 _ (HX.out.1.keep (old_keep bel))).mono ?_; rintro e w1 ⟨A1, c1, rfl, hq1, hb1⟩; obtain ⟨hc1, hf1⟩ := bcell hb1; (try simp only [World.heap_drewN, World.cell?_drewN, World.frozen?_drewN] at hc1 hf1); have hz1 := hb1.size; (try simp at hz1); (try (have hy1 := Nat.lt_of_succ_le hz1)); (try (have hx1 := Nat.lt_of_succ_lt hy1)); (first | refine szz6 w1 w (by omega) ?_ | refine szz5 w1 w (by omega) ?_ | refine szz4 w1 w (by omega) ?_ | refine szz3 w1 w (by omega) ?_ | refine szz2 w1 w (by omega) ?_ | refine szz1 w1 w (by omega) ?_ | refine szz0 w1 w (by omega) ?_ | refine szzn w1 w (by omega) ?_ | skip); intros
      have g1 : ∀ W, Below w1.heap.size w1 W → XRep W (old W) (z.cells A1 c1) z := fun W hW => hq1.keep (fun b hb => ⟨Nat.lt_of_lt_of_le hb.2 hW.size, hW.block b hb.2⟩)
      have G1 := Lib.hid g1
      have l1 : w.heap.size < w1.heap.size := by have := hb1.size; simp at this; omega
      clear hq1 g1
      go_wp2_with fail
      refine (h2 _ (HX.out.1.keep (old_keep bel))).mono ?_; rintro e w2 ⟨rfl, hb2⟩; obtain ⟨hc2, hf2⟩ := bcell hb2; (try simp only [World.heap_drewN, World.cell?_drewN, World.frozen?_drewN] at hc2 hf2); have hz2 := hb2.size; (try simp at hz2); (try (have hy2 := Nat.lt_of_succ_le hz2)); (try (have hx2 := Nat.lt_of_succ_lt hy2)); (first | refine szz6 w2 w (by omega) ?_ | refine szz5 w2 w (by omega) ?_ | refine szz4 w2 w (by omega) ?_ | refine szz3 w2 w (by omega) ?_ | refine szz2 w2 w (by omega) ?_ | refine szz1 w2 w (by omega) ?_ | refine szz0 w2 w (by omega) ?_ | refine szzn w2 w (by omega) ?_ | skip); intros; (first | refine szz6 w2 w1 (by omega) ?_ | refine szz5 w2 w1 (by omega) ?_ | refine szz4 w2 w1 (by omega) ?_ | refine szz3 w2 w1 (by omega) ?_ | refine szz2 w2 w1 (by omega) ?_ | refine szz1 w2 w1 (by omega) ?_ | refine szz0 w2 w1 (by omega) ?_ | refine szzn w2 w1 (by omega) ?_ | skip); intros
      have l2 : w1.heap.size < w2.heap.size := by have := hb2.size; simp at this; omega
      go_wp2_with fail
      refine (h3 _ (HX.out.1.keep (old_keep bel))).mono ?_; rintro e w3 ⟨A3, c3, rfl, hq3, hb3⟩; obtain ⟨hc3, hf3⟩ := bcell hb3; (try simp only [World.heap_drewN, World.cell?_drewN, World.frozen?_drewN] at hc3 hf3); have hz3 := hb3.size; (try simp at hz3); (try (have hy3 := Nat.lt_of_succ_le hz3)); (try (have hx3 := Nat.lt_of_succ_lt hy3)); (first | refine szz6 w3 w (by omega) ?_ | refine szz5 w3 w (by omega) ?_ | refine szz4 w3 w (by omega) ?_ | refine szz3 w3 w (by omega) ?_ | refine szz2 w3 w (by omega) ?_ | refine szz1 w3 w (by omega) ?_ | refine szz0 w3 w (by omega) ?_ | refine szzn w3 w (by omega) ?_ | skip); intros; (first | refine szz6 w3 w1 (by omega) ?_ | refine szz5 w3 w1 (by omega) ?_ | refine szz4 w3 w1 (by omega) ?_ | refine szz3 w3 w1 (by omega) ?_ | refine szz2 w3 w1 (by omega) ?_ | refine szz1 w3 w1 (by omega) ?_ | refine szz0 w3 w1 (by omega) ?_ | refine szzn w3 w1 (by omega) ?_ | skip); intros; (first | refine szz6 w3 w2 (by omega) ?_ | refine szz5 w3 w2 (by omega) ?_ | refine szz4 w3 w2 (by omega) ?_ | refine szz3 w3 w2 (by omega) ?_ | refine szz2 w3 w2 (by omega) ?_ | refine szz1 w3 w2 (by omega) ?_ | refine szz0 w3 w2 (by omega) ?_ | refine szzn w3 w2 (by omega) ?_ | skip); intros
      have g3 : ∀ W, Below w3.heap.size w3 W → XRep W (old W) (z.cells A3 c3) z := fun W hW => hq3.keep (fun b hb => ⟨Nat.lt_of_lt_of_le hb.2 hW.size, hW.block b hb.2⟩)
      have G3 := Lib.hid g3
      clear hq3 g3
      go_wp2_with fail
      refine (h4 _ (HX.out.1.keep (old_keep bel))).mono ?_; rintro e w4 ⟨v4, rfl, ho4, hb4⟩; obtain ⟨A4, c4, rfl, hc4', hs4⟩ := ownStr ho4 rfl HX.out.2; obtain ⟨hc4, hf4⟩ := bcell hb4; (try simp only [World.heap_drewN, World.cell?_drewN, World.frozen?_drewN] at hc4 hf4); have hz4 := hb4.size; (try simp at hz4); (try (have hy4 := Nat.lt_of_succ_le hz4)); (try (have hx4 := Nat.lt_of_succ_lt hy4)); (first | refine szz6 w4 w (by omega) ?_ | refine szz5 w4 w (by omega) ?_ | refine szz4 w4 w (by omega) ?_ | refine szz3 w4 w (by omega) ?_ | refine szz2 w4 w (by omega) ?_ | refine szz1 w4 w (by omega) ?_ | refine szz0 w4 w (by omega) ?_ | refine szzn w4 w (by omega) ?_ | skip); intros; (first | refine szz6 w4 w1 (by omega) ?_ | refine szz5 w4 w1 (by omega) ?_ | refine szz4 w4 w1 (by omega) ?_ | refine szz3 w4 w1 (by omega) ?_ | refine szz2 w4 w1 (by omega) ?_ | refine szz1 w4 w1 (by omega) ?_ | refine szz0 w4 w1 (by omega) ?_ | refine szzn w4 w1 (by omega) ?_ | skip); intros; (first | refine szz6 w4 w2 (by omega) ?_ | refine szz5 w4 w2 (by omega) ?_ | refine szz4 w4 w2 (by omega) ?_ | refine szz3 w4 w2 (by omega) ?_ | refine szz2 w4 w2 (by omega) ?_ | refine szz1 w4 w2 (by omega) ?_ | refine szz0 w4 w2 (by omega) ?_ | refine szzn w4 w2 (by omega) ?_ | skip); intros; (first | refine szz6 w4 w3 (by omega) ?_ | refine szz5 w4 w3 (by omega) ?_ | refine szz4 w4 w3 (by omega) ?_ | refine szz3 w4 w3 (by omega) ?_ | refine szz2 w4 w3 (by omega) ?_ | refine szz1 w4 w3 (by omega) ?_ | refine szz0 w4 w3 (by omega) ?_ | refine szzn w4 w3 (by omega) ?_ | skip); intros
      clear ho4 hs4
      go_wp2_with fail
      refine (same_Expr _ z A1 c1 A3 c3 _ (Nat.le_refl _) (G1.out _ bel) (G3.out _ bel)).mono ?_; rintro e w5 ⟨rfl, hb5⟩; obtain ⟨hc5, hf5⟩ := bcell hb5; (try simp only [World.heap_drewN, World.cell?_drewN, World.frozen?_drewN] at hc5 hf5); have hz5 := hb5.size; (try simp at hz5); (try (have hy5 := Nat.lt_of_succ_le hz5)); (try (have hx5 := Nat.lt_of_succ_lt hy5)); (first | refine szz6 w5 w (by omega) ?_ | refine szz5 w5 w (by omega) ?_ | refine szz4 w5 w (by omega) ?_ | refine szz3 w5 w (by omega) ?_ | refine szz2 w5 w (by omega) ?_ | refine szz1 w5 w (by omega) ?_ | refine szz0 w5 w (by omega) ?_ | refine szzn w5 w (by omega) ?_ | skip); intros; (first | refine szz6 w5 w1 (by omega) ?_ | refine szz5 w5 w1 (by omega) ?_ | refine szz4 w5 w1 (by omega) ?_ | refine szz3 w5 w1 (by omega) ?_ | refine szz2 w5 w1 (by omega) ?_ | refine szz1 w5 w1 (by omega) ?_ | refine szz0 w5 w1 (by omega) ?_ | refine szzn w5 w1 (by omega) ?_ | skip); intros; (first | refine szz6 w5 w2 (by omega) ?_ | refine szz5 w5 w2 (by omega) ?_ | refine szz4 w5 w2 (by omega) ?_ | refine szz3 w5 w2 (by omega) ?_ | refine szz2 w5 w2 (by omega) ?_ | refine szz1 w5 w2 (by omega) ?_ | refine szz0 w5 w2 (by omega) ?_ | refine szzn w5 w2 (by omega) ?_ | skip); intros; (first | refine szz6 w5 w3 (by omega) ?_ | refine szz5 w5 w3 (by omega) ?_ | refine szz4 w5 w3 (by omega) ?_ | refine szz3 w5 w3 (by omega) ?_ | refine szz2 w5 w3 (by omega) ?_ | refine szz1 w5 w3 (by omega) ?_ | refine szz0 w5 w3 (by omega) ?_ | refine szzn w5 w3 (by omega) ?_ | skip); intros; (first | refine szz6 w5 w4 (by omega) ?_ | refine szz5 w5 w4 (by omega) ?_ | refine szz4 w5 w4 (by omega) ?_ | refine szz3 w5 w4 (by omega) ?_ | refine szz2 w5 w4 (by omega) ?_ | refine szz1 w5 w4 (by omega) ?_ | refine szz0 w5 w4 (by omega) ?_ | refine szzn w5 w4 (by omega) ?_ | skip); intros
      go_wp2_with fail
      go_ret
      exact ⟨rfl, bel⟩
  rcases hcase with h | h
  · exact law false h
  · exact law true h
set_option maxRecDepth 100000 in
theorem FoldTellsUpto_lifted (os : Os) (started : os.Started) (H : Type) (enc : TypeId × Value → H) (FS : Stop.Interp) :
    ReturnsInHanded {} Tryz.checked os 3 .any ((Rows.OpenSpec.upto Rows.foldTellsSpec).pre6 enc Tryz.checked.prog Tryz.f3 Rows.foldTellsUptoRow.domain false) (((Rows.OpenSpec.upto Rows.foldTellsSpec).at FS).post enc Tryz.checked.prog Tryz.f3 false true false false) := by
  refine law_lifted_upto (s := Rows.foldTellsSpec) (FS := FS) started (by kernel_rfl) Tryz.func3 (by rw [Tryz.params3]; exact of_decide_eq_true (by kernel_rfl)) rfl rfl
    (fun ds hl => by rw [show Tryz.f3.params.size = 1 from rfl] at hl; match ds, hl with | [d0], _ => rfl)
    (OpenSpec.witness (enc := enc) (C := Tryz.checked) (s := Rows.OpenSpec.upto Rows.foldTellsSpec) (k := Rows.uptoSmall) rfl false ⟨#[], #[.agg #[.int .i64 0, .int .i64 0, .int .i64 0, .string ByteArray.empty, .string ByteArray.empty, .slice none 0 0]], []⟩ 8 (by kernel_rfl) (by kernel_rfl) (by kernel_rfl) (x := ([.agg [.lit (.int .i64 0), .agg [.lit (.int .i64 0), .lit (.int .i64 0), .lit (.string [])], .lit (.string []), .nil]], [], [])) (by kernel_rfl) rfl (by kernel_rfl)) ?_
  intro W b args ds p hA hval hsz hbulk
  rw [Tryz.params3] at hA hval hsz
  obtain ⟨v0, vs0, d0, ds0, p0, q0, hargs, rfl, rfl, h0, r0⟩ := trodAll_cons hA
  obtain ⟨rfl, rfl, rfl⟩ := trodAll_nil r0
  have hargs' : args = #[v0] := by apply Array.toList_inj.1; simpa using hargs
  subst hargs'
  have w0 := weightsEach_at _ _ hsz 0 _ _ rfl rfl
  obtain ⟨cs0, a0, rfl, s0, m0⟩ := arg_struct dec_Exp Tryz.underlying26 (hval 0 26 _ rfl rfl) h0 w0
  simp only [Rows.uptoBulkAll] at hbulk
  exact law_FoldTells W cs0 a0 s0 (Nat.le_trans m0 (by omega))
theorem FoldTellsUpto_holds : Rows.FoldTellsUptoSaid :=
  OpenClaim.holds_of_cond 3 Tryz.f3 rfl rfl rfl rfl rfl rfl rfl ⟨rfl, rfl, rfl, rfl, rfl⟩ rfl rfl rfl rfl rfl (by kernel_rfl) Tryz.func3 (by kernel_rfl)
    (of_decide_eq_true (by kernel_rfl)) (by unfold Func.isWrapper; rw [if_neg (of_decide_eq_false (by kernel_rfl))]; exact ⟨rfl, rfl⟩)
    (fun os started H enc _ FS => FoldTellsUpto_lifted os started H enc FS)
end Go.Proofs.YtgmcojnhpedpnaaGreat
