/- Slices of flat elements as rows of cells: how they are read in order, and how a call's own row grows by another slice or loses a part. No program text is walked here. -/
import Derived.Test.YtgmcojnhpedpnaaGreatTypes
import Derived.Deep.RegionLaw
import Derived.Deep.AppendLies
import Derived.Laws.AppendOwnNone
import Derived.Lib.SliceRun
namespace Go.Proofs.YtgmcojnhpedpnaaGreat
open Go.RowKit

theorem flat_len {α β : Type} (enc : α → List β) (size : Nat) (hsz : ∀ a, (enc a).length = size) : ∀ l : List α, (l.flatMap enc).length = l.length * size
  | [] => by simp
  | a :: l => by rw [List.flatMap_cons, List.length_append, hsz, flat_len enc size hsz l, List.length_cons, Nat.add_mul]; omega
theorem flat_take {α β : Type} (enc : α → List β) (size : Nat) (hsz : ∀ a, (enc a).length = size) (l : List α) (i : Nat) (hi : i ≤ l.length) : (l.flatMap enc).take (i * size) = (l.take i).flatMap enc := by
  have h : l.flatMap enc = (l.take i).flatMap enc ++ (l.drop i).flatMap enc := by rw [← List.flatMap_append, List.take_append_drop]
  rw [h]
  exact List.take_left' (by rw [flat_len enc size hsz, List.length_take, Nat.min_eq_left hi])
theorem flat_drop {α β : Type} (enc : α → List β) (size : Nat) (hsz : ∀ a, (enc a).length = size) (l : List α) (i : Nat) (hi : i ≤ l.length) : (l.flatMap enc).drop (i * size) = (l.drop i).flatMap enc := by
  have h : l.flatMap enc = (l.take i).flatMap enc ++ (l.drop i).flatMap enc := by rw [← List.flatMap_append, List.take_append_drop]
  rw [h]
  exact List.drop_left' (by rw [flat_len enc size hsz, List.length_take, Nat.min_eq_left hi])

/-- A slice read element by element, as its cells one behind the other. -/
theorem Sl.cells {α : Type} {enc : α → List Value} {size : Nat} {w : World} {S : Nat → Prop} {R : List Value → α → Prop} {A : Option Addr} {n : Nat} {l : List α} (hsz : 0 < size) (hlen : ∀ a, (enc a).length = size) (hR : ∀ cs a, R cs a → cs = enc a)
    (h : Sl w S size R A n l) (p : Addr) (hp : A = some p) : ∀ j u, (l.flatMap enc)[j]? = some u → w.cell? (p.add j) = some u := by
  intro j u hj
  have hjl : j < l.length * size := by
    have := (List.getElem?_eq_some_iff.1 hj).1
    rwa [flat_len enc size hlen] at this
  have hl : 0 < l.length := by
    rcases Nat.eq_zero_or_pos l.length with h0 | h0
    · rw [h0] at hjl; omega
    · exact h0
  obtain ⟨b, o, e, _, hc⟩ := h.2 (by rw [← h.1]; exact hl)
  rw [e] at hp
  cases hp
  have hi : j / size < l.length := Nat.div_lt_of_lt_mul (by rw [Nat.mul_comm]; exact hjl)
  obtain ⟨cs, hr, _, hcell⟩ := hc (j / size) _ (List.getElem?_eq_getElem hi)
  have hm := Nat.mod_lt j hsz
  have e1 := hcell (j % size) hm
  have e2 : j / size * size + j % size = j := Nat.div_add_mod' j size
  rw [e2] at e1
  rw [Addr.add_lit, e1, hR _ _ hr, ← flat_at enc size hlen l _ _ _ (List.getElem?_eq_getElem hi) hm, e2]
  exact hj
theorem Sl.take' {α : Type} {w : World} {S : Nat → Prop} {size : Nat} {R : List Value → α → Prop} {A : Option Addr} {n k : Nat} {l : List α} (h : Sl w S size R A n l) (hk : k ≤ n) : Sl w S size R A k (l.take k) := by
  refine ⟨by rw [List.length_take, h.1]; omega, fun h0 => ?_⟩
  obtain ⟨b, o, e, hs, hc⟩ := h.2 (by omega)
  refine ⟨b, o, e, hs, fun i v hv => ?_⟩
  have hi : i < k := by
    have := (List.getElem?_eq_some_iff.1 hv).1
    rw [List.length_take] at this
    omega
  rw [List.getElem?_take_of_lt hi] at hv
  exact hc i v hv
theorem Sl.drop' {α : Type} {w : World} {S : Nat → Prop} {size : Nat} {R : List Value → α → Prop} {b o : Nat} {n k : Nat} {l : List α} (h : Sl w S size R (some ⟨b, o, none⟩) n l) : Sl w S size R (some ⟨b, o + k * size, none⟩) (n - k) (l.drop k) := by
  refine ⟨by rw [List.length_drop, h.1], fun h0 => ?_⟩
  obtain ⟨b', o', e, hs, hc⟩ := h.2 (by omega)
  cases e
  refine ⟨b, o + k * size, rfl, hs, fun i v hv => ?_⟩
  rw [List.getElem?_drop] at hv
  obtain ⟨cs, h1, h2, h3⟩ := hc (k + i) v hv
  refine ⟨cs, h1, h2, fun j hj => ?_⟩
  have := h3 j hj
  rw [show o + ((k + i) * size + j) = o + k * size + (i * size + j) by rw [Nat.add_mul]; omega] at this
  exact this
theorem Sl.cut {α : Type} {w : World} {S : Nat → Prop} {size : Nat} {R : List Value → α → Prop} {A : Option Addr} {n k c : Nat} {l : List α} (h : Sl w S size R A n l) (hk : k ≤ n) (hc : n ≤ c) :
    ∃ A', (if c = k then A else A.map (fun x => x.add (k * size))) = A' ∧ Sl w S size R A' (n - k) (l.drop k) := by
  refine ⟨_, rfl, ?_⟩
  rcases Nat.lt_or_ge k n with h0 | h0
  · obtain ⟨b, o, e, _⟩ := h.2 (by omega)
    subst e
    rw [if_neg (by omega), Option.map_some, Addr.add_lit]
    exact h.drop'
  · have e : l.drop k = [] := List.drop_eq_nil_of_le (by rw [h.1]; exact h0)
    rw [e, show n - k = 0 by omega]
    exact Sl.nil
theorem Sl.all_wf {α : Type} {wf : α → Prop} {w : World} {S : Nat → Prop} {size : Nat} {R : List Value → α → Prop} {A : Option Addr} {n : Nat} {l : List α} (h : Sl w S size R A n l) (hR : ∀ cs a, R cs a → wf a) : ∀ a ∈ l, wf a := by
  intro a ha
  obtain ⟨i, hi, rfl⟩ := List.mem_iff_getElem.1 ha
  have hn : 0 < n := by rw [← h.1]; omega
  obtain ⟨b, o, e, hs, hc⟩ := h.2 hn
  obtain ⟨cs, h1, _⟩ := hc i l[i] (List.getElem?_eq_getElem hi)
  exact hR _ _ h1
theorem Sl.of_none {α : Type} {w : World} {S : Nat → Prop} {size : Nat} {R : List Value → α → Prop} {n : Nat} {l : List α} (h : Sl w S size R none n l) : n = 0 ∧ l = [] := by
  rcases Nat.eq_zero_or_pos n with h0 | h0
  · subst h0; exact ⟨rfl, List.eq_nil_of_length_eq_zero h.1⟩
  · obtain ⟨b, o, e, _⟩ := h.2 h0; cases e

/-- A row of the call's own, as a slice that reads so. -/
theorem own_slw {α : Type} (enc : α → List Value) (wf : α → Prop) {size : Nat} (hsz : ∀ a, (enc a).length = size) {w : World} {base : Nat} {e : TypeId} {v : Value} {n : Nat} {l : List α}
    (h : w.ownsRow base e size v n (l.flatMap enc)) (hl : l.length = n) (hw : ∀ a ∈ l, wf a) :
    ∃ A c, v = .slice A n c ∧ n ≤ c ∧ Sl w (old w) size (fun cs a => cs = enc a ∧ wf a) A n l := by
  obtain ⟨A, c, rfl, hc, hs⟩ := own_sl enc hsz h hl
  refine ⟨A, c, rfl, hc, hs.1, fun hn => ?_⟩
  obtain ⟨b, o, e, hS, hcc⟩ := hs.2 hn
  refine ⟨b, o, e, hS.2, fun i v hv => ?_⟩
  obtain ⟨cs, rfl, hl', h'⟩ := hcc i v hv
  exact ⟨_, ⟨rfl, hw v (List.mem_of_getElem? hv)⟩, hl', h'⟩
theorem ownsRow_keep {w w' : World} {base : Nat} {e : TypeId} {size : Nat} {v : Value} {n : Nat} {xs : List Value} (h : w.ownsRow base e size v n xs) (hb : Below w.heap.size w w') : w'.ownsRow base e size v n xs := by
  refine ⟨h.1, ?_⟩
  rcases h.2 with hn | ⟨g, cap, cur, rfl, hbg, hgg, rest⟩
  · exact .inl hn
  · refine .inr ⟨g, cap, cur, rfl, hbg, ?_, rest⟩
    rw [hb.block g (Array.getElem?_eq_some_iff.1 hgg).1]
    exact hgg
theorem ownsRow_base {w : World} {base base' : Nat} {e : TypeId} {size : Nat} {v : Value} {n : Nat} {xs : List Value} (h : w.ownsRow base e size v n xs) (hb : base' ≤ base) : w.ownsRow base' e size v n xs := by
  refine ⟨h.1, ?_⟩
  rcases h.2 with hn | ⟨g, cap, cur, rfl, hbg, rest⟩
  · exact .inl hn
  · exact .inr ⟨g, cap, cur, rfl, by omega, rest⟩

/-- Ends with a row of the call's own; with an error's number behind it; with nil and that. -/
def OwnRow {α : Type} (enc : α → List Value) (e : TypeId) (size : Nat) (w : World) (l : List α) (E : Ending) (w' : World) : Prop :=
  ∃ v, E = .returned v ∧ w'.ownsRow w.heap.size e size v l.length (l.flatMap enc) ∧ Below w.heap.size w w'
def OwnRowC {α : Type} (enc : α → List Value) (e : TypeId) (size : Nat) (w : World) (l : List α) (c : Int) (E : Ending) (w' : World) : Prop :=
  ∃ v, E = .returned (.tuple #[v, .int .i64 c]) ∧ w'.ownsRow w.heap.size e size v l.length (l.flatMap enc) ∧ Below w.heap.size w w'
def NilC (w : World) (c : Int) (E : Ending) (w' : World) : Prop := E = .returned (.tuple #[.slice none 0 0, .int .i64 c]) ∧ Below w.heap.size w w'
theorem NilC.own {α : Type} (enc : α → List Value) (e : TypeId) (size : Nat) {w w' : World} {c : Int} {E : Ending} (h : NilC w c E w') : OwnRowC enc e size w [] c E w' :=
  ⟨_, h.1, by simpa using World.ownsRow_nil _ _ _ _, h.2⟩
def RetB (w : World) (b : Bool) (E : Ending) (w' : World) : Prop := E = .returned (.bool b) ∧ Below w.heap.size w w'

theorem news2 {W : World} {g : Nat} {x y : Value} (h0 : W.cell? ⟨g, 0, none⟩ = some x) (h1 : W.cell? ⟨g, 1, none⟩ = some y) : ∀ p, some (⟨g, 0, none⟩ : Addr) = some p → ∀ j u, [x, y][j]? = some u → W.cell? (p.add j) = some u := by
  intro p hp j u hj
  cases hp
  rw [Addr.add_lit, Nat.zero_add]
  match j with
  | 0 => simp at hj; subst hj; exact h0
  | 1 => simp at hj; subst hj; exact h1
  | k + 2 => simp at hj
section
variable {P : Program}
/-- 'append(v, s...)', v a row of the call's own, s whatever slice (nil too) whose cells are known. -/
theorem run_append_sl (w : World) (base : Nat) (t ty e : TypeId) (i : TypeInfo) (z : Value) (size bytes : Nat) (ht : P.underlying t = some (.slice e)) (hi : P.info? e = some i) (hz : i.zero = some z)
    (hsize : i.size = size) (hby : i.bytes = bytes) (hzs : z.cells.size = size) (hsz : 0 < size)
    (v : Value) (n : Nat) (xs : List Value) (hown : w.ownsRow base e size v n xs)
    (A : Option Addr) (m c : Nat) (news : List Value) (hl : news.length = m * size) (hnews : ∀ p, A = some p → ∀ j u, news[j]? = some u → w.cell? (p.add j) = some u) (hnone : A = none → m = 0) (h1 : ∀ u ∈ news, u.oneCell' = true)
    (h63 : n + m ≤ maxLen) (hbytes : (n + m) * bytes ≤ 140737488355328) (hbase : base ≤ w.heap.size) :
    ∃ v' w', (Builtin.append_ #[t, t] ty #[v, .slice A m c]).run P w = .ok v' w' ∧ w'.ownsRow base e size v' (n + m) (xs ++ news) ∧ w.grownBy w' v.ownBlock ∧ (v'.ownBlock = v.ownBlock ∨ v'.ownBlock = some w.heap.size) := by
  cases A with
  | none =>
    have h0 := hnone rfl
    subst h0
    have hn0 : news = [] := List.eq_nil_of_length_eq_zero (by simpa using hl)
    subst hn0
    refine ⟨v, w, ?_, by simpa using hown, ⟨rfl, rfl, rfl, Nat.le_refl _, fun _ _ _ => rfl⟩, .inl rfl⟩
    rcases hown.2 with ⟨rfl, rfl⟩ | ⟨g, cap, cur, rfl, _, _, hnc, _⟩
    · simp [Builtin.append_, run_underlying ht, sizeOf, typeInfo, hi, Builtin.lenOf, Builtin.firstCells]
    · simp [Builtin.append_, run_underlying ht, sizeOf, typeInfo, hi, Builtin.lenOf, Builtin.firstCells, hnc, storeCells]
  | some p =>
    obtain ⟨v', w', hr, h2, h3, _, h5⟩ := run_append_own_at (P := P) w base t ty e i z size bytes ht hi hz hsize hby hzs hsz v n xs hown p m c news hl (hnews p rfl) h1 h63 hbytes hbase
    exact ⟨v', w', hr, h2, h3, h5⟩
theorem wp_append_sl {w : World} {o : Oper} {a : Act} {K : Act → World → Prop} {Q : Exit → Act → World → Prop} (s x : Operand) (t : TypeId)
    (ho : o.op = .call { callee := .builtin .append, args := #[s, x], argTypes := #[t, t] })
    (base : Nat) (e : TypeId) (i : TypeInfo) (z : Value) (size bytes : Nat) (ht : P.underlying t = some (.slice e)) (hi : P.info? e = some i) (hz : i.zero = some z)
    (hsize : i.size = size) (hby : i.bytes = bytes) (hzs : z.cells.size = size) (hsz : 0 < size)
    (v : Value) (n : Nat) (xs : List Value) (hs : a.eval s = v) (hown : w.ownsRow base e size v n xs)
    (A : Option Addr) (m c : Nat) (news : List Value) (hx : a.eval x = .slice A m c) (hl : news.length = m * size) (hnews : ∀ p, A = some p → ∀ j u, news[j]? = some u → w.cell? (p.add j) = some u) (hnone : A = none → m = 0) (h1 : ∀ u ∈ news, u.oneCell' = true)
    (h63 : n + m ≤ maxLen) (hbytes : (n + m) * bytes ≤ 140737488355328) (hbase : base ≤ w.heap.size)
    (h : ∀ v' w', w'.ownsRow base e size v' (n + m) (xs ++ news) → Below base w w' → w.heap.size ≤ w'.heap.size → K (a.put o.dst v') w') : o.wp P a w K Q := by
  obtain ⟨v', w', hr, h2, h3, _⟩ := run_append_sl (P := P) w base t o.type e i z size bytes ht hi hz hsize hby hzs hsz v n xs hown A m c news hl hnews hnone h1 h63 hbytes hbase
  unfold Oper.wp execOp
  simp only [ho, resolve, invoke, builtin, Sem.run_bind, Sem.run_pure, Result.andThen_ok, List.map_toArray, List.map_cons, List.map_nil, hs, hx, hr]
  exact h v' w' h2 ((Below.refl base w).grown h3 hbase fun k hk => (hown.lt k hk).1) h3.size
theorem wpList_append_sl {w : World} {ops : Array Oper} {rest : List Oper} {o : Oper} {a : Act} {Q : Exit → Act → World → Prop} (hgd : o.guard = none) (s x : Operand) (t : TypeId)
    (ho : o.op = .call { callee := .builtin .append, args := #[s, x], argTypes := #[t, t] })
    (base : Nat) (e : TypeId) (i : TypeInfo) (z : Value) (size bytes : Nat) (ht : P.underlying t = some (.slice e)) (hi : P.info? e = some i) (hz : i.zero = some z)
    (hsize : i.size = size) (hby : i.bytes = bytes) (hzs : z.cells.size = size) (hsz : 0 < size)
    (v : Value) (n : Nat) (xs : List Value) (hs : a.eval s = v) (hown : w.ownsRow base e size v n xs)
    (A : Option Addr) (m c : Nat) (news : List Value) (hx : a.eval x = .slice A m c) (hl : news.length = m * size) (hnews : ∀ p, A = some p → ∀ j u, news[j]? = some u → w.cell? (p.add j) = some u) (hnone : A = none → m = 0) (h1 : ∀ u ∈ news, u.oneCell' = true)
    (h63 : n + m ≤ maxLen) (hbytes : (n + m) * bytes ≤ 140737488355328) (hbase : base ≤ w.heap.size)
    (h : ∀ v' w', w'.ownsRow base e size v' (n + m) (xs ++ news) → Below base w w' → w.heap.size ≤ w'.heap.size → wpList P ops Q rest (a.put o.dst v') w') : wpList P ops Q (o :: rest) a w :=
  wpList_plain hgd fun _ hK => wp_append_sl s x t ho base e i z size bytes ht hi hz hsize hby hzs hsz v n xs hs hown A m c news hx hl hnews hnone h1 h63 hbytes hbase fun v' w' h2 h3 h4 => hK _ _ (h v' w' h2 h3 h4)
theorem step_append_sl {w : World} {ops : Array Oper} {o : Oper} {a : Act} {K : Act → World → Prop} {Q : Exit → Act → World → Prop} {E : Prop} (hgd : o.guard = none) (s x : Operand) (t : TypeId)
    (ho : o.op = .call { callee := .builtin .append, args := #[s, x], argTypes := #[t, t] })
    (base : Nat) (e : TypeId) (i : TypeInfo) (z : Value) (size bytes : Nat) (ht : P.underlying t = some (.slice e)) (hi : P.info? e = some i) (hz : i.zero = some z)
    (hsize : i.size = size) (hby : i.bytes = bytes) (hzs : z.cells.size = size) (hsz : 0 < size)
    (v : Value) (n : Nat) (xs : List Value) (hs : a.eval s = v) (hown : w.ownsRow base e size v n xs)
    (A : Option Addr) (m c : Nat) (news : List Value) (hx : a.eval x = .slice A m c) (hl : news.length = m * size) (hnews : ∀ p, A = some p → ∀ j u, news[j]? = some u → w.cell? (p.add j) = some u) (hnone : A = none → m = 0) (h1 : ∀ u ∈ news, u.oneCell' = true)
    (h63 : n + m ≤ maxLen) (hbytes : (n + m) * bytes ≤ 140737488355328) (hbase : base ≤ w.heap.size)
    (h : ∀ v' w', w'.ownsRow base e size v' (n + m) (xs ++ news) → Below base w w' → w.heap.size ≤ w'.heap.size → K (a.put o.dst v') w') :
    if Region.wanted o (yielded ops a.tmps) = true then Oper.wp P o a w K Q else E := by
  have hw : Region.wanted o (yielded ops a.tmps) = true := by simp [Region.wanted, hgd]
  rw [if_pos hw]
  exact wp_append_sl s x t ho base e i z size bytes ht hi hz hsize hby hzs hsz v n xs hs hown A m c news hx hl hnews hnone h1 h63 hbytes hbase h

/-- 'append(s[:k], s[j:]...)' within one block that is known whole, with room: at a step of a region that draws its order. -/
theorem step_append_row {w : World} {ops : Array Oper} {o : Oper} {a : Act} {K : Act → World → Prop} {Q : Exit → Act → World → Prop} {E : Prop} (hgd : o.guard = none) (s x : Operand) (t : TypeId)
    (ho : o.op = .call { callee := .builtin .append, args := #[s, x], argTypes := #[t, t] })
    (e : TypeId) (i : TypeInfo) (size : Nat) (ht : P.underlying t = some (.slice e)) (hi : P.info? e = some i) (hsize : i.size = size)
    (g k cap : Nat) (cur : Array Value) (hg : w.heap[g]? = some (.cells cur e (0, 0))) (hs : a.eval s = .slice (some ⟨g, 0, none⟩) k cap)
    (p : Addr) (m c : Nat) (news : List Value) (hx : a.eval x = .slice (some p) m c) (hl : news.length = m * size) (hnews : ∀ j u, news[j]? = some u → w.cell? (p.add j) = some u) (h1 : ∀ u ∈ news, u.oneCell' = true)
    (hroom : k + m ≤ cap) (hfit : k * size + news.length ≤ cur.size)
    (h : K (a.put o.dst (.slice (some ⟨g, 0, none⟩) (k + m) cap)) (w.setRow g (cur.toList.take (k * size) ++ news ++ cur.toList.drop (k * size + news.length)).toArray)) :
    if Region.wanted o (yielded ops a.tmps) = true then Oper.wp P o a w K Q else E := by
  have hw : Region.wanted o (yielded ops a.tmps) = true := by simp [Region.wanted, hgd]
  rw [if_pos hw]
  subst hsize
  have hr := run_append_room (P := P) w t o.type e i ht hi g k cap cur hg p m c news hl hnews h1 hroom hfit
  unfold Oper.wp execOp
  simp only [ho, resolve, invoke, builtin, Sem.run_bind, Sem.run_pure, Result.andThen_ok, List.map_toArray, List.map_cons, List.map_nil, hs, hx, hr]
  exact h
/-- 'clear(s)' within one block that is known whole. -/
theorem run_clear_row (w : World) (t ty e : TypeId) (z : Value) (ht : P.underlying t = some (.slice e)) (hv : ∀ w, (zeroValue e).run P w = .ok z w) (hz : ∀ u ∈ (z.cells).toList, u.oneCell' = true) (hz0 : 0 < z.cells.size)
    (g o k c : Nat) (cur : Array Value) (hg : w.heap[g]? = some (.cells cur e (0, 0))) (hk : 0 < k) (hfit : o + k * z.cells.size ≤ cur.size) :
    ∃ zs : List Value, zs.length = k * z.cells.size ∧ (Builtin.clear_ #[t] ty #[.slice (some ⟨g, o, none⟩) k c]).run P w = .ok (.tuple #[]) (w.setRow g (cur.toList.take o ++ zs ++ cur.toList.drop (o + zs.length)).toArray) := by
  have hlen : (Builtin.zeroCells z.cells k).toList.length = k * z.cells.size := by simp [Builtin.zeroCells]
  refine ⟨(Builtin.zeroCells z.cells k).toList, hlen, ?_⟩
  have hst := run_storeCells_at P g o e (Builtin.zeroCells z.cells k).toList 0 cur w hg (by rw [hlen]; omega) (by
    intro u hu
    simp only [Builtin.zeroCells, Array.toList_map, List.mem_map] at hu
    obtain ⟨j, _, rfl⟩ := hu
    have hj := Nat.mod_lt j hz0
    rw [getElem!_pos z.cells _ hj]
    exact hz _ (by simp))
  simp only [Nat.add_zero] at hst
  obtain ⟨k, rfl⟩ : ∃ m, k = m + 1 := ⟨k - 1, by omega⟩
  simp [Builtin.clear_, run_underlying ht, hv, hst]
end
end Go.Proofs.YtgmcojnhpedpnaaGreat
