/- The reference swapped: a formula in the place of a name. -/
import Derived.Test.YtekeacihdmbbjaaCopo
import Derived.Test.YtekeacihdmbbjaaPut
import Derived.Test.YtekeacihdmbbjaaSam
import Derived.Laws.IdiomCopy
namespace Go.Proofs.Ytekeacihdmbbjaa
open Go.RowKit

/-- The blocks of the call's own, but for g. -/
def apart (base g : Nat) (w : World) : Nat → Prop := fun b => base ≤ b ∧ b < w.heap.size ∧ b ≠ g
/-- A row of formulas in block g; what they hold lies in other blocks of the call's own. -/
def ZRow (w : World) (base : Nat) (A : Option Addr) (n : Nat) (l : List Exp) : Prop :=
  l.length = n ∧ (0 < n → ∃ g, A = some ⟨g, 0, none⟩ ∧ base ≤ g ∧ g < w.heap.size ∧ (∀ q, w.frozen? ⟨g, q, none⟩ = false) ∧
    ∀ i a, l[i]? = some a → ∃ X C, XRep w (apart base g w) (a.cells X C) a ∧ ∀ j, j < 6 → w.cell? ⟨g, 0 + i * 6 + j, none⟩ = (a.cells X C)[j]?)
theorem ZRow.of_own {w : World} {base : Nat} {A : Option Addr} {n c : Nat} {l : List Exp} (h : Own w base 38 6 XRep (.slice A n c) l) (hl : l.length = n) : ZRow w base A n l := by
  refine ⟨hl, fun hn => ?_⟩
  obtain ⟨C, h1, h2, h3, h4⟩ := h
  obtain ⟨A', c', e, _, hs⟩ := own_rows (S := fun b => some b = (Value.slice A n c).ownBlock) h1 h3 h2 rfl (fun g hg => hg.symm) h4
  cases e
  obtain ⟨h5, h6⟩ := h1
  rcases h6 with ⟨e, _⟩ | ⟨g, cap, cur, e, hg, hh, _⟩
  · injection e with _ e2 _; omega
  · cases e
    refine ⟨g, rfl, hg, (Array.getElem?_eq_some_iff.1 hh).1, fun q => frozen_of_row _ _ _ _ _ hh, fun i a hi => ?_⟩
    have hin : i < l.length := (List.getElem?_eq_some_iff.1 hi).1
    obtain ⟨b, o, v, cs, e1, _, e2, e3, e4, e5⟩ := hs.at_ hin
    cases e1
    rw [hi] at e2
    cases e2
    obtain ⟨X, C', rfl, _⟩ := e3.open_
    refine ⟨X, C', e3.keep fun b hb => ⟨⟨hb.1, hb.2.1, fun e => hb.2.2 (by rw [e]; rfl)⟩, rfl⟩, fun j hj => ?_⟩
    rw [← e5 j hj]
    congr 2
    omega
theorem ZRow.keep {w w' : World} {base : Nat} {A : Option Addr} {n : Nat} {l : List Exp} (h : ZRow w base A n l) (hb : Below w.heap.size w w') : ZRow w' base A n l := by
  refine ⟨h.1, fun hn => ?_⟩
  obtain ⟨g, e, h1, h2, h3, h4⟩ := h.2 hn
  refine ⟨g, e, h1, Nat.lt_of_lt_of_le h2 hb.size, fun q => (hb.frozen (p := ⟨g, q, none⟩) h2).trans (h3 q), fun i a hi => ?_⟩
  obtain ⟨X, C, h5, h6⟩ := h4 i a hi
  exact ⟨X, C, h5.keep fun b hb' => ⟨⟨hb'.1, Nat.lt_of_lt_of_le hb'.2.1 hb.size, hb'.2.2⟩, hb.block b hb'.2.1⟩, fun j hj => (hb.cell (p := ⟨g, _, none⟩) h2).trans (h6 j hj)⟩
theorem zip_set {l m : List Exp} {k n : Nat} {a : Exp} (h : l[k]? = some a) (hl : l.length = n) (hk : k < m.length) : (l.take k ++ m.drop k).set k a = l.take (k + 1) ++ m.drop (k + 1) := by
  have hkl : k < l.length := (List.getElem?_eq_some_iff.1 h).1
  rw [List.set_append_right _ _ (by simp; omega), List.length_take, Nat.min_eq_left (by omega), Nat.sub_self, List.take_add_one, h, List.drop_eq_getElem_cons hk, List.set_cons_zero, List.append_assoc]
  rfl
theorem rows6c' {w w1 : World} {b o : Nat} {v0 v1 v2 v3 v4 v5 : Value} (h : w.cell? ⟨b, o, none⟩ = some v0 ∧ w.cell? ⟨b, o + 1, none⟩ = some v1 ∧ w.cell? ⟨b, o + 2, none⟩ = some v2 ∧ w.cell? ⟨b, o + 3, none⟩ = some v3 ∧ w.cell? ⟨b, o + 4, none⟩ = some v4 ∧ w.cell? ⟨b, o + 5, none⟩ = some v5) (hb : Below w.heap.size w w1) :
    w1.cell? ⟨b, o, none⟩ = some v0 ∧ w1.cell? ⟨b, o + 1, none⟩ = some v1 ∧ w1.cell? ⟨b, o + 2, none⟩ = some v2 ∧ w1.cell? ⟨b, o + 3, none⟩ = some v3 ∧ w1.cell? ⟨b, o + 4, none⟩ = some v4 ∧ w1.cell? ⟨b, o + 5, none⟩ = some v5 :=
  ⟨cell_keep h.1 hb, cell_keep h.2.1 hb, cell_keep h.2.2.1 hb, cell_keep h.2.2.2.1 hb, cell_keep h.2.2.2.2.1 hb, cell_keep h.2.2.2.2.2 hb⟩
theorem heap_setCells_not (w : World) (g : Nat) (b : Nat) (h : b ≠ g) : ∀ (vs : List Value) (o : Nat) , (w.setCells g o vs).heap[b]? = w.heap[b]?  := by
  intro vs
  induction vs generalizing w with
  | nil => intro o; rfl
  | cons v r ih => intro o; rw [World.setCells, ih, heap_setCell_other _ _ _ _ h]
theorem size_setCells (g : Nat) : ∀ (vs : List Value) (w : World) (o : Nat), (w.setCells g o vs).heap.size = w.heap.size
  | [], _, _ => rfl
  | v :: r, w, o => by rw [World.setCells, size_setCells g r]; simp
/-- One formula of the row is replaced. -/
theorem ZRow.put {w : World} {base : Nat} {g n : Nat} {l : List Exp} (h : ZRow w base (some ⟨g, 0, none⟩) n l) {k : Nat} (hk : k < n) {a : Exp} {X : Option Addr} {C : Nat} (ha : XRep w (apart base g w) (a.cells X C) a) :
    ZRow (w.setCells g (0 + k * 6) (a.cells X C)) base (some ⟨g, 0, none⟩) n (l.set k a) := by
  refine ⟨by rw [List.length_set]; exact h.1, fun hn => ?_⟩
  obtain ⟨g', e, h1, h2, h3, h4⟩ := h.2 hn
  cases e
  have hkeep : ∀ b, apart base g w b → apart base g (w.setCells g (0 + k * 6) (a.cells X C)) b ∧ (w.setCells g (0 + k * 6) (a.cells X C)).heap[b]? = w.heap[b]? :=
    fun b hb => ⟨⟨hb.1, by rw [size_setCells]; exact hb.2.1, hb.2.2⟩, heap_setCells_not _ _ _ hb.2.2 _ _⟩
  refine ⟨g, rfl, h1, by rw [size_setCells]; exact h2, fun q => by rw [World.frozen?_setCells]; exact h3 q, fun i b hi => ?_⟩
  by_cases hik : i = k
  · subst hik
    rw [List.getElem?_set_self (by rw [h.1]; exact hk)] at hi
    cases hi
    refine ⟨X, C, ha.keep hkeep, fun j hj => ?_⟩
    have hlk : l[i]? = some (l[i]'(by rw [h.1]; exact hk)) := List.getElem?_eq_getElem _
    obtain ⟨X0, C0, _, h6⟩ := h4 i _ hlk
    rw [World.cell?_setCells_in g _ _ _ (fun j' hj' => ?_) j (by simpa using hj)]
    · exact (List.getElem?_eq_getElem (l := a.cells X C) (by simpa using hj)).symm
    · rw [h6 j' (by simpa using hj'), List.getElem?_eq_getElem (by simpa using hj')]; rfl
  · rw [List.getElem?_set_ne (fun e => hik e.symm)] at hi
    obtain ⟨X0, C0, h5, h6⟩ := h4 i b hi
    refine ⟨X0, C0, h5.keep hkeep, fun j hj => ?_⟩
    rw [← h6 j hj]
    refine World.cell?_setCells_out g _ _ _ _ (fun _ _ => ?_)
    simp only [List.length_cons, List.length_nil]
    omega
theorem ZRow.sl {w : World} {base : Nat} {A : Option Addr} {n : Nat} {l : List Exp} (h : ZRow w base A n l) : Sl w (since base w) 6 (XRep w (since base w)) A n l := by
  refine ⟨h.1, fun hn => ?_⟩
  obtain ⟨g, e, h1, h2, h3, h4⟩ := h.2 hn
  refine ⟨g, 0, e, ⟨h1, h2⟩, fun i a hi => ?_⟩
  obtain ⟨X, C, h5, h6⟩ := h4 i a hi
  refine ⟨a.cells X C, h5.keep fun b hb => ⟨⟨hb.1, hb.2.1⟩, rfl⟩, rfl, fun j hj => ?_⟩
  rw [← h6 j hj]
  congr 2
  omega

set_option maxRecDepth 100000 in
set_option maxHeartbeats 1000000 in
theorem ref_swapped_hit (name : ByteArray) (x y : Exp) (A Y : Option Addr) (c D : Nat) (w : World) (z1 : (x.op == 2) = true) (z2 : (x.name.toList == name.toList) = true)
    (hy : XRep w (old w) [.int .i64 y.op, .int .i64 y.v.k, .int .i64 y.v.n, .string y.v.s, .string y.name, .slice Y y.args.length D] y) :
    Calls Try.prog 79 #[.agg #[.int .i64 x.op, .int .i64 x.v.k, .int .i64 x.v.n, .string x.v.s, .string x.name, .slice A x.args.length c], .string name, .agg #[.int .i64 y.op, .int .i64 y.v.k, .int .i64 y.v.n, .string y.v.s, .string y.name, .slice Y y.args.length D]] w (RetExp w y) := by
  have HY := Lib.hid hy
  clear hy
  go_enter Try.func79, Try.ntmps79
  go_wp2_with fail
  refine (ref_ExprCopy _ y Y D _ (Nat.le_refl _) (HY.out.keep (old_keep (by repeat (first | with_reducible exact Below.refl _ _ | with_reducible assumption | with_reducible refine below_drewN ?_ _ | with_reducible refine Below.drew ?_ | with_reducible refine below_alloc0 ?_ | with_reducible refine below_alloc ?_ (by simp; try omega) | with_reducible refine below_set ?_ (by simp; try omega) | with_reducible refine below_chain ?_ (by assumption) | (with_reducible refine below_step ?_ (by assumption) (by simp; try omega))))))).mono ?_; rintro e w3 ⟨A3, c3, rfl, hxx, hb3⟩; obtain ⟨hc3, hf3⟩ := bcell hb3; (try simp only [World.heap_drewN, World.cell?_drewN, World.frozen?_drewN] at hc3 hf3); have hz3 := hb3.size; (try simp at hz3); (try (have hy3 := Nat.lt_of_succ_le hz3)); (try (have hx3 := Nat.lt_of_succ_lt hy3))
  have HX := Lib.hid hxx
  clear hxx
  go_wp2_with fail
  refine bodyPost_ret (v := .agg #[.int .i64 y.op, .int .i64 y.v.k, .int .i64 y.v.n, .string y.v.s, .string y.name, .slice A3 y.args.length c3]) (by first | (simp [results, Try.results79, go_sem]; done) | (simp [results, Try.results79, go_sem, *]; done)) rfl ?_
  refine ⟨A3, c3, rfl, HX.out.keep (fun b hb => ?_), (by repeat (first | with_reducible exact Below.refl _ _ | with_reducible assumption | with_reducible refine below_drewN ?_ _ | with_reducible refine Below.drew ?_ | with_reducible refine below_alloc0 ?_ | with_reducible refine below_alloc ?_ (by simp; try omega) | with_reducible refine below_set ?_ (by simp; try omega) | with_reducible refine below_chain ?_ (by assumption) | (with_reducible refine below_step ?_ (by assumption) (by simp; try omega))))⟩
  have h1 := hb.1
  simp at h1
  refine ⟨⟨by omega, by simpa using hb.2⟩, ?_⟩
  iterate 6 rw [heap_setCell_other _ _ _ _ (by simp; omega)]

set_option maxRecDepth 100000 in
set_option maxHeartbeats 2000000 in
theorem ref_swapped (name : ByteArray) (y : Exp) (Y : Option Addr) (D : Nat) (N : Nat) : ∀ (x : Exp) (A : Option Addr) (c : Nat) (w : World), x.nodes ≤ N →
    XRep w (old w) [.int .i64 x.op, .int .i64 x.v.k, .int .i64 x.v.n, .string x.v.s, .string x.name, .slice A x.args.length c] x → XRep w (old w) [.int .i64 y.op, .int .i64 y.v.k, .int .i64 y.v.n, .string y.v.s, .string y.name, .slice Y y.args.length D] y →
    Calls Try.prog 79 #[.agg #[.int .i64 x.op, .int .i64 x.v.k, .int .i64 x.v.n, .string x.v.s, .string x.name, .slice A x.args.length c], .string name, .agg #[.int .i64 y.op, .int .i64 y.v.k, .int .i64 y.v.n, .string y.v.s, .string y.name, .slice Y y.args.length D]] w (RetExp w (putX name y x)) := by
  induction N with
  | zero =>
    intro x A c w hN
    obtain ⟨op, v, nm, args⟩ := x
    simp [Exp.nodes] at hN
  | succ N ih =>
    intro x A c w hN hx hy
    rcases hitRef_cases name x.op x.name with ⟨z1, z2, z3⟩ | hmiss
    · rw [putX_hit z3]
      exact ref_swapped_hit name x y A Y c D w z1 z2 hy
    have HI := Lib.hid ih
    have HY := Lib.hid hy
    have HX := Lib.hid hx
    clear ih hy
    obtain ⟨A0, c0, e0, i1, i2, i3, i4, i5, hsl⟩ := hx.open_
    simp only [List.cons.injEq, Value.slice.injEq, and_true, true_and] at e0
    obtain ⟨rfl, rfl⟩ := e0
    have hch : ∀ (i : Nat) (a : Exp), x.args[i]? = some a → a.nodes ≤ N := by
      obtain ⟨op, v, nm, args⟩ := x
      intro i a h
      have := nodes_at args i a h
      simp only [Exp.nodes] at hN
      omega
    have z3 : hitRef name x.op x.name = false := by rcases hmiss with h | h; exact h.2; exact h.2.2
    rw [putX_miss z3]
    obtain ⟨l, hl0⟩ : ∃ l, x.args.map (putX name y) = l := ⟨_, rfl⟩
    have hll : l.length = x.args.length := by rw [← hl0]; simp
    have hlg : ∀ i a, x.args[i]? = some a → l[i]? = some (putX name y a) := fun i a h => by rw [← hl0, List.getElem?_map, h]; rfl
    rw [hl0]
    have HH := Lib.hid (And.intro hsl (And.intro hch (And.intro i1 (And.intro i2 (And.intro i3 (And.intro i4 (And.intro hll hlg)))))))
    have hlen : x.args.length ≤ 1759218604416 := by unfold inB at i4; omega
    clear hsl hch hx hN i1 i2 i3 i4 i5 hll hlg hl0 z3
    obtain ⟨x', hx'⟩ : ∃ x' : Exp, Exp.mk x.op x.v x.name l = x' := ⟨_, rfl⟩
    have e0 : x'.op = x.op := by rw [← hx']; rfl
    have e1 : x'.v = x.v := by rw [← hx']; rfl
    have e2 : x'.name = x.name := by rw [← hx']; rfl
    have e3 : x'.args = l := by rw [← hx']; rfl
    have HE := Lib.hid (And.intro e0 (And.intro e1 (And.intro e2 (And.intro e3 hx'))))
    rw [hx']
    clear e0 e1 e2 e3 hx'
    rcases hmiss with ⟨z1, z3⟩ | ⟨z1, z2, z3⟩
    all_goals
    clear z3
    go_enter Try.func79, Try.ntmps79
    go_wp2_with fail
    refine (ref_ExprCopyO x A c _ (HX.out.keep (old_keep (by repeat (first | with_reducible exact Below.refl _ _ | with_reducible assumption | with_reducible refine below_drewN ?_ _ | with_reducible refine Below.drew ?_ | with_reducible refine below_alloc0 ?_ | with_reducible refine below_alloc ?_ (by simp; try omega) | with_reducible refine below_set ?_ (by simp; try omega) | with_reducible refine below_chain ?_ (by assumption) | (with_reducible refine below_step ?_ (by assumption) (by simp; try omega))))))).mono ?_; rintro e w1 ⟨A1, c1, rfl, hcc, hown, hb1⟩; obtain ⟨hc1, hf1⟩ := bcell hb1; (try simp only [World.heap_drewN, World.cell?_drewN, World.frozen?_drewN] at hc1 hf1); have hz1 := hb1.size; (try simp at hz1); (try (have hy1 := Nat.lt_of_succ_le hz1)); (try (have hx1 := Nat.lt_of_succ_lt hy1))
    have HO1 := Lib.hid (And.intro hcc hown)
    clear hcc hown
    have m0 : w1.cell? ⟨w.heap.size + 1, 0, none⟩ = some (.int .i64 y.op) := by rw [hc1 _ _ (by simp)]; go_simp
    have m1 : w1.cell? ⟨w.heap.size + 1, 1, none⟩ = some (.int .i64 y.v.k) := by rw [hc1 _ _ (by simp)]; go_simp
    have m2 : w1.cell? ⟨w.heap.size + 1, 2, none⟩ = some (.int .i64 y.v.n) := by rw [hc1 _ _ (by simp)]; go_simp
    have m3 : w1.cell? ⟨w.heap.size + 1, 3, none⟩ = some (.string y.v.s) := by rw [hc1 _ _ (by simp)]; go_simp
    have m4 : w1.cell? ⟨w.heap.size + 1, 4, none⟩ = some (.string y.name) := by rw [hc1 _ _ (by simp)]; go_simp
    have m5 : w1.cell? ⟨w.heap.size + 1, 5, none⟩ = some (.slice Y y.args.length D) := by rw [hc1 _ _ (by simp)]; go_simp
    have m6 : w1.cell? ⟨w.heap.size, 5, none⟩ = some (.slice A x.args.length c) := by rw [hc1 _ _ (by simp <;> omega)]; go_simp
    have m7 : ∀ j, j < 6 → ∃ u, w1.cell? ⟨w.heap.size + 1 + 1, j, none⟩ = some u := fun j hj => by rw [hc1 _ _ (by simp)]; go_simp
    have m8 : ∀ j, w1.frozen? ⟨w.heap.size + 1 + 1, j, none⟩ = false := fun j => by rw [hf1 _ _ (by simp)]; go_simp
    have hzw : w.heap.size + 3 ≤ w1.heap.size := by (try simp at hz1); omega
    have hBW1 : Below w.heap.size w w1 := (by repeat (first | with_reducible exact Below.refl _ _ | with_reducible assumption | with_reducible refine below_drewN ?_ _ | with_reducible refine Below.drew ?_ | with_reducible refine below_alloc0 ?_ | with_reducible refine below_alloc ?_ (by simp; try omega) | with_reducible refine below_set ?_ (by simp; try omega) | with_reducible refine below_chain ?_ (by assumption) | (with_reducible refine below_step ?_ (by assumption) (by simp; try omega))))
    have HM := Lib.hid (And.intro m7 m8)
    clear m7 m8
    have hl0 : w.heap.size < w1.heap.size := by omega
    have hl1 : w.heap.size + 1 < w1.heap.size := by omega
    have hl2 : w.heap.size + 1 + 1 < w1.heap.size := by omega
    go_wp2_with fail
    go_loopw [25] (fun i wr => ∃ k : Nat, k ≤ x.args.length ∧ i = .int .i64 k ∧ ZRow wr (w.heap.size + 3) A1 x.args.length (l.take k ++ x.args.drop k) ∧ (wr.cell? ⟨w1.heap.size, 0, none⟩ = some (.int .i64 x.op) ∧ wr.cell? ⟨w1.heap.size, 1, none⟩ = some (.int .i64 x.v.k) ∧ wr.cell? ⟨w1.heap.size, 2, none⟩ = some (.int .i64 x.v.n) ∧ wr.cell? ⟨w1.heap.size, 3, none⟩ = some (.string x.v.s) ∧ wr.cell? ⟨w1.heap.size, 4, none⟩ = some (.string x.name) ∧ wr.cell? ⟨w1.heap.size, 5, none⟩ = some (.slice A1 x.args.length c1)) ∧ (wr.cell? ⟨w.heap.size + 1, 0, none⟩ = some (.int .i64 y.op) ∧ wr.cell? ⟨w.heap.size + 1, 1, none⟩ = some (.int .i64 y.v.k) ∧ wr.cell? ⟨w.heap.size + 1, 2, none⟩ = some (.int .i64 y.v.n) ∧ wr.cell? ⟨w.heap.size + 1, 3, none⟩ = some (.string y.v.s) ∧ wr.cell? ⟨w.heap.size + 1, 4, none⟩ = some (.string y.name) ∧ wr.cell? ⟨w.heap.size + 1, 5, none⟩ = some (.slice Y y.args.length D)) ∧ wr.cell? ⟨w.heap.size, 5, none⟩ = some (.slice A x.args.length c) ∧ Below w.heap.size w wr ∧ w1.heap.size + 1 ≤ wr.heap.size ∧ (∀ j, wr.frozen? ⟨w.heap.size + 1 + 1, j, none⟩ = false) ∧ (∀ j, j < 6 → ∃ u, wr.cell? ⟨w.heap.size + 1 + 1, j, none⟩ = some u)) (fun i _ => x.args.length - (intOf i).toNat)
    case atStart =>
      refine ⟨0, by omega, rfl, ?_, ⟨by go_simp, by go_simp, by go_simp, by go_simp, by go_simp, by go_simp⟩, ⟨by go_simp, by go_simp, by go_simp, by go_simp, by go_simp, by go_simp⟩, by go_simp, (by repeat (first | with_reducible exact Below.refl _ _ | with_reducible assumption | with_reducible refine below_drewN ?_ _ | with_reducible refine Below.drew ?_ | with_reducible refine below_alloc0 ?_ | with_reducible refine below_alloc ?_ (by simp; try omega) | with_reducible refine below_set ?_ (by simp; try omega) | with_reducible refine below_chain ?_ (by assumption) | (with_reducible refine below_step ?_ (by assumption) (by simp; try omega)))), by simp, fun j => ?_, fun j hj => ?_⟩
      · rw [List.take_zero, List.drop_zero, List.nil_append]
        refine (ZRow.of_own (HO1.out.2.low keeps_Exp (base' := w.heap.size + 3) ?_) rfl).keep ?_
        · simp
        · exact (Below.refl _ _).alloc (Nat.le_refl _) _
      · rw [frozen?_alloc_cells]; exact HM.out.2 j
      · rw [World.cell?_alloc_past _ _ _ (by omega)]; exact HM.out.1 j hj
    case round =>
      obtain ⟨k, hk, rfl, hrow, ⟨q0, q1, q2, q3, q4, q5⟩, ⟨ry0, ry1, ry2, ry3, ry4, ry5⟩, rx5, hbr, hbase, rf, rc⟩ := hrel
      by_cases hlt : k < x.args.length
      · obtain ⟨b, o, a, X, C, hAe, hbl, hl, hxa, x0, x1, x2, x3, x4, x5⟩ := Exp_at (HH.out.1.nowN keeps_Exp hbr) hlt
        subst hAe
        have hbl' : b < wr.heap.size := hbl
        obtain ⟨a', ha'⟩ : ∃ a', putX name y a = a' := ⟨_, rfl⟩
        have hla : l[k]? = some a' := by rw [← ha']; exact HH.out.2.2.2.2.2.2.2 k a hl
        have hia := fun w h h' => HI.out a X C w (HH.out.2.1 k a hl) h h'
        rw [ha'] at hia
        have HO := Lib.hid (And.intro hrow (And.intro hxa (And.intro hla (And.intro rf rc))))
        clear hrow hxa hbl hl rf rc ha' hla
        go_wp2_with fail
        obtain ⟨g, rfl, hg1, hg2, hfz, hcz⟩ := HO.out.1.2 (by omega)
        have hZL := HO.out.1.1
        obtain ⟨a0, ha0⟩ : ∃ a0, (l.take k ++ x.args.drop k)[k]? = some a0 := ⟨_, List.getElem?_eq_getElem (by rw [hZL]; exact hlt)⟩
        obtain ⟨X0, C0, _, hz6⟩ := hcz k a0 ha0
        have HZ := Lib.hid (And.intro hz6 hfz)
        have hgN : g < w1.heap.size := (HO1.out.2.lt g rfl).2
        have hgN' : w1.heap.size ≠ g := by omega
        clear hfz hcz ha0 hz6 hZL
        refine wp_world ?_; intro W0 hW0
        have hS0 : ((W0.drew.cell? ⟨w.heap.size + 1, 0, none⟩ = some (.int .i64 y.op) ∧ W0.drew.cell? ⟨w.heap.size + 1, 1, none⟩ = some (.int .i64 y.v.k) ∧ W0.drew.cell? ⟨w.heap.size + 1, 2, none⟩ = some (.int .i64 y.v.n) ∧ W0.drew.cell? ⟨w.heap.size + 1, 3, none⟩ = some (.string y.v.s) ∧ W0.drew.cell? ⟨w.heap.size + 1, 4, none⟩ = some (.string y.name) ∧ W0.drew.cell? ⟨w.heap.size + 1, 5, none⟩ = some (.slice Y y.args.length D)) ∧ (W0.drew.cell? ⟨b, o + k * 6, none⟩ = some (.int .i64 a.op) ∧ W0.drew.cell? ⟨b, o + k * 6 + 1, none⟩ = some (.int .i64 a.v.k) ∧ W0.drew.cell? ⟨b, o + k * 6 + 2, none⟩ = some (.int .i64 a.v.n) ∧ W0.drew.cell? ⟨b, o + k * 6 + 3, none⟩ = some (.string a.v.s) ∧ W0.drew.cell? ⟨b, o + k * 6 + 4, none⟩ = some (.string a.name) ∧ W0.drew.cell? ⟨b, o + k * 6 + 5, none⟩ = some (.slice X a.args.length C))) ∧ (W0.drew.cell? ⟨w1.heap.size, 5, none⟩ = some (.slice (some ⟨g, 0, none⟩) x.args.length c1) ∧ W0.drew.cell? ⟨w.heap.size, 5, none⟩ = some (.slice (some ⟨b, o, none⟩) x.args.length c)) := by rw [hW0]; exact ⟨⟨⟨by go_simp, by go_simp, by go_simp, by go_simp, by go_simp, by go_simp⟩, ⟨by go_simp, by go_simp, by go_simp, by go_simp, by go_simp, by go_simp⟩⟩, ⟨by go_simp, by go_simp⟩⟩
        have hB0 : Below wr.heap.size wr W0.drew := by rw [hW0]; exact (by repeat (first | with_reducible exact Below.refl _ _ | with_reducible assumption | with_reducible refine below_drewN ?_ _ | with_reducible refine Below.drew ?_ | with_reducible refine below_alloc0 ?_ | with_reducible refine below_alloc ?_ (by simp; try omega) | with_reducible refine below_set ?_ (by simp; try omega) | with_reducible refine below_chain ?_ (by assumption) | (with_reducible refine below_step ?_ (by assumption) (by simp; try omega))))
        have hZ0 : W0.heap.size = wr.heap.size := by rw [hW0]
        have hBw : Below w.heap.size w W0.drew := below_step hbr hB0 (by omega)
        clear hW0
        refine wp_region_T (fun w' => ((w'.cell? ⟨w.heap.size + 1, 0, none⟩ = some (.int .i64 y.op) ∧ w'.cell? ⟨w.heap.size + 1, 1, none⟩ = some (.int .i64 y.v.k) ∧ w'.cell? ⟨w.heap.size + 1, 2, none⟩ = some (.int .i64 y.v.n) ∧ w'.cell? ⟨w.heap.size + 1, 3, none⟩ = some (.string y.v.s) ∧ w'.cell? ⟨w.heap.size + 1, 4, none⟩ = some (.string y.name) ∧ w'.cell? ⟨w.heap.size + 1, 5, none⟩ = some (.slice Y y.args.length D)) ∧ (w'.cell? ⟨b, o + k * 6, none⟩ = some (.int .i64 a.op) ∧ w'.cell? ⟨b, o + k * 6 + 1, none⟩ = some (.int .i64 a.v.k) ∧ w'.cell? ⟨b, o + k * 6 + 2, none⟩ = some (.int .i64 a.v.n) ∧ w'.cell? ⟨b, o + k * 6 + 3, none⟩ = some (.string a.v.s) ∧ w'.cell? ⟨b, o + k * 6 + 4, none⟩ = some (.string a.name) ∧ w'.cell? ⟨b, o + k * 6 + 5, none⟩ = some (.slice X a.args.length C))) ∧ (w'.cell? ⟨w1.heap.size, 5, none⟩ = some (.slice (some ⟨g, 0, none⟩) x.args.length c1) ∧ w'.cell? ⟨w.heap.size, 5, none⟩ = some (.slice (some ⟨b, o, none⟩) x.args.length c))) 12 (by kernel_rfl) ?_
        refine wpAnyT_take (i := 0) (oi := _) (v := ?_) rfl (by kernel_rfl) (fun _ _ _ h => h) hS0 (by rfl) ?_ ?_
        rotate_left
        · intro w' hS'; (try dsimp only at hS'); (try go_split_ands); go_simp; try with_reducible rfl
        simp only [Act.put, List.setIfInBounds_toArray, List.set_cons_zero, List.set_cons_succ]
        refine wpAnyT_take (i := 1) (oi := _) (v := ?_) rfl (by kernel_rfl) (fun _ _ _ h => h) hS0 (by rfl) ?_ ?_
        rotate_left
        · intro w' hS'; (try dsimp only at hS'); (try go_split_ands); go_simp; try with_reducible rfl
        simp only [Act.put, List.setIfInBounds_toArray, List.set_cons_zero, List.set_cons_succ]
        refine wpAnyT_take (i := 2) (oi := _) (v := ?_) rfl (by kernel_rfl) (fun _ _ _ h => h) hS0 (by rfl) ?_ ?_
        rotate_left
        · intro w' hS'; (try dsimp only at hS'); (try go_split_ands); go_simp; try with_reducible rfl
        simp only [Act.put, List.setIfInBounds_toArray, List.set_cons_zero, List.set_cons_succ]
        refine wpAnyT_take (i := 3) (oi := _) (v := ?_) rfl (by kernel_rfl) (fun _ _ _ h => h) hS0 (by rfl) ?_ ?_
        rotate_left
        · intro w' hS'; (try dsimp only at hS'); (try go_split_ands); go_simp; try with_reducible rfl
        simp only [Act.put, List.setIfInBounds_toArray, List.set_cons_zero, List.set_cons_succ]
        refine wpAnyT_take (i := 4) (oi := _) (v := ?_) rfl (by kernel_rfl) (fun _ _ _ h => h) hS0 (by rfl) ?_ ?_
        rotate_left
        · intro w' hS'; (try dsimp only at hS'); (try go_split_ands); go_simp; try with_reducible rfl
        simp only [Act.put, List.setIfInBounds_toArray, List.set_cons_zero, List.set_cons_succ]
        refine wpAnyT_take (i := 5) (oi := _) (v := ?_) rfl (by kernel_rfl) (fun _ _ _ h => h) hS0 (by rfl) ?_ ?_
        rotate_left
        · intro w' hS'; (try dsimp only at hS'); (try go_split_ands); go_simp; try with_reducible rfl
        simp only [Act.put, List.setIfInBounds_toArray, List.set_cons_zero, List.set_cons_succ]
        refine wpAnyT_take (i := 6) (oi := _) (v := ?_) rfl (by kernel_rfl) (fun _ _ _ h => h) hS0 (by rfl) ?_ ?_
        rotate_left
        · intro w' hS'; (try dsimp only at hS'); (try go_split_ands); go_simp; try with_reducible rfl
        simp only [Act.put, List.setIfInBounds_toArray, List.set_cons_zero, List.set_cons_succ]
        refine wpAnyT_take (i := 7) (oi := _) (v := ?_) rfl (by kernel_rfl) (fun _ _ _ h => h) hS0 (by rfl) ?_ ?_
        rotate_left
        · intro w' hS'; (try dsimp only at hS'); (try go_split_ands); go_simp; try with_reducible rfl
        simp only [Act.put, List.setIfInBounds_toArray, List.set_cons_zero, List.set_cons_succ]
        refine wpAnyT_take (i := 8) (oi := _) (v := ?_) rfl (by kernel_rfl) (fun _ _ _ h => h) hS0 (by rfl) ?_ ?_
        rotate_left
        · intro w' hS'; (try dsimp only at hS'); (try go_split_ands); go_simp; try with_reducible rfl
        simp only [Act.put, List.setIfInBounds_toArray, List.set_cons_zero, List.set_cons_succ]
        refine wpAnyT_take (i := 9) (oi := _) (v := ?_) rfl (by kernel_rfl) (fun _ _ _ h => h) hS0 (by rfl) ?_ ?_
        rotate_left
        · intro w' hS'; (try dsimp only at hS'); (try go_split_ands); go_simp; try with_reducible rfl
        simp only [Act.put, List.setIfInBounds_toArray, List.set_cons_zero, List.set_cons_succ]
        refine wpAnyT_one (i := 10) (o := _) rfl (by kernel_rfl) (fun K hK => ?_)
        go_simp
        go_at_call 79; refine (hia _ (HO.out.2.1.keep (old_keep hB0)) (HY.out.keep (old_keep hBw))).mono ?_; rintro e w3 ⟨A2, c2, rfl, hx3', hb3⟩
        have hz3 := hb3.size
        have hS3 := And.intro (And.intro (rows6c hS0.1.1 hb3) (rows6c' hS0.1.2 hb3)) (And.intro (cell_keep hS0.2.1 hb3) (cell_keep hS0.2.2 hb3))
        have hw3 : Below wr.heap.size wr w3 := below_step hB0 hb3 (by simp [heap_drew]; omega)
        have hzz3 : wr.heap.size ≤ w3.heap.size := hw3.size
        refine hK.out _ _ (fun _ => hS3) ?_
        clear hK K
        try simp only [Act.put, List.setIfInBounds_toArray, List.set_cons_zero, List.set_cons_succ]
        refine wpAnyT_take (i := 11) (oi := _) (v := ?_) rfl (by kernel_rfl) (fun _ _ _ h => h) hS3 (by rfl) ?_ ?_
        rotate_left
        · intro w' hS'; (try dsimp only at hS'); (try go_split_ands); go_simp; try with_reducible rfl
        simp only [Act.put, List.setIfInBounds_toArray, List.set_cons_zero, List.set_cons_succ]
        refine wpAnyT_one (i := 12) (o := _) rfl (by kernel_rfl) (fun K hK => ?_)
        have g0 := (hw3.cell (p := ⟨g, 0 + k * 6 + 0, none⟩) hg2).trans (HZ.out.1 0 (by decide))
        have g1 := (hw3.cell (p := ⟨g, 0 + k * 6 + 1, none⟩) hg2).trans (HZ.out.1 1 (by decide))
        have g2 := (hw3.cell (p := ⟨g, 0 + k * 6 + 2, none⟩) hg2).trans (HZ.out.1 2 (by decide))
        have g3 := (hw3.cell (p := ⟨g, 0 + k * 6 + 3, none⟩) hg2).trans (HZ.out.1 3 (by decide))
        have g4 := (hw3.cell (p := ⟨g, 0 + k * 6 + 4, none⟩) hg2).trans (HZ.out.1 4 (by decide))
        have g5 := (hw3.cell (p := ⟨g, 0 + k * 6 + 5, none⟩) hg2).trans (HZ.out.1 5 (by decide))
        have gz : ∀ q, w3.frozen? ⟨g, q, none⟩ = false := fun q => (hw3.frozen (p := ⟨g, q, none⟩) hg2).trans (HZ.out.2 q)
        have gz0 := gz (0 + k * 6 + 0)
        have gz1 := gz (0 + k * 6 + 1)
        have gz2 := gz (0 + k * 6 + 2)
        have gz3 := gz (0 + k * 6 + 3)
        have gz4 := gz (0 + k * 6 + 4)
        have gz5 := gz (0 + k * 6 + 5)
        simp only [Nat.zero_add, Nat.add_zero, List.getElem?_cons_zero, List.getElem?_cons_succ] at g0 g1 g2 g3 g4 g5 gz0 gz1 gz2 gz3 gz4 gz5
        clear hS0 gz
        clear hS3
        go_simp
        refine hK.out _ _ (fun h => absurd h (by decide)) ?_
        clear hK K
        refine wpAnyT_done (by kernel_rfl) ?_ _
        try simp only [Act.put, List.setIfInBounds_toArray, List.set_cons_zero, List.set_cons_succ]
        have hZ3 := (HO.out.1.keep hw3).put hlt (a := a') (X := A2) (C := c2) (hx3'.keep (S' := apart (w.heap.size + 3) g w3) (fun b hb => ⟨⟨by have h1 := hb.1; simp [heap_drew] at h1; omega, hb.2, by have h1 := hb.1; simp [heap_drew] at h1; omega⟩, rfl⟩))
        rw [zip_set HO.out.2.2.1 (by rw [HH.out.2.2.2.2.2.2.1]) hlt] at hZ3
        have HZ3 := Lib.hid hZ3
        clear hZ3 hx3' HZ g0 g1 g2 g3 g4 g5 gz0 gz1 gz2 gz3 gz4 gz5
        have hk1 : ∀ j, w3.cell? ⟨w1.heap.size, j, none⟩ = wr.cell? ⟨w1.heap.size, j, none⟩ := fun j => hw3.cell (p := ⟨w1.heap.size, j, none⟩) (by show w1.heap.size < wr.heap.size; omega)
        have hk2 : ∀ j, w3.cell? ⟨w.heap.size + 1, j, none⟩ = wr.cell? ⟨w.heap.size + 1, j, none⟩ := fun j => hw3.cell (p := ⟨w.heap.size + 1, j, none⟩) (by show w.heap.size + 1 < wr.heap.size; omega)
        have hk3 : ∀ j, w3.cell? ⟨w.heap.size, j, none⟩ = wr.cell? ⟨w.heap.size, j, none⟩ := fun j => hw3.cell (p := ⟨w.heap.size, j, none⟩) (by show w.heap.size < wr.heap.size; omega)
        have hk4 : ∀ j, w3.cell? ⟨w.heap.size + 1 + 1, j, none⟩ = wr.cell? ⟨w.heap.size + 1 + 1, j, none⟩ := fun j => hw3.cell (p := ⟨w.heap.size + 1 + 1, j, none⟩) (by show w.heap.size + 1 + 1 < wr.heap.size; omega)
        have hk5 : ∀ j, w3.frozen? ⟨w.heap.size + 1 + 1, j, none⟩ = wr.frozen? ⟨w.heap.size + 1 + 1, j, none⟩ := fun j => hw3.frozen (p := ⟨w.heap.size + 1 + 1, j, none⟩) (by show w.heap.size + 1 + 1 < wr.heap.size; omega)
        have ng1 : g ≠ w.heap.size := by omega
        have ng2 : g ≠ w.heap.size + 1 := by omega
        have ng3 : g ≠ w.heap.size + 1 + 1 := by omega
        have ng4 : g ≠ w1.heap.size := by omega
        go_wp2_with fail
        go_roundw
        case rel =>
          refine ⟨k + 1, by omega, by go_num, by have := HZ3.out; rw [Nat.zero_add] at this; exact this, ?_, ?_, ?_, ?_, by simp; omega, fun j => ?_, fun j hj => ?_⟩
          · refine ⟨?_, ?_, ?_, ?_, ?_, ?_⟩
            all_goals
              iterate 6 rw [World.cell?_setCell_other _ _ _ _ (by simp [ng4])]
              rw [hk1]
              assumption
          · refine ⟨?_, ?_, ?_, ?_, ?_, ?_⟩
            all_goals
              iterate 6 rw [World.cell?_setCell_other _ _ _ _ (by simp [ng2])]
              rw [hk2]
              assumption
          · iterate 6 rw [World.cell?_setCell_other _ _ _ _ (by simp [ng1])]
            rw [hk3]
            assumption
          · iterate 6 refine below_set ?_ (by simp; omega)
            exact below_step hbr hw3 (by omega)
          · simp only [World.frozen?_setCell]
            rw [hk5]
            exact HO.out.2.2.2.1 j
          · iterate 6 rw [World.cell?_setCell_other _ _ _ _ (by simp [ng3])]
            rw [hk4]
            exact HO.out.2.2.2.2 j hj
        case measure => simp [intOf]; omega
      · have hke : k = x.args.length := by omega
        subst hke
        have etk : l.take x.args.length ++ x.args.drop x.args.length = l := by rw [List.drop_length, List.append_nil]; exact List.take_of_length_le (by rw [HH.out.2.2.2.2.2.2.1]; exact Nat.le_refl _)
        rw [etk] at hrow
        have HS := Lib.hid (And.intro hrow.sl (And.intro rf (And.intro rc HO1.out.1)))
        obtain ⟨u0, y0⟩ := rc 0 (by decide)
        obtain ⟨u1, y1⟩ := rc 1 (by decide)
        obtain ⟨u2, y2⟩ := rc 2 (by decide)
        obtain ⟨u3, y3⟩ := rc 3 (by decide)
        obtain ⟨u4, y4⟩ := rc 4 (by decide)
        obtain ⟨u5, y5⟩ := rc 5 (by decide)
        have f0 := rf 0
        have f1 := rf 1
        have f2 := rf 2
        have f3 := rf 3
        have f4 := rf 4
        have f5 := rf 5
        clear rf rc hrow etk
        go_wp2_with fail
        refine bodyPost_ret (v := .agg #[.int .i64 x.op, .int .i64 x.v.k, .int .i64 x.v.n, .string x.v.s, .string x.name, .slice A1 x.args.length c1]) (by first | (simp [results, Try.results79, go_sem, y0, y1, y2, y3, y4, y5]; done) | (simp [results, Try.results79, go_sem, *]; done)) rfl ?_
        have hR : ∀ W9 : World, (∀ b, since (w.heap.size + 3) wr b → fresh w W9 b ∧ W9.heap[b]? = wr.heap[b]?) → Below w.heap.size w W9 → RetExp w x' (.returned (.agg #[.int .i64 x.op, .int .i64 x.v.k, .int .i64 x.v.n, .string x.v.s, .string x.name, .slice A1 x.args.length c1])) W9 := by
          intro W9 hW hB9
          have hrep := XRep.shut HH.out.2.2.1 HH.out.2.2.2.1 HH.out.2.2.2.2.1 HH.out.2.2.2.2.2.1 HS.out.2.2.2 (HS.out.1.keepN keeps_Exp hW)
          rw [HE.out.2.2.2.2] at hrep
          refine ⟨A1, c1, ?_, ?_, hB9⟩
          · rw [HE.out.1, HE.out.2.1, HE.out.2.2.1, HE.out.2.2.2.1, HH.out.2.2.2.2.2.2.1]
          · rw [HE.out.1, HE.out.2.1, HE.out.2.2.1, HE.out.2.2.2.1, HH.out.2.2.2.2.2.2.1]; exact hrep
        refine hR _ (fun b hb => ⟨⟨by have := hb.1; omega, by simpa using hb.2⟩, ?_⟩) (by repeat (first | with_reducible exact Below.refl _ _ | with_reducible assumption | with_reducible refine below_drewN ?_ _ | with_reducible refine Below.drew ?_ | with_reducible refine below_alloc0 ?_ | with_reducible refine below_alloc ?_ (by simp; try omega) | with_reducible refine below_set ?_ (by simp; try omega) | with_reducible refine below_chain ?_ (by assumption) | (with_reducible refine below_step ?_ (by assumption) (by simp; try omega))))
        have hb1 := hb.1
        iterate 6 rw [heap_setCell_other _ _ _ _ (by simp; omega)]
end Go.Proofs.Ytekeacihdmbbjaa
