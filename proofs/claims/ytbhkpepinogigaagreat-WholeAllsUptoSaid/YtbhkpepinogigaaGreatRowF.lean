/- Rows of facts: slices.Clone, Equal. -/
import Derived.Test.YtbhkpepinogigaaGreatTypes
namespace Go.Proofs.YtbhkpepinogigaaGreat
open Go.RowKit

theorem Tryz.infoFct : (Tryz.prog.info? 109).map (fun i => (i.zero, i.size, i.bytes)) = some (some (.agg #[.string ⟨#[]⟩, .int .i64 0, .int .i64 0, .string ⟨#[]⟩, .int .i64 0, .int .i64 0, .string ⟨#[]⟩]), 7, 80) := by kernel_rfl
theorem oneFct (l : List Fct) : ∀ u ∈ l.flatMap Fct.cs, u.oneCell' = true := by
  intro u hu
  obtain ⟨x, _, hx⟩ := List.mem_flatMap.1 hu
  simp only [Fct.cs, List.mem_cons, List.not_mem_nil, or_false] at hx
  rcases hx with rfl | rfl | rfl | rfl | rfl | rfl | rfl <;> rfl
theorem lenFct (x : Fct) : x.cs.length = 7 := rfl
theorem Sl.cellsFct {w : World} {S : Nat → Prop} {A : Option Addr} {n : Nat} {l : List Fct} (h : Sl w S 7 RFct A n l) : ∀ p, A = some p → ∀ j u, (l.flatMap Fct.cs)[j]? = some u → w.cell? (p.add j) = some u :=
  Sl.cells (by decide) lenFct (fun _ _ h => h.1) h
theorem Sl.wfFct {w : World} {S : Nat → Prop} {A : Option Addr} {n : Nat} {l : List Fct} (h : Sl w S 7 RFct A n l) : ∀ x ∈ l, x.wf := Sl.all_wf h fun _ _ h => h.2
theorem ownFct {w : World} {base : Nat} {e : TypeId} {v : Value} {n : Nat} {l : List Fct} (h : w.ownsRow base e 7 v n (l.flatMap Fct.cs)) (hl : l.length = n) (hw : ∀ a ∈ l, a.wf) :
    ∃ A c, v = .slice A n c ∧ n ≤ c ∧ Sl w (old w) 7 RFct A n l := own_slw Fct.cs Fct.wf lenFct h hl hw
def fctEqR (x y : Fct) : Bool := (x.name.toList == y.name.toList && (x.key.k == y.key.k && (x.key.n == y.key.n && (x.key.s.toList == y.key.s.toList && (x.has.k == y.has.k && (x.has.n == y.has.n && (x.has.s.toList == y.has.s.toList)))))))
theorem fctEqR_iff (x y : Fct) : fctEqR x y = true ↔ x = y := by
  simp only [fctEqR, Bool.and_eq_true, beq_iff_eq]
  constructor
  · intro h
    obtain ⟨a1, ⟨a3, a4, a5⟩, ⟨a6, a7, a8⟩⟩ := x
    obtain ⟨b1, ⟨b3, b4, b5⟩, ⟨b6, b7, b8⟩⟩ := y
    simp only at h
    simp only [Fct.mk.injEq, Val.mk.injEq]
    grind [toList_inj]
  · rintro rfl
    simp
theorem run_neq_Fct (w : World) (x y : Fct) : (binOp .neq 109 (.agg #[.string x.name, .int .i64 x.key.k, .int .i64 x.key.n, .string x.key.s, .int .i64 x.has.k, .int .i64 x.has.n, .string x.has.s]) (.agg #[.string y.name, .int .i64 y.key.k, .int .i64 y.key.n, .string y.key.s, .int .i64 y.has.k, .int .i64 y.has.n, .string y.has.s])).run Tryz.prog w = .ok (.bool (!fctEqR x y)) w := by
  go_simp
  unfold fctEqR
  (repeat' split) <;> simp_all
theorem run_eql_Fct (w : World) (x y : Fct) : (binOp .eql 109 (.agg #[.string x.name, .int .i64 x.key.k, .int .i64 x.key.n, .string x.key.s, .int .i64 x.has.k, .int .i64 x.has.n, .string x.has.s]) (.agg #[.string y.name, .int .i64 y.key.k, .int .i64 y.key.n, .string y.key.s, .int .i64 y.has.k, .int .i64 y.has.n, .string y.has.s])).run Tryz.prog w = .ok (.bool (fctEqR x y)) w := by
  go_simp
  unfold fctEqR
  (repeat' split) <;> simp_all
set_option maxHeartbeats 1000000 in
set_option maxRecDepth 100000 in
theorem clone_Fct (A : Option Addr) (n c : Nat) (l : List Fct) (w : World) (hn : inB 80 n) (h : Sl w (old w) 7 RFct A n l) :
    Calls Tryz.prog 102 #[.slice A n c] w (OwnRow Fct.cs 109 7 w l) := by
  cases A with
  | none =>
    obtain ⟨rfl, rfl⟩ := h.of_none
    have hq := fun w => Lib.run_eql_slice_nil (P := Tryz.prog) w 42 _ none 0 c 0 0 Tryz.underlying42
    go_enter Tryz.func102, Tryz.ntmps102
    go_wp2_with fail
    go_ret
    exact ⟨_, rfl, World.ownsRow_nil _ _ _ _, Below.refl _ _⟩
  | some p =>
    obtain ⟨i0, hi, hz0, hz1, hz2⟩ := info_parts Tryz.infoFct
    have hq := fun w => Lib.run_eql_slice_nil (P := Tryz.prog) w 42 _ (some p) n c 0 0 Tryz.underlying42
    have hc := h.cellsFct p rfl
    have hl := h.len
    unfold inB at hn
    have HC := Lib.hid hc
    clear hc h
    go_enter Tryz.func102, Tryz.ntmps102
    go_wp2_with (at_builtin; refine wpList_append_sl rfl _ _ 42 rfl w.heap.size 109 i0 (.agg #[.string ⟨#[]⟩, .int .i64 0, .int .i64 0, .string ⟨#[]⟩, .int .i64 0, .int .i64 0, .string ⟨#[]⟩]) 7 80 Tryz.underlying42 hi hz0 hz1 hz2 rfl (by decide) _ 0 [] rfl (World.ownsRow_made w #[] 0 (Nat.le_refl _) (Nat.zero_le _) (by simp)) (some p) n c (l.flatMap Fct.cs) rfl (by rw [flat_len _ 7 lenFct, hl]) (fun p' hp j u hj => by cases hp; exact Lib.cell?_alloc_some _ (HC.out j u hj)) (by simp) (oneFct l) (by unfold maxLen; omega) (by omega) (by simp) ?_; intro v1 w1 hown1 hb1 hz1)
    go_ret
    refine ⟨v1, rfl, by rw [hl]; simpa using hown1, (Below.refl _ _).alloc (Nat.le_refl _) _ |>.trans hb1⟩
set_option maxHeartbeats 1000000 in
set_option maxRecDepth 100000 in
theorem equal_Fct (A : Option Addr) (n c : Nat) (l : List Fct) (A1 : Option Addr) (n1 c1 : Nat) (l1 : List Fct) (w : World) (hn : inL n) (hn1 : inL n1) (h : Sl w (old w) 7 RFct A n l) (h1 : Sl w (old w) 7 RFct A1 n1 l1) :
    Calls Tryz.prog 73 #[.slice A n c, .slice A1 n1 c1] w (RetB w (decide (l = l1))) := by
  unfold inL at hn hn1
  by_cases hne : n = n1
  · subst hne
    have HH := Lib.hid (And.intro h h1)
    clear h h1
    go_enter Tryz.func73, Tryz.ntmps73
    go_wp2_with fail
    go_loopw [13] (fun i wr => ∃ k : Nat, k ≤ n ∧ i = .int .i64 k ∧ l.take k = l1.take k ∧ Below w.heap.size w wr) (fun i _ => n - (intOf i).toNat)
    case atStart => exact ⟨0, by omega, rfl, by simp, Below.refl _ _⟩
    case round =>
      obtain ⟨k, hk, rfl, hv, hb⟩ := hrel
      by_cases hlt : k < n
      · obtain ⟨b, o, x, rfl, _, hl, _, h0, h1, h2, h3, h4, h5, h6⟩ := Fct_at (HH.out.1.now hb) hlt
        obtain ⟨b1, o1, y, rfl, _, hl1, _, g0, g1, g2, g3, g4, g5, g6⟩ := Fct_at (HH.out.2.now hb) hlt
        have HL := Lib.hid (And.intro hl (And.intro hl1 hv))
        clear hl hl1 hv
        have hneq := fun w => run_neq_Fct w x y
        cases he : fctEqR x y
        · have HE := Lib.hid he
          go_wp2_with fail
          go_quiet (fail)
          go_wp2_with fail
          go_ret
          refine ⟨ret_bool ?_, bel⟩
          rw [eq_comm, decide_eq_false_iff_not]
          intro e
          subst e
          rw [HL.out.1] at HL
          have := HL.out.2.1
          cases this
          rw [(fctEqR_iff x x).2 rfl] at HE
          cases HE.out
        · have HE := Lib.hid he
          go_wp2_with fail
          go_quiet (fail)
          go_wp2_with fail
          go_roundw
          case rel =>
            refine ⟨k + 1, by omega, by go_num, ?_, bel⟩
            rw [List.take_add_one, List.take_add_one, HL.out.1, HL.out.2.1, HL.out.2.2, (fctEqR_iff x y).1 HE.out]
          case measure => simp [intOf]; omega
      · have hke : k = n := by omega
        subst hke
        have e0 : l.take k = l := by rw [List.take_of_length_le (by rw [HH.out.1.len]; exact Nat.le_refl _)]
        have e1 : l1.take k = l1 := by rw [List.take_of_length_le (by rw [HH.out.2.len]; exact Nat.le_refl _)]
        rw [e0, e1] at hv
        have HV := Lib.hid hv
        clear hv e0 e1
        go_wp2_with fail
        go_ret
        exact ⟨ret_bool (by rw [eq_comm, decide_eq_true_iff]; exact HV.out), hb⟩
  · have hd : ((n : Int) != (n1 : Int)) = true := by simp; omega
    have hf : decide (l = l1) = false := by
      rw [decide_eq_false_iff_not]
      intro e
      exact hne (by rw [← h.len, ← h1.len, e])
    rw [hf]
    clear h h1
    go_enter Tryz.func73, Tryz.ntmps73
    go_wp2_with fail
    go_ret
    exact ⟨rfl, Below.refl _ _⟩
set_option maxHeartbeats 400000 in
theorem same_Facts (A : Option Addr) (n c : Nat) (l : List Fct) (A1 : Option Addr) (n1 c1 : Nat) (l1 : List Fct) (w : World) (hn : inL n) (hn1 : inL n1) (h : Sl w (old w) 7 RFct A n l) (h1 : Sl w (old w) 7 RFct A1 n1 l1) :
    Calls Tryz.prog 26 #[.slice A n c, .slice A1 n1 c1] w (RetB w (decide (l = l1))) := by
  have HH := Lib.hid (And.intro h h1)
  clear h h1
  go_enter Tryz.func26, Tryz.ntmps26
  go_wp2_with (refine (equal_Fct A n c l A1 n1 c1 l1 _ hn hn1 HH.out.1 HH.out.2).mono ?_; rintro e w1 ⟨rfl, hb1⟩)
  go_ret
  exact ⟨rfl, hb1⟩
end Go.Proofs.YtbhkpepinogigaaGreat
