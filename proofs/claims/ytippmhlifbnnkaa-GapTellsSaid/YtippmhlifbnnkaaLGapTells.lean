/- The law GapTells returns true for every input: gap.Check and gap.Of agree with the reference. No condition. -/
import Derived.Test.YtippmhlifbnnkaaOpen
import Derived.Test.YtippmhlifbnnkaaGap
namespace Go.Proofs.Ytippmhlifbnnkaa
open Go.ChangeShapes Go.WideShapes Go.ChangeAt Go.RowKit

set_option maxHeartbeats 400000 in
theorem law_GapTells (w : World) (p : Pol) (_ : p.wf) (y : Int) (_ : inI y) :
    Calls Try.prog 4 #[.agg p.cs.toArray, .int .i64 y] w fun e w' => e = .returned (.bool true) ∧ Below w.heap.size w w' := by
  obtain ⟨t, b, c⟩ := p
  go_enter Try.func4, Try.ntmps4
  go_wp2_with fail
  refine (gap_Check _ _ _ _).mono ?_; rintro e w1 ⟨rfl, hb1⟩
  obtain ⟨hc1, hf1⟩ := bcell hb1; have hz1 := hb1.size; (try simp at hz1); (try (have hy1 := Nat.lt_of_succ_le hz1)); (try (have hx1 := Nat.lt_of_succ_lt hy1))
  go_wp2_with fail
  refine (gap_Of _ _ _ _ _).mono ?_; rintro e w2 ⟨rfl, hb2⟩
  replace hb2 := below_step hb1 hb2 hb1.size; clear hc1 hf1; obtain ⟨hc2, hf2⟩ := bcell hb2; have hz2 := hb2.size; (try simp at hz2); (try (have hy2 := Nat.lt_of_succ_le hz2)); (try (have hx2 := Nat.lt_of_succ_lt hy2))
  go_wp2_with fail
  refine (ref_PolicyFault _ _ _ _).mono ?_; rintro e w3 ⟨rfl, hb3⟩
  replace hb3 := below_step hb2 hb3 hb2.size; clear hc2 hf2; obtain ⟨hc3, hf3⟩ := bcell hb3; have hz3 := hb3.size; (try simp at hz3); (try (have hy3 := Nat.lt_of_succ_le hz3)); (try (have hx3 := Nat.lt_of_succ_lt hy3))
  go_wp2_with fail
  refine (ref_GapOf _ _ _ _ _).mono ?_; rintro e w4 ⟨rfl, hb4⟩
  replace hb4 := below_step hb3 hb4 hb3.size; clear hc3 hf3; obtain ⟨hc4, hf4⟩ := bcell hb4; have hz4 := hb4.size; (try simp at hz4); (try (have hy4 := Nat.lt_of_succ_le hz4)); (try (have hx4 := Nat.lt_of_succ_lt hy4))
  go_wp2_with fail
  go_ret
  exact ⟨rfl, (by repeat (first | exact Below.refl _ _ | assumption | refine below_drewN ?_ _ | refine Below.drew ?_ | refine below_alloc0 ?_ | refine below_alloc ?_ (by simp; try omega) | refine below_set ?_ (by simp; try omega) | refine below_chain ?_ (by assumption) | (refine below_step ?_ (by assumption) (by simp; try omega))))⟩
set_option maxRecDepth 100000 in
theorem GapTells_lifted (os : Os) (started : os.Started) (H : Type) (enc : TypeId × Value → H) :
    ReturnsInHanded {} Try.checked os 4 .any (Rows.gapTellsSpec.pre6 enc Try.checked.prog Try.f4 Rows.gapTellsRow.domain false) (Rows.gapTellsSpec.post enc Try.checked.prog Try.f4 false true false false) := by
  refine law_lifted (s := Rows.gapTellsSpec) started (by kernel_rfl) Try.func4 (by rw [Try.params4]; exact of_decide_eq_true (by kernel_rfl)) rfl rfl
    (fun ds hl => by rw [show Try.f4.params.size = 2 from rfl] at hl; match ds, hl with | [d0, d1], _ => rfl)
    (ChangeSpec.witness6 (enc := enc) (C := Try.checked) false ⟨#[], #[.agg #[.int .i64 0, .int .i64 0, .int .i64 0], .int .i64 0], []⟩ 8 (by kernel_rfl) (by kernel_rfl) (by kernel_rfl) (by kernel_rfl)) ?_
  intro W b args ds p hA hval hsz
  rw [Try.params4] at hA hval hsz
  obtain ⟨v0, vs0, d0, ds0, p0, q0, hargs, rfl, rfl, h0, r0⟩ := trodAll_cons hA
  obtain ⟨v1, vs1, d1, ds1, p1, q1, rfl, rfl, rfl, h1, r1⟩ := trodAll_cons r0
  obtain ⟨rfl, rfl, rfl⟩ := trodAll_nil r1
  have hargs' : args = #[v0, v1] := by apply Array.toList_inj.1; simpa using hargs
  subst hargs'
  have w0 := weightsEach_at _ _ hsz 0 _ _ rfl rfl
  obtain ⟨cs0, a0, rfl, ⟨rfl, i0⟩, m0⟩ := arg_struct dec_Pol Try.underlying26 (hval 0 26 _ rfl rfl) h0 w0
  have w1 := weightsEach_at _ _ hsz 1 _ _ rfl rfl
  obtain ⟨a1, rfl, i1⟩ := arg_int Try.underlying3 (hval 1 3 _ rfl rfl) h1
  exact law_GapTells W a0 i0 a1 i1
theorem GapTells_holds : Rows.GapTellsSaid :=
  OpenClaim.holds_of_wide 4 Try.f4 rfl rfl rfl rfl rfl rfl rfl ⟨rfl, rfl, rfl, rfl, rfl⟩ rfl rfl rfl rfl rfl (by kernel_rfl) Try.func4 (by kernel_rfl)
    (of_decide_eq_true (by kernel_rfl)) (by unfold Func.isWrapper; rw [if_neg (of_decide_eq_false (by kernel_rfl))]; exact ⟨rfl, rfl⟩)
    (fun os started H enc _ => GapTells_lifted os started H enc)
end Go.Proofs.Ytippmhlifbnnkaa
