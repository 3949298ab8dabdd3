/- The law GapSums returns true for every input: gap.Whole agrees with the reference. No condition. -/
import Derived.Test.YtippmhlifbnnkaaOpen
import Derived.Test.YtippmhlifbnnkaaGap
namespace Go.Proofs.Ytippmhlifbnnkaa
open Go.ChangeShapes Go.WideShapes Go.ChangeAt Go.RowKit

set_option maxHeartbeats 400000 in
theorem law_GapSums (w : World) (p : Pol) (_ : p.wf) :
    Calls Try.prog 8 #[.agg p.cs.toArray] w fun e w' => e = .returned (.bool true) ∧ Below w.heap.size w w' := by
  obtain ⟨t, b, c⟩ := p
  go_enter Try.func8, Try.ntmps8
  go_wp2_with fail
  refine (gap_Whole _ _ _ _).mono ?_; rintro e w1 ⟨rfl, hb1⟩
  obtain ⟨hc1, hf1⟩ := bcell hb1; have hz1 := hb1.size; (try simp at hz1); (try (have hy1 := Nat.lt_of_succ_le hz1)); (try (have hx1 := Nat.lt_of_succ_lt hy1))
  go_wp2_with fail
  refine (ref_GapWhole _ _ _ _).mono ?_; rintro e w2 ⟨rfl, hb2⟩
  replace hb2 := below_step hb1 hb2 hb1.size; clear hc1 hf1; obtain ⟨hc2, hf2⟩ := bcell hb2; have hz2 := hb2.size; (try simp at hz2); (try (have hy2 := Nat.lt_of_succ_le hz2)); (try (have hx2 := Nat.lt_of_succ_lt hy2))
  go_wp2_with fail
  go_ret
  exact ⟨rfl, (by repeat (first | exact Below.refl _ _ | assumption | refine below_drewN ?_ _ | refine Below.drew ?_ | refine below_alloc0 ?_ | refine below_alloc ?_ (by simp; try omega) | refine below_set ?_ (by simp; try omega) | refine below_chain ?_ (by assumption) | (refine below_step ?_ (by assumption) (by simp; try omega))))⟩
set_option maxRecDepth 100000 in
theorem GapSums_lifted (os : Os) (started : os.Started) (H : Type) (enc : TypeId × Value → H) :
    ReturnsInHanded {} Try.checked os 8 .any (Rows.gapSumsSpec.pre6 enc Try.checked.prog Try.f8 Rows.gapSumsRow.domain false) (Rows.gapSumsSpec.post enc Try.checked.prog Try.f8 false true false false) := by
  refine law_lifted (s := Rows.gapSumsSpec) started (by kernel_rfl) Try.func8 (by rw [Try.params8]; exact of_decide_eq_true (by kernel_rfl)) rfl rfl
    (fun ds hl => by rw [show Try.f8.params.size = 1 from rfl] at hl; match ds, hl with | [d0], _ => rfl)
    (ChangeSpec.witness6 (enc := enc) (C := Try.checked) false ⟨#[], #[.agg #[.int .i64 0, .int .i64 0, .int .i64 0]], []⟩ 8 (by kernel_rfl) (by kernel_rfl) (by kernel_rfl) (by kernel_rfl)) ?_
  intro W b args ds p hA hval hsz
  rw [Try.params8] at hA hval hsz
  obtain ⟨v0, vs0, d0, ds0, p0, q0, hargs, rfl, rfl, h0, r0⟩ := trodAll_cons hA
  obtain ⟨rfl, rfl, rfl⟩ := trodAll_nil r0
  have hargs' : args = #[v0] := by apply Array.toList_inj.1; simpa using hargs
  subst hargs'
  have w0 := weightsEach_at _ _ hsz 0 _ _ rfl rfl
  obtain ⟨cs0, a0, rfl, ⟨rfl, i0⟩, m0⟩ := arg_struct dec_Pol Try.underlying26 (hval 0 26 _ rfl rfl) h0 w0
  exact law_GapSums W a0 i0
theorem GapSums_holds : Rows.GapSumsSaid :=
  OpenClaim.holds_of_wide 8 Try.f8 rfl rfl rfl rfl rfl rfl rfl ⟨rfl, rfl, rfl, rfl, rfl⟩ rfl rfl rfl rfl rfl (by kernel_rfl) Try.func8 (by kernel_rfl)
    (of_decide_eq_true (by kernel_rfl)) (by unfold Func.isWrapper; rw [if_neg (of_decide_eq_false (by kernel_rfl))]; exact ⟨rfl, rfl⟩)
    (fun os started H enc _ => GapSums_lifted os started H enc)
end Go.Proofs.Ytippmhlifbnnkaa
