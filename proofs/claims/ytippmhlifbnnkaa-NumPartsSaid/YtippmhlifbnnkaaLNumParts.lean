/- The law NumParts returns true for every input: num.Div and num.Mod agree with the reference. No condition. -/
import Derived.Test.YtippmhlifbnnkaaOpen
import Derived.Test.YtippmhlifbnnkaaNumRef
namespace Go.Proofs.Ytippmhlifbnnkaa
open Go.ChangeShapes Go.WideShapes Go.ChangeAt Go.RowKit

set_option maxHeartbeats 400000 in
theorem law_NumParts (w : World) (a : Int) (_ : inI a) (b : Int) (_ : inI b) :
    Calls Try.prog 10 #[.int .i64 a, .int .i64 b] w fun e w' => e = .returned (.bool true) ∧ Below w.heap.size w w' := by
  go_enter Try.func10, Try.ntmps10
  go_wp2_with fail
  refine (num_Div _ _ _).mono ?_; rintro e w' ⟨rfl, n1, rfl⟩
  go_wp2_with fail
  refine (num_Mod _ _ _).mono ?_; rintro e w' ⟨rfl, n2, rfl⟩
  go_wp2_with fail
  refine (ref_NumOf_div _ _ _).mono ?_; rintro e w' ⟨rfl, n3, rfl⟩
  go_wp2_with fail
  refine (ref_NumOf_mod _ _ _).mono ?_; rintro e w' ⟨rfl, n4, rfl⟩
  go_wp2_with fail
  go_ret
  exact ⟨rfl, (by repeat (first | exact Below.refl _ _ | assumption | refine below_drewN ?_ _ | refine Below.drew ?_ | refine below_alloc0 ?_ | refine below_alloc ?_ (by simp; try omega) | refine below_set ?_ (by simp; try omega) | refine below_chain ?_ (by assumption) | (refine below_step ?_ (by assumption) (by simp; try omega))))⟩

set_option maxRecDepth 100000 in
theorem NumParts_lifted (os : Os) (started : os.Started) (H : Type) (enc : TypeId × Value → H) :
    ReturnsInHanded {} Try.checked os 10 .any (Rows.numPartsSpec.pre6 enc Try.checked.prog Try.f10 Rows.numPartsRow.domain false) (Rows.numPartsSpec.post enc Try.checked.prog Try.f10 false true false false) := by
  refine law_lifted (s := Rows.numPartsSpec) started (by kernel_rfl) Try.func10 (by rw [Try.params10]; exact of_decide_eq_true (by kernel_rfl)) rfl rfl
    (fun ds hl => by rw [show Try.f10.params.size = 2 from rfl] at hl; match ds, hl with | [d0, d1], _ => rfl)
    (ChangeSpec.witness6 (enc := enc) (C := Try.checked) false ⟨#[], #[.int .i64 0, .int .i64 0], []⟩ 8 (by kernel_rfl) (by kernel_rfl) (by kernel_rfl) (by kernel_rfl)) ?_
  intro W b args ds p hA hval hsz
  rw [Try.params10] at hA hval hsz
  obtain ⟨v0, vs0, d0, ds0, p0, q0, hargs, rfl, rfl, h0, r0⟩ := trodAll_cons hA
  obtain ⟨v1, vs1, d1, ds1, p1, q1, rfl, rfl, rfl, h1, r1⟩ := trodAll_cons r0
  obtain ⟨rfl, rfl, rfl⟩ := trodAll_nil r1
  have hargs' : args = #[v0, v1] := by apply Array.toList_inj.1; simpa using hargs
  subst hargs'
  have w0 := weightsEach_at _ _ hsz 0 _ _ rfl rfl
  obtain ⟨a0, rfl, i0⟩ := arg_int Try.underlying3 (hval 0 3 _ rfl rfl) h0
  have w1 := weightsEach_at _ _ hsz 1 _ _ rfl rfl
  obtain ⟨a1, rfl, i1⟩ := arg_int Try.underlying3 (hval 1 3 _ rfl rfl) h1
  exact law_NumParts W a0 i0 a1 i1
theorem NumParts_holds : Rows.NumPartsSaid :=
  OpenClaim.holds_of_wide 10 Try.f10 rfl rfl rfl rfl rfl rfl rfl ⟨rfl, rfl, rfl, rfl, rfl⟩ rfl rfl rfl rfl rfl (by kernel_rfl) Try.func10 (by kernel_rfl)
    (of_decide_eq_true (by kernel_rfl)) (by unfold Func.isWrapper; rw [if_neg (of_decide_eq_false (by kernel_rfl))]; exact ⟨rfl, rfl⟩)
    (fun os started H enc _ => NumParts_lifted os started H enc)
end Go.Proofs.Ytippmhlifbnnkaa
