/- The law LexNames returns true for every input: lex.Name and lex.Key agree with the reference. No condition. -/
import Derived.Test.YtippmhlifbnnkaaOpen
import Derived.Test.YtippmhlifbnnkaaLexName
namespace Go.Proofs.Ytippmhlifbnnkaa
open Go.ChangeShapes Go.WideShapes Go.ChangeAt Go.RowKit

set_option maxHeartbeats 400000 in
theorem law_LexNames (w : World) (s : ByteArray) (hi : inS s) :
    Calls Try.prog 7 #[.string s] w fun e w' => e = .returned (.bool true) ∧ Below w.heap.size w w' := by
  have hs := inS_max hi
  go_enter Try.func7, Try.ntmps7
  go_wp2_with (first | (go_at_call 25; refine (lex_Name _ _ hs).mono ?_; rintro e w1 ⟨rfl, rfl⟩) | (go_at_call 26; refine (lex_Key _ _).mono ?_; rintro e w1 ⟨rfl, rfl⟩) | (go_at_call 27; refine (ref_LexName _ _ hs).mono ?_; rintro e w2 ⟨rfl, hb2⟩) | (go_at_call 28; refine (ref_LexKey _ _).mono ?_; rintro e w3 ⟨rfl, hb3⟩))
  go_ret
  exact ⟨rfl, (by repeat (first | exact Below.refl _ _ | assumption | refine below_drewN ?_ _ | refine Below.drew ?_ | refine below_alloc0 ?_ | refine below_alloc ?_ (by simp; try omega) | refine below_set ?_ (by simp; try omega) | refine below_chain ?_ (by assumption) | (refine below_step ?_ (by assumption) (by simp; try omega))))⟩
set_option maxRecDepth 100000 in
theorem LexNames_lifted (os : Os) (started : os.Started) (H : Type) (enc : TypeId × Value → H) :
    ReturnsInHanded {} Try.checked os 7 .any (Rows.lexNamesSpec.pre6 enc Try.checked.prog Try.f7 Rows.lexNamesRow.domain false) (Rows.lexNamesSpec.post enc Try.checked.prog Try.f7 false true false false) := by
  refine law_lifted (s := Rows.lexNamesSpec) started (by kernel_rfl) Try.func7 (by rw [Try.params7]; exact of_decide_eq_true (by kernel_rfl)) rfl rfl
    (fun ds hl => by rw [show Try.f7.params.size = 1 from rfl] at hl; match ds, hl with | [d0], _ => rfl)
    (ChangeSpec.witness6 (enc := enc) (C := Try.checked) false ⟨#[], #[.string ByteArray.empty], []⟩ 8 (by kernel_rfl) (by kernel_rfl) (by kernel_rfl) (by kernel_rfl)) ?_
  intro W b args ds p hA hval hsz
  rw [Try.params7] at hA hval hsz
  obtain ⟨v0, vs0, d0, ds0, p0, q0, hargs, rfl, rfl, h0, r0⟩ := trodAll_cons hA
  obtain ⟨rfl, rfl, rfl⟩ := trodAll_nil r0
  have hargs' : args = #[v0] := by apply Array.toList_inj.1; simpa using hargs
  subst hargs'
  have w0 := weightsEach_at _ _ hsz 0 _ _ rfl rfl
  obtain ⟨a0, rfl, i0, m0⟩ := arg_str Try.underlying9 (hval 0 9 _ rfl rfl) h0 w0
  exact law_LexNames W a0 i0
theorem LexNames_holds : Rows.LexNamesSaid :=
  OpenClaim.holds_of_wide 7 Try.f7 rfl rfl rfl rfl rfl rfl rfl ⟨rfl, rfl, rfl, rfl, rfl⟩ rfl rfl rfl rfl rfl (by kernel_rfl) Try.func7 (by kernel_rfl)
    (of_decide_eq_true (by kernel_rfl)) (by unfold Func.isWrapper; rw [if_neg (of_decide_eq_false (by kernel_rfl))]; exact ⟨rfl, rfl⟩)
    (fun os started H enc _ => LexNames_lifted os started H enc)
end Go.Proofs.Ytippmhlifbnnkaa
