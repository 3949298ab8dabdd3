/- The law ValueChecks returns true for every input: value.Check, value.Known and value.Zero agree with the reference. No condition. -/
import Derived.Test.YtippmhlifbnnkaaOpen
import Derived.Test.YtippmhlifbnnkaaVal
import Derived.Deep.RegionHeld3
namespace Go.Proofs.Ytippmhlifbnnkaa
open Go.ChangeShapes Go.WideShapes Go.ChangeAt Go.RowKit

set_option maxHeartbeats 400000 in
theorem law_ValueChecks (w : World) (v : Val) (hv : v.wf) (kind : Int) (_ : inI kind) :
    Calls Try.prog 11 #[.agg v.cs.toArray, .int .i64 kind] w fun e w' => e = .returned (.bool true) ∧ Below w.heap.size w w' := by
  obtain ⟨k, n, s⟩ := v
  have hs : s.size ≤ maxLen := inS_max hv.2.2
  have hcase : (1 ≤ kind ∧ kind ≤ 3 ∧ valZero kind = (⟨kind, 0, ⟨#[]⟩⟩, 0)) ∨ ((kind < 1 ∨ 3 < kind) ∧ valZero kind = (noVal, 2)) := by
    unfold valZero
    by_cases h : kind < 1 ∨ 3 < kind
    · exact .inr ⟨h, by rw [if_pos h]⟩
    · exact .inl ⟨by omega, by omega, by rw [if_neg h]⟩
  have main : ∀ z : Val × Int, valZero kind = z → ((1 ≤ kind ∧ kind ≤ 3 ∧ z = (⟨kind, 0, ⟨#[]⟩⟩, 0)) ∨ (kind < 1 ∧ z = (⟨0, 0, ⟨#[]⟩⟩, 2)) ∨ (3 < kind ∧ z = (⟨0, 0, ⟨#[]⟩⟩, 2))) → 
     Calls Try.prog 11 #[.agg (Val.cs ⟨k, n, s⟩).toArray, .int .i64 kind] w fun e w' => e = .returned (.bool true) ∧ Below w.heap.size w w' := by
    intro z hz hor
    have HZ := Lib.hid hz
    clear hz hcase hv
    rcases hor with ⟨h1, h2, rfl⟩ | ⟨h1, rfl⟩ | ⟨h1, rfl⟩
    all_goals
      go_enter Try.func11, Try.ntmps11
      go_wp2_with fail
      refine wp_world ?_; intro W0 hW0
      have hS0 : W0.cell? ⟨w.heap.size, 0, none⟩ = some (.int .i64 k) ∧ W0.cell? ⟨w.heap.size, 1, none⟩ = some (.int .i64 n) ∧ W0.cell? ⟨w.heap.size, 2, none⟩ = some (.string s) ∧ Below W0.heap.size W0 W0 ∧ W0.heap.size ≤ W0.heap.size := ⟨by rw [hW0]; go_simp, by rw [hW0]; go_simp, by rw [hW0]; go_simp, Below.refl _ _, Nat.le_refl _⟩
      have HW0 := Lib.hid hW0; clear hW0
      go_region_held3 (fun w' => w'.cell? ⟨w.heap.size, 0, none⟩ = some (.int .i64 k) ∧ w'.cell? ⟨w.heap.size, 1, none⟩ = some (.int .i64 n) ∧ w'.cell? ⟨w.heap.size, 2, none⟩ = some (.string s) ∧ Below W0.heap.size W0 w' ∧ W0.heap.size ≤ w'.heap.size) (first | exact held3d (by assumption) | exact held3 (by assumption) (by assumption) | assumption) (first | (go_at_call 39; refine (value_Check _ _ _ _ hs).mono ?_; rintro e w1 ⟨rfl, hb1⟩) | (go_at_call 40; refine (value_Known _ _ _ _ hs).mono ?_; rintro e w1 ⟨rfl, hb1⟩))
      obtain ⟨_, _, _, hb1, _⟩ := held3i (by assumption)
      have hW0 := HW0.out; clear hS0 HW0; subst hW0
      obtain ⟨hc1, hf1⟩ := bcell hb1; have hz1 := hb1.size; (try simp at hz1); (try (have hy1 := Nat.lt_of_succ_le hz1)); (try (have hx1 := Nat.lt_of_succ_lt hy1))
      go_wp2_with fail
      refine (value_Zero _ _).mono ?_; rintro e w3 ⟨rfl, hb3⟩
      rw [HZ.out]
      replace hb3 := below_step hb1 hb3 hb1.size; clear hc1 hf1; obtain ⟨hc3, hf3⟩ := bcell hb3; have hz3 := hb3.size; (try simp at hz3); (try (have hy3 := Nat.lt_of_succ_le hz3)); (try (have hx3 := Nat.lt_of_succ_lt hy3))
      go_wp2_with fail
      refine wp_world ?_; intro W0 hW0
      have hS0 : W0.cell? ⟨w.heap.size, 0, none⟩ = some (.int .i64 k) ∧ W0.cell? ⟨w.heap.size, 1, none⟩ = some (.int .i64 n) ∧ W0.cell? ⟨w.heap.size, 2, none⟩ = some (.string s) ∧ Below W0.heap.size W0 W0 ∧ W0.heap.size ≤ W0.heap.size := ⟨by rw [hW0]; go_simp, by rw [hW0]; go_simp, by rw [hW0]; go_simp, Below.refl _ _, Nat.le_refl _⟩
      have HW0 := Lib.hid hW0; clear hW0
      go_region_held3 (fun w' => w'.cell? ⟨w.heap.size, 0, none⟩ = some (.int .i64 k) ∧ w'.cell? ⟨w.heap.size, 1, none⟩ = some (.int .i64 n) ∧ w'.cell? ⟨w.heap.size, 2, none⟩ = some (.string s) ∧ Below W0.heap.size W0 w' ∧ W0.heap.size ≤ w'.heap.size) (first | exact held3d (by assumption) | exact held3 (by assumption) (by assumption) | assumption) (first | (go_at_call 42; refine (ref_ValueFault _ _ _ _ hs).mono ?_; rintro e w1 ⟨rfl, hb1⟩) | (go_at_call 43; refine (ref_Known _ _ _ _ hs).mono ?_; rintro e w1 ⟨rfl, hb1⟩))
      obtain ⟨_, _, _, hb4, _⟩ := held3i (by assumption)
      have hW0 := HW0.out; clear hS0 HW0; subst hW0
      obtain ⟨hc4, hf4⟩ := bcell hb4; have hz4 := hb4.size; (try simp at hz4); (try (have hy4 := Nat.lt_of_succ_le hz4)); (try (have hx4 := Nat.lt_of_succ_lt hy4))
      go_wp2_with fail
      go_ret
      exact ⟨rfl, below_step (b := w.alloc (.cells (Val.cs ⟨k, n, s⟩).toArray 32)) (by repeat (first | exact Below.refl _ _ | assumption | refine below_drewN ?_ _ | refine Below.drew ?_ | refine below_alloc0 ?_ | refine below_alloc ?_ (by simp; try omega) | refine below_set ?_ (by simp; try omega) | refine below_chain ?_ (by assumption) | (refine below_step ?_ (by assumption) (by simp; try omega)))) (below_step hb3 (below_step (Below.refl _ _ |>.alloc (Nat.le_refl _) _) hb4 (by simp)) (by simpa using hz3)) (by simp)⟩
  rcases hcase with ⟨h1, h2, h3⟩ | ⟨h1 | h1, h3⟩
  · exact main _ h3 (.inl ⟨h1, h2, rfl⟩)
  · exact main _ h3 (.inr (.inl ⟨h1, rfl⟩))
  · exact main _ h3 (.inr (.inr ⟨h1, rfl⟩))
set_option maxRecDepth 100000 in
theorem ValueChecks_lifted (os : Os) (started : os.Started) (H : Type) (enc : TypeId × Value → H) :
    ReturnsInHanded {} Try.checked os 11 .any (Rows.valueChecksSpec.pre6 enc Try.checked.prog Try.f11 Rows.valueChecksRow.domain false) (Rows.valueChecksSpec.post enc Try.checked.prog Try.f11 false true false false) := by
  refine law_lifted (s := Rows.valueChecksSpec) started (by kernel_rfl) Try.func11 (by rw [Try.params11]; exact of_decide_eq_true (by kernel_rfl)) rfl rfl
    (fun ds hl => by rw [show Try.f11.params.size = 2 from rfl] at hl; match ds, hl with | [d0, d1], _ => rfl)
    (ChangeSpec.witness6 (enc := enc) (C := Try.checked) false ⟨#[], #[.agg #[.int .i64 0, .int .i64 0, .string ByteArray.empty], .int .i64 0], []⟩ 8 (by kernel_rfl) (by kernel_rfl) (by kernel_rfl) (by kernel_rfl)) ?_
  intro W b args ds p hA hval hsz
  rw [Try.params11] at hA hval hsz
  obtain ⟨v0, vs0, d0, ds0, p0, q0, hargs, rfl, rfl, h0, r0⟩ := trodAll_cons hA
  obtain ⟨v1, vs1, d1, ds1, p1, q1, rfl, rfl, rfl, h1, r1⟩ := trodAll_cons r0
  obtain ⟨rfl, rfl, rfl⟩ := trodAll_nil r1
  have hargs' : args = #[v0, v1] := by apply Array.toList_inj.1; simpa using hargs
  subst hargs'
  have w0 := weightsEach_at _ _ hsz 0 _ _ rfl rfl
  obtain ⟨cs0, a0, rfl, ⟨rfl, i0⟩, m0⟩ := arg_struct dec_Val Try.underlying32 (hval 0 32 _ rfl rfl) h0 w0
  have w1 := weightsEach_at _ _ hsz 1 _ _ rfl rfl
  obtain ⟨a1, rfl, i1⟩ := arg_int Try.underlying3 (hval 1 3 _ rfl rfl) h1
  exact law_ValueChecks W a0 i0 a1 i1
theorem ValueChecks_holds : Rows.ValueChecksSaid :=
  OpenClaim.holds_of_wide 11 Try.f11 rfl rfl rfl rfl rfl rfl rfl ⟨rfl, rfl, rfl, rfl, rfl⟩ rfl rfl rfl rfl rfl (by kernel_rfl) Try.func11 (by kernel_rfl)
    (of_decide_eq_true (by kernel_rfl)) (by unfold Func.isWrapper; rw [if_neg (of_decide_eq_false (by kernel_rfl))]; exact ⟨rfl, rfl⟩)
    (fun os started H enc _ => ValueChecks_lifted os started H enc)
end Go.Proofs.Ytippmhlifbnnkaa
