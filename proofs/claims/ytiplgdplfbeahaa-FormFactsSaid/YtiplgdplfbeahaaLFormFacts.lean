/- The law FormFacts returns true for every input: sheet.Facts agrees with the reference. No condition. -/
import Derived.Test.YtiplgdplfbeahaaDecs
import Derived.Test.YtiplgdplfbeahaaFacts
namespace Go.Proofs.Ytiplgdplfbeahaa
open Go.ChangeShapes Go.WideShapes Go.ChangeAt Go.RowKit

set_option maxHeartbeats 2000000 in
theorem law_FormFacts (w : World) (cs : List Value) (f : Frm) (hf : RFrm w (old w) cs f) (A1 : Option Addr) (n1 c1 : Nat) (l : List Fct) (hn1 : inB 80 n1) (hc1 : n1 ≤ c1) (h1 : Sl w (old w) 7 RFct A1 n1 l) :
    Calls Try.prog 7 #[.agg cs.toArray, .slice A1 n1 c1] w fun e w' => e = .returned (.bool true) ∧ Below w.heap.size w w' := by
  obtain ⟨A, n, c, A2, n2, c2, rfl, hn, _, _, _, hs, _⟩ := hf
  have HH := Lib.hid (And.intro hs h1)
  have hn' := hn.l (by decide)
  have hn1' := hn1.l (by decide)
  clear hs h1
  go_enter Try.func7, Try.ntmps7
  go_wp2_with fail
  refine (sheet_Facts A n c f.fields A2 n2 c2 A1 n1 c1 l _ hn' hn1' hc1 (HH.out.1.nowN keeps_Fld (by repeat (first | with_reducible exact Below.refl _ _ | with_reducible assumption | with_reducible refine below_drewN ?_ _ | with_reducible refine Below.drew ?_ | with_reducible refine below_alloc0 ?_ | with_reducible refine below_alloc ?_ (by simp; try omega) | with_reducible refine below_set ?_ (by simp; try omega) | with_reducible refine below_chain ?_ (by assumption) | (with_reducible refine below_step ?_ (by assumption) (by simp; try omega))))) (HH.out.2.now (by repeat (first | with_reducible exact Below.refl _ _ | with_reducible assumption | with_reducible refine below_drewN ?_ _ | with_reducible refine Below.drew ?_ | with_reducible refine below_alloc0 ?_ | with_reducible refine below_alloc ?_ (by simp; try omega) | with_reducible refine below_set ?_ (by simp; try omega) | with_reducible refine below_chain ?_ (by assumption) | (with_reducible refine below_step ?_ (by assumption) (by simp; try omega)))))).mono ?_; rintro e w1 ⟨rfl, hb1⟩
  obtain ⟨hc1, hf1⟩ := bcell hb1; (try simp only [World.heap_drewN, World.cell?_drewN, World.frozen?_drewN] at hc1 hf1); have hz1 := hb1.size; (try simp at hz1); (try (have hy1 := Nat.lt_of_succ_le hz1)); (try (have hx1 := Nat.lt_of_succ_lt hy1)); (try (have hl1_w_0 : w.heap.size < w1.heap.size := by omega)); (try (have hm1_w_0 : w.heap.size ≤ w1.heap.size := by omega)); (try (have hl1_w_1 : w.heap.size + 1 < w1.heap.size := by omega)); (try (have hm1_w_1 : w.heap.size + 1 ≤ w1.heap.size := by omega)); (try (have hl1_w_2 : w.heap.size + 2 < w1.heap.size := by omega)); (try (have hm1_w_2 : w.heap.size + 2 ≤ w1.heap.size := by omega)); (try (have hl1_w_3 : w.heap.size + 3 < w1.heap.size := by omega)); (try (have hm1_w_3 : w.heap.size + 3 ≤ w1.heap.size := by omega)); (try (have hl1_w_4 : w.heap.size + 4 < w1.heap.size := by omega)); (try (have hm1_w_4 : w.heap.size + 4 ≤ w1.heap.size := by omega)); (try (have hl1_w_5 : w.heap.size + 5 < w1.heap.size := by omega)); (try (have hm1_w_5 : w.heap.size + 5 ≤ w1.heap.size := by omega)); (try (have hl1_w_6 : w.heap.size + 6 < w1.heap.size := by omega)); (try (have hm1_w_6 : w.heap.size + 6 ≤ w1.heap.size := by omega))
  go_wp2_with fail
  refine (ref_FactsFault A n c f.fields A2 n2 c2 A1 n1 c1 l _ hn' hn1' (HH.out.1.nowN keeps_Fld (by repeat (first | with_reducible exact Below.refl _ _ | with_reducible assumption | with_reducible refine below_drewN ?_ _ | with_reducible refine Below.drew ?_ | with_reducible refine below_alloc0 ?_ | with_reducible refine below_alloc ?_ (by simp; try omega) | with_reducible refine below_set ?_ (by simp; try omega) | with_reducible refine below_chain ?_ (by assumption) | (with_reducible refine below_step ?_ (by assumption) (by simp; try omega))))) (HH.out.2.now (by repeat (first | with_reducible exact Below.refl _ _ | with_reducible assumption | with_reducible refine below_drewN ?_ _ | with_reducible refine Below.drew ?_ | with_reducible refine below_alloc0 ?_ | with_reducible refine below_alloc ?_ (by simp; try omega) | with_reducible refine below_set ?_ (by simp; try omega) | with_reducible refine below_chain ?_ (by assumption) | (with_reducible refine below_step ?_ (by assumption) (by simp; try omega)))))).mono ?_; rintro e w2 ⟨rfl, hb2⟩
  obtain ⟨hc2, hf2⟩ := bcell hb2; (try simp only [World.heap_drewN, World.cell?_drewN, World.frozen?_drewN] at hc2 hf2); have hz2 := hb2.size; (try simp at hz2); (try (have hy2 := Nat.lt_of_succ_le hz2)); (try (have hx2 := Nat.lt_of_succ_lt hy2)); (try (have hl2_w_0 : w.heap.size < w2.heap.size := by omega)); (try (have hm2_w_0 : w.heap.size ≤ w2.heap.size := by omega)); (try (have hl2_w_1 : w.heap.size + 1 < w2.heap.size := by omega)); (try (have hm2_w_1 : w.heap.size + 1 ≤ w2.heap.size := by omega)); (try (have hl2_w_2 : w.heap.size + 2 < w2.heap.size := by omega)); (try (have hm2_w_2 : w.heap.size + 2 ≤ w2.heap.size := by omega)); (try (have hl2_w_3 : w.heap.size + 3 < w2.heap.size := by omega)); (try (have hm2_w_3 : w.heap.size + 3 ≤ w2.heap.size := by omega)); (try (have hl2_w_4 : w.heap.size + 4 < w2.heap.size := by omega)); (try (have hm2_w_4 : w.heap.size + 4 ≤ w2.heap.size := by omega)); (try (have hl2_w_5 : w.heap.size + 5 < w2.heap.size := by omega)); (try (have hm2_w_5 : w.heap.size + 5 ≤ w2.heap.size := by omega)); (try (have hl2_w_6 : w.heap.size + 6 < w2.heap.size := by omega)); (try (have hm2_w_6 : w.heap.size + 6 ≤ w2.heap.size := by omega)); (try (have hl2_w1_0 : w1.heap.size < w2.heap.size := by omega)); (try (have hm2_w1_0 : w1.heap.size ≤ w2.heap.size := by omega)); (try (have hl2_w1_1 : w1.heap.size + 1 < w2.heap.size := by omega)); (try (have hm2_w1_1 : w1.heap.size + 1 ≤ w2.heap.size := by omega)); (try (have hl2_w1_2 : w1.heap.size + 2 < w2.heap.size := by omega)); (try (have hm2_w1_2 : w1.heap.size + 2 ≤ w2.heap.size := by omega)); (try (have hl2_w1_3 : w1.heap.size + 3 < w2.heap.size := by omega)); (try (have hm2_w1_3 : w1.heap.size + 3 ≤ w2.heap.size := by omega)); (try (have hl2_w1_4 : w1.heap.size + 4 < w2.heap.size := by omega)); (try (have hm2_w1_4 : w1.heap.size + 4 ≤ w2.heap.size := by omega)); (try (have hl2_w1_5 : w1.heap.size + 5 < w2.heap.size := by omega)); (try (have hm2_w1_5 : w1.heap.size + 5 ≤ w2.heap.size := by omega)); (try (have hl2_w1_6 : w1.heap.size + 6 < w2.heap.size := by omega)); (try (have hm2_w1_6 : w1.heap.size + 6 ≤ w2.heap.size := by omega))
  go_wp2_with fail
  go_ret
  exact ⟨rfl, (by repeat (first | with_reducible exact Below.refl _ _ | with_reducible assumption | with_reducible refine below_drewN ?_ _ | with_reducible refine Below.drew ?_ | with_reducible refine below_alloc0 ?_ | with_reducible refine below_alloc ?_ (by simp; try omega) | with_reducible refine below_set ?_ (by simp; try omega) | with_reducible refine below_chain ?_ (by assumption) | (with_reducible refine below_step ?_ (by assumption) (by simp; try omega))))⟩
set_option maxRecDepth 100000 in
theorem FormFacts_lifted (os : Os) (started : os.Started) (H : Type) (enc : TypeId × Value → H) :
    ReturnsInHanded {} Try.checked os 7 .any (Rows.formFactsSpec.pre6 enc Try.checked.prog Try.f7 Rows.formFactsRow.domain false) (Rows.formFactsSpec.post enc Try.checked.prog Try.f7 false true false false) := by
  refine law_lifted (s := Rows.formFactsSpec) started (by kernel_rfl) Try.func7 (by rw [Try.params7]; exact of_decide_eq_true (by kernel_rfl)) rfl rfl
    (fun ds hl => by rw [show Try.f7.params.size = 2 from rfl] at hl; match ds, hl with | [d0, d1], _ => rfl)
    (ChangeSpec.witness6 (enc := enc) (C := Try.checked) false ⟨#[], #[.agg #[.slice none 0 0, .slice none 0 0], .slice none 0 0], []⟩ 8 (by kernel_rfl) (by kernel_rfl) (by kernel_rfl) (by kernel_rfl)) ?_
  intro W b args ds p hA hval hsz
  rw [Try.params7] at hA hval hsz
  obtain ⟨v0, vs0, d0, ds0, p0, q0, hargs, rfl, rfl, h0, r0⟩ := trodAll_cons hA
  obtain ⟨v1, vs1, d1, ds1, p1, q1, rfl, rfl, rfl, h1, r1⟩ := trodAll_cons r0
  obtain ⟨rfl, rfl, rfl⟩ := trodAll_nil r1
  have hargs' : args = #[v0, v1] := by apply Array.toList_inj.1; simpa using hargs
  subst hargs'
  have w0 := weightsEach_at _ _ hsz 0 _ _ rfl rfl
  obtain ⟨cs0, a0, rfl, s0, m0⟩ := arg_struct dec_Frm Try.underlying30 (hval 0 30 _ rfl rfl) h0 w0
  have w1 := weightsEach_at _ _ hsz 1 _ _ rfl rfl
  obtain ⟨A1, n1, c1, l1, rfl, i1, k1, s1, m1⟩ := arg_sl dec_Fcts Try.underlying48 (hval 1 48 _ rfl rfl) h1 w1
  exact law_FormFacts W cs0 a0 s0 A1 n1 c1 l1 i1 k1 s1
theorem FormFacts_holds : Rows.FormFactsSaid :=
  OpenClaim.holds_of_wide 7 Try.f7 rfl rfl rfl rfl rfl rfl rfl ⟨rfl, rfl, rfl, rfl, rfl⟩ rfl rfl rfl rfl rfl (by kernel_rfl) Try.func7 (by kernel_rfl)
    (of_decide_eq_true (by kernel_rfl)) (by unfold Func.isWrapper; rw [if_neg (of_decide_eq_false (by kernel_rfl))]; exact ⟨rfl, rfl⟩)
    (fun os started H enc _ => FormFacts_lifted os started H enc)
end Go.Proofs.Ytiplgdplfbeahaa
