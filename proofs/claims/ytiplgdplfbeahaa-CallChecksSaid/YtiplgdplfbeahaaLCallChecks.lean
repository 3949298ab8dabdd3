/- The law CallChecks returns true for every input: call.Check and call.Value agree with the reference. No condition. -/
import Derived.Test.YtiplgdplfbeahaaOpen
import Derived.Deep.DeepCutAuto
import Derived.Test.YtiplgdplfbeahaaCall2r
import Derived.Test.YtiplgdplfbeahaaHeld
import Derived.Test.YtiplgdplfbeahaaCall3
namespace Go.Proofs.Ytiplgdplfbeahaa
open Go.ChangeShapes Go.WideShapes Go.ChangeAt Go.RowKit

set_option maxHeartbeats 4000000 in
theorem law_CallChecks (w : World) (c : Cll) (hc : c.wf) (p : Pol) (_ : p.wf) :
    Calls Try.prog 4 #[.agg c.cs.toArray, .agg p.cs.toArray] w fun e w' => e = .returned (.bool true) ∧ Below w.heap.size w w' := by
  obtain ⟨st, id, tr, ⟨kk, kn, ks⟩, ⟨hk, hn, hs⟩, nx⟩ := c
  obtain ⟨t, b, c⟩ := p
  have s1 : ks.size ≤ maxLen := inS_max hc.2.2.2.1.2.2
  have s2 : hs.size ≤ maxLen := inS_max hc.2.2.2.2.1.2.2
  have heq := fun w k n s => run_eql_Val w k n k n s s
  have hv : ∀ k n s, valEq ⟨k, n, s⟩ ⟨k, n, s⟩ = true := fun k n s => (valEq_iff _ _).2 rfl
  clear hc
  go_enter Try.func4, Try.ntmps4
  go_wp2_with fail
  go_upto_region 1 with fail
  go_cut [5, 6] (fun s5 s6 wx => s5 = .int .i64 (callCheck ⟨st, id, tr, ⟨kk, kn, ks⟩, ⟨hk, hn, hs⟩, nx⟩ ⟨t, b, c⟩) ∧ ∃ g : Nat, s6 = .pointer (some ⟨g, 0, none⟩) ∧ wx.cell? ⟨g, 0, none⟩ = some (.int .i64 (callValue ⟨st, id, tr, ⟨kk, kn, ks⟩, ⟨hk, hn, hs⟩, nx⟩).k) ∧ wx.cell? ⟨g, 1, none⟩ = some (.int .i64 (callValue ⟨st, id, tr, ⟨kk, kn, ks⟩, ⟨hk, hn, hs⟩, nx⟩).n) ∧ wx.cell? ⟨g, 2, none⟩ = some (.string (callValue ⟨st, id, tr, ⟨kk, kn, ks⟩, ⟨hk, hn, hs⟩, nx⟩).s) ∧ Below ((w.alloc (.cells #[.int .i64 st, .int .i64 id, .int .i64 tr, .int .i64 kk, .int .i64 kn, .string ks, .int .i64 hk, .int .i64 hn, .string hs, .int .i64 nx] 37)).alloc (.cells #[.int .i64 t, .int .i64 b, .int .i64 c] 39)).heap.size ((w.alloc (.cells #[.int .i64 st, .int .i64 id, .int .i64 tr, .int .i64 kk, .int .i64 kn, .string ks, .int .i64 hk, .int .i64 hn, .string hs, .int .i64 nx] 37)).alloc (.cells #[.int .i64 t, .int .i64 b, .int .i64 c] 39)) wx)
  case first =>
    refine wp_world ?_; intro W0 hW0
    have hS0 : W0.cell? ⟨w.heap.size, 0, none⟩ = some (.int .i64 st) ∧ W0.cell? ⟨w.heap.size, 1, none⟩ = some (.int .i64 id) ∧ W0.cell? ⟨w.heap.size, 2, none⟩ = some (.int .i64 tr) ∧ W0.cell? ⟨w.heap.size, 3, none⟩ = some (.int .i64 kk) ∧ W0.cell? ⟨w.heap.size, 4, none⟩ = some (.int .i64 kn) ∧ W0.cell? ⟨w.heap.size, 5, none⟩ = some (.string ks) ∧ W0.cell? ⟨w.heap.size, 6, none⟩ = some (.int .i64 hk) ∧ W0.cell? ⟨w.heap.size, 7, none⟩ = some (.int .i64 hn) ∧ W0.cell? ⟨w.heap.size, 8, none⟩ = some (.string hs) ∧ W0.cell? ⟨w.heap.size, 9, none⟩ = some (.int .i64 nx) ∧ W0.cell? ⟨w.heap.size + 1, 0, none⟩ = some (.int .i64 t) ∧ W0.cell? ⟨w.heap.size + 1, 1, none⟩ = some (.int .i64 b) ∧ W0.cell? ⟨w.heap.size + 1, 2, none⟩ = some (.int .i64 c) ∧ Below W0.heap.size W0 W0 ∧ W0.heap.size ≤ W0.heap.size := ⟨by rw [hW0]; go_simp, by rw [hW0]; go_simp, by rw [hW0]; go_simp, by rw [hW0]; go_simp, by rw [hW0]; go_simp, by rw [hW0]; go_simp, by rw [hW0]; go_simp, by rw [hW0]; go_simp, by rw [hW0]; go_simp, by rw [hW0]; go_simp, by rw [hW0]; go_simp, by rw [hW0]; go_simp, by rw [hW0]; go_simp, Below.refl _ _, Nat.le_refl _⟩
    have HW0 := Lib.hid hW0; clear hW0
    go_region_held3 (fun w' => w'.cell? ⟨w.heap.size, 0, none⟩ = some (.int .i64 st) ∧ w'.cell? ⟨w.heap.size, 1, none⟩ = some (.int .i64 id) ∧ w'.cell? ⟨w.heap.size, 2, none⟩ = some (.int .i64 tr) ∧ w'.cell? ⟨w.heap.size, 3, none⟩ = some (.int .i64 kk) ∧ w'.cell? ⟨w.heap.size, 4, none⟩ = some (.int .i64 kn) ∧ w'.cell? ⟨w.heap.size, 5, none⟩ = some (.string ks) ∧ w'.cell? ⟨w.heap.size, 6, none⟩ = some (.int .i64 hk) ∧ w'.cell? ⟨w.heap.size, 7, none⟩ = some (.int .i64 hn) ∧ w'.cell? ⟨w.heap.size, 8, none⟩ = some (.string hs) ∧ w'.cell? ⟨w.heap.size, 9, none⟩ = some (.int .i64 nx) ∧ w'.cell? ⟨w.heap.size + 1, 0, none⟩ = some (.int .i64 t) ∧ w'.cell? ⟨w.heap.size + 1, 1, none⟩ = some (.int .i64 b) ∧ w'.cell? ⟨w.heap.size + 1, 2, none⟩ = some (.int .i64 c) ∧ Below W0.heap.size W0 w' ∧ W0.heap.size ≤ w'.heap.size) (first | exact held13d (by assumption) | exact held13 (by assumption) (by assumption) | assumption | exact held13o hS0 (by repeat (first | with_reducible exact Below.refl _ _ | with_reducible assumption | with_reducible refine below_drewN ?_ _ | with_reducible refine Below.drew ?_ | with_reducible refine below_alloc0 ?_ | with_reducible refine below_alloc ?_ (by simp; try omega) | with_reducible refine below_set ?_ (by simp; try omega) | with_reducible refine below_chain ?_ (by assumption) | (with_reducible refine below_step ?_ (by assumption) (by simp; try omega))))) (first | (go_at_call 20; refine (call_Check _ _ _ _ _ _ _ _ _ _ _ _ _ _ s1 s2).mono ?_; rintro e w1 ⟨rfl, hb1⟩; obtain ⟨hc1, hf1⟩ := bcell hb1; (try simp only [World.heap_drewN, World.cell?_drewN, World.frozen?_drewN] at hc1 hf1); have hz1 := hb1.size; (try simp at hz1); (try (have hy1 := Nat.lt_of_succ_le hz1)); (try (have hx1 := Nat.lt_of_succ_lt hy1))) | (go_at_call 21; refine (call_Value _ _ _ _ _ _ _ _ _ _ _).mono ?_; rintro e w2 ⟨rfl, hb2⟩; obtain ⟨hc2, hf2⟩ := bcell hb2; (try simp only [World.heap_drewN, World.cell?_drewN, World.frozen?_drewN] at hc2 hf2); have hz2 := hb2.size; (try simp at hz2); (try (have hy2 := Nat.lt_of_succ_le hz2)); (try (have hx2 := Nat.lt_of_succ_lt hy2))))
    all_goals
      obtain ⟨_, _, _, _, _, _, _, _, _, _, _, _, _, hb9, _⟩ := held13i (by assumption)
      clear hS0
    all_goals
      go_wp2_with fail
      go_meet

      refine ⟨rfl, _, rfl, by go_simp, by go_simp, by go_simp, ?_⟩
      have hW0 := HW0.out
      subst hW0
      exact hb9
  case rest =>
    obtain ⟨rfl, g, rfl, x0, x1, x2, hb1⟩ := hcut
    obtain ⟨hc1, hf1⟩ := bcell hb1; (try simp only [World.heap_drewN, World.cell?_drewN, World.frozen?_drewN] at hc1 hf1); have hz1 := hb1.size; (try simp at hz1); (try (have hy1 := Nat.lt_of_succ_le hz1)); (try (have hx1 := Nat.lt_of_succ_lt hy1)); (try (have hl1_w_0 : w.heap.size < w1.heap.size := by omega)); (try (have hm1_w_0 : w.heap.size ≤ w1.heap.size := by omega)); (try (have hl1_w_1 : w.heap.size + 1 < w1.heap.size := by omega)); (try (have hm1_w_1 : w.heap.size + 1 ≤ w1.heap.size := by omega)); (try (have hl1_w_2 : w.heap.size + 2 < w1.heap.size := by omega)); (try (have hm1_w_2 : w.heap.size + 2 ≤ w1.heap.size := by omega)); (try (have hl1_w_3 : w.heap.size + 3 < w1.heap.size := by omega)); (try (have hm1_w_3 : w.heap.size + 3 ≤ w1.heap.size := by omega)); (try (have hl1_w_4 : w.heap.size + 4 < w1.heap.size := by omega)); (try (have hm1_w_4 : w.heap.size + 4 ≤ w1.heap.size := by omega)); (try (have hl1_w_5 : w.heap.size + 5 < w1.heap.size := by omega)); (try (have hm1_w_5 : w.heap.size + 5 ≤ w1.heap.size := by omega)); (try (have hl1_w_6 : w.heap.size + 6 < w1.heap.size := by omega)); (try (have hm1_w_6 : w.heap.size + 6 ≤ w1.heap.size := by omega))
    have hg : g < wc.heap.size := block_lt_of_cell x0
    go_upto_region 2 with fail
    go_cut [7, 8] (fun s7 s8 wx => s7 = .int .i64 (callCheck ⟨st, id, tr, ⟨kk, kn, ks⟩, ⟨hk, hn, hs⟩, nx⟩ ⟨t, b, c⟩) ∧ ∃ g : Nat, s8 = .pointer (some ⟨g, 0, none⟩) ∧ wx.cell? ⟨g, 0, none⟩ = some (.int .i64 (callValue ⟨st, id, tr, ⟨kk, kn, ks⟩, ⟨hk, hn, hs⟩, nx⟩).k) ∧ wx.cell? ⟨g, 1, none⟩ = some (.int .i64 (callValue ⟨st, id, tr, ⟨kk, kn, ks⟩, ⟨hk, hn, hs⟩, nx⟩).n) ∧ wx.cell? ⟨g, 2, none⟩ = some (.string (callValue ⟨st, id, tr, ⟨kk, kn, ks⟩, ⟨hk, hn, hs⟩, nx⟩).s) ∧ Below wc.heap.size wc wx)
    case first =>
      refine wp_world ?_; intro W0 hW0
      have hS0 : W0.cell? ⟨w.heap.size, 0, none⟩ = some (.int .i64 st) ∧ W0.cell? ⟨w.heap.size, 1, none⟩ = some (.int .i64 id) ∧ W0.cell? ⟨w.heap.size, 2, none⟩ = some (.int .i64 tr) ∧ W0.cell? ⟨w.heap.size, 3, none⟩ = some (.int .i64 kk) ∧ W0.cell? ⟨w.heap.size, 4, none⟩ = some (.int .i64 kn) ∧ W0.cell? ⟨w.heap.size, 5, none⟩ = some (.string ks) ∧ W0.cell? ⟨w.heap.size, 6, none⟩ = some (.int .i64 hk) ∧ W0.cell? ⟨w.heap.size, 7, none⟩ = some (.int .i64 hn) ∧ W0.cell? ⟨w.heap.size, 8, none⟩ = some (.string hs) ∧ W0.cell? ⟨w.heap.size, 9, none⟩ = some (.int .i64 nx) ∧ W0.cell? ⟨w.heap.size + 1, 0, none⟩ = some (.int .i64 t) ∧ W0.cell? ⟨w.heap.size + 1, 1, none⟩ = some (.int .i64 b) ∧ W0.cell? ⟨w.heap.size + 1, 2, none⟩ = some (.int .i64 c) ∧ Below W0.heap.size W0 W0 ∧ W0.heap.size ≤ W0.heap.size := ⟨by rw [hW0]; go_simp, by rw [hW0]; go_simp, by rw [hW0]; go_simp, by rw [hW0]; go_simp, by rw [hW0]; go_simp, by rw [hW0]; go_simp, by rw [hW0]; go_simp, by rw [hW0]; go_simp, by rw [hW0]; go_simp, by rw [hW0]; go_simp, by rw [hW0]; go_simp, by rw [hW0]; go_simp, by rw [hW0]; go_simp, Below.refl _ _, Nat.le_refl _⟩
      have HW0 := Lib.hid hW0; clear hW0
      go_region_held3 (fun w' => w'.cell? ⟨w.heap.size, 0, none⟩ = some (.int .i64 st) ∧ w'.cell? ⟨w.heap.size, 1, none⟩ = some (.int .i64 id) ∧ w'.cell? ⟨w.heap.size, 2, none⟩ = some (.int .i64 tr) ∧ w'.cell? ⟨w.heap.size, 3, none⟩ = some (.int .i64 kk) ∧ w'.cell? ⟨w.heap.size, 4, none⟩ = some (.int .i64 kn) ∧ w'.cell? ⟨w.heap.size, 5, none⟩ = some (.string ks) ∧ w'.cell? ⟨w.heap.size, 6, none⟩ = some (.int .i64 hk) ∧ w'.cell? ⟨w.heap.size, 7, none⟩ = some (.int .i64 hn) ∧ w'.cell? ⟨w.heap.size, 8, none⟩ = some (.string hs) ∧ w'.cell? ⟨w.heap.size, 9, none⟩ = some (.int .i64 nx) ∧ w'.cell? ⟨w.heap.size + 1, 0, none⟩ = some (.int .i64 t) ∧ w'.cell? ⟨w.heap.size + 1, 1, none⟩ = some (.int .i64 b) ∧ w'.cell? ⟨w.heap.size + 1, 2, none⟩ = some (.int .i64 c) ∧ Below W0.heap.size W0 w' ∧ W0.heap.size ≤ w'.heap.size) (first | exact held13d (by assumption) | exact held13 (by assumption) (by assumption) | assumption | exact held13o hS0 (by repeat (first | with_reducible exact Below.refl _ _ | with_reducible assumption | with_reducible refine below_drewN ?_ _ | with_reducible refine Below.drew ?_ | with_reducible refine below_alloc0 ?_ | with_reducible refine below_alloc ?_ (by simp; try omega) | with_reducible refine below_set ?_ (by simp; try omega) | with_reducible refine below_chain ?_ (by assumption) | (with_reducible refine below_step ?_ (by assumption) (by simp; try omega))))) (first | (go_at_call 22; refine (ref_CallFault _ _ _ _ _ _ _ _ _ _ _ _ _ _ s1 s2).mono ?_; rintro e w3 ⟨rfl, hb3⟩; obtain ⟨hc3, hf3⟩ := bcell hb3; (try simp only [World.heap_drewN, World.cell?_drewN, World.frozen?_drewN] at hc3 hf3); have hz3 := hb3.size; (try simp at hz3); (try (have hy3 := Nat.lt_of_succ_le hz3)); (try (have hx3 := Nat.lt_of_succ_lt hy3))) | (go_at_call 23; refine (ref_CallValue _ _ _ _ _ _ _ _ _ _ _).mono ?_; rintro e w4 ⟨rfl, hb4⟩; obtain ⟨hc4, hf4⟩ := bcell hb4; (try simp only [World.heap_drewN, World.cell?_drewN, World.frozen?_drewN] at hc4 hf4); have hz4 := hb4.size; (try simp at hz4); (try (have hy4 := Nat.lt_of_succ_le hz4)); (try (have hx4 := Nat.lt_of_succ_lt hy4))))
      all_goals
        obtain ⟨_, _, _, _, _, _, _, _, _, _, _, _, _, hb9, _⟩ := held13i (by assumption)
        clear hS0
      all_goals
        go_wp2_with fail
        go_meet
        refine ⟨rfl, _, rfl, by go_simp, by go_simp, by go_simp, ?_⟩
        have hW0 := HW0.out
        subst hW0
        exact hb9
    case rest =>
      obtain ⟨rfl, g', rfl, y0, y1, y2, hb2⟩ := hcut
      obtain ⟨hc2, hf2⟩ := bcell hb2; (try simp only [World.heap_drewN, World.cell?_drewN, World.frozen?_drewN] at hc2 hf2); have hz2 := hb2.size; (try simp at hz2); (try (have hy2 := Nat.lt_of_succ_le hz2)); (try (have hx2 := Nat.lt_of_succ_lt hy2))
      go_wp2_with fail
      go_ret
      exact ⟨rfl, (by repeat (first | with_reducible exact Below.refl _ _ | with_reducible assumption | with_reducible refine below_drewN ?_ _ | with_reducible refine Below.drew ?_ | with_reducible refine below_alloc0 ?_ | with_reducible refine below_alloc ?_ (by simp; try omega) | with_reducible refine below_set ?_ (by simp; try omega) | with_reducible refine below_chain ?_ (by assumption) | (with_reducible refine below_step ?_ (by assumption) (by simp; try omega))))⟩
set_option maxRecDepth 100000 in
theorem CallChecks_lifted (os : Os) (started : os.Started) (H : Type) (enc : TypeId × Value → H) :
    ReturnsInHanded {} Try.checked os 4 .any (Rows.callChecksSpec.pre6 enc Try.checked.prog Try.f4 Rows.callChecksRow.domain false) (Rows.callChecksSpec.post enc Try.checked.prog Try.f4 false true false false) := by
  refine law_lifted (s := Rows.callChecksSpec) started (by kernel_rfl) Try.func4 (by rw [Try.params4]; exact of_decide_eq_true (by kernel_rfl)) rfl rfl
    (fun ds hl => by rw [show Try.f4.params.size = 2 from rfl] at hl; match ds, hl with | [d0, d1], _ => rfl)
    (ChangeSpec.witness6 (enc := enc) (C := Try.checked) false ⟨#[], #[.agg #[.int .i64 0, .int .i64 0, .int .i64 0, .int .i64 0, .int .i64 0, .string ByteArray.empty, .int .i64 0, .int .i64 0, .string ByteArray.empty, .int .i64 0], .agg #[.int .i64 0, .int .i64 0, .int .i64 0]], []⟩ 8 (by kernel_rfl) (by kernel_rfl) (by kernel_rfl) (by kernel_rfl)) ?_
  intro W b args ds p hA hval hsz
  rw [Try.params4] at hA hval hsz
  obtain ⟨v0, vs0, d0, ds0, p0, q0, hargs, rfl, rfl, h0, r0⟩ := trodAll_cons hA
  obtain ⟨v1, vs1, d1, ds1, p1, q1, rfl, rfl, rfl, h1, r1⟩ := trodAll_cons r0
  obtain ⟨rfl, rfl, rfl⟩ := trodAll_nil r1
  have hargs' : args = #[v0, v1] := by apply Array.toList_inj.1; simpa using hargs
  subst hargs'
  have w0 := weightsEach_at _ _ hsz 0 _ _ rfl rfl
  obtain ⟨cs0, a0, rfl, ⟨rfl, i0⟩, m0⟩ := arg_struct dec_Cll Try.underlying37 (hval 0 37 _ rfl rfl) h0 w0
  have w1 := weightsEach_at _ _ hsz 1 _ _ rfl rfl
  obtain ⟨cs1, a1, rfl, ⟨rfl, i1⟩, m1⟩ := arg_struct dec_Pol Try.underlying39 (hval 1 39 _ rfl rfl) h1 w1
  exact law_CallChecks W a0 i0 a1 i1
theorem CallChecks_holds : Rows.CallChecksSaid :=
  OpenClaim.holds_of_wide 4 Try.f4 rfl rfl rfl rfl rfl rfl rfl ⟨rfl, rfl, rfl, rfl, rfl⟩ rfl rfl rfl rfl rfl (by kernel_rfl) Try.func4 (by kernel_rfl)
    (of_decide_eq_true (by kernel_rfl)) (by unfold Func.isWrapper; rw [if_neg (of_decide_eq_false (by kernel_rfl))]; exact ⟨rfl, rfl⟩)
    (fun os started H enc _ => CallChecks_lifted os started H enc)
end Go.Proofs.Ytiplgdplfbeahaa
