/- clock.Add. -/
import Derived.Test.YtiplgdplfbeahaaTim3
namespace Go.Proofs.Ytiplgdplfbeahaa
open Go.RowKit

set_option maxRecDepth 100000 in
set_option maxHeartbeats 1000000 in
theorem clock_Add_bad (A : Option Addr) (n c : Nat) (l : List Tmr) (t : Tmr) (w : World) (hn : inL n) (hc : n ≤ c) (h : Sl w (old w) 2 RTmr A n l) (hb : tmrCheck l ≠ 0) :
    Calls Try.prog 33 #[.slice A n c, .agg #[.int .i64 t.id, .int .i64 t.at_]] w (NilC w (tmrCheck l)) := by
  have hb' : (tmrCheck l != 0) = true := by simpa using hb
  have HH := Lib.hid h
  clear h hb
  go_enter Try.func33, Try.ntmps33
  go_wp2_with (refine (clock_Check A n c l _ hn hc (HH.out.now (by repeat (first | with_reducible exact Below.refl _ _ | with_reducible assumption | with_reducible refine below_drewN ?_ _ | with_reducible refine Below.drew ?_ | with_reducible refine below_alloc0 ?_ | with_reducible refine below_alloc ?_ (by simp; try omega) | with_reducible refine below_set ?_ (by simp; try omega) | with_reducible refine below_chain ?_ (by assumption) | (with_reducible refine below_step ?_ (by assumption) (by simp; try omega)))))).mono ?_; rintro e w1 ⟨rfl, hb1⟩; obtain ⟨hc1, hf1⟩ := bcell hb1; (try simp only [World.heap_drewN, World.cell?_drewN, World.frozen?_drewN] at hc1 hf1); have hz1 := hb1.size; (try simp at hz1); (try (have hy1 := Nat.lt_of_succ_le hz1)); (try (have hx1 := Nat.lt_of_succ_lt hy1)); (try (have hl1_w_0 : w.heap.size < w1.heap.size := by omega)); (try (have hm1_w_0 : w.heap.size ≤ w1.heap.size := by omega)); (try (have hl1_w_1 : w.heap.size + 1 < w1.heap.size := by omega)); (try (have hm1_w_1 : w.heap.size + 1 ≤ w1.heap.size := by omega)); (try (have hl1_w_2 : w.heap.size + 2 < w1.heap.size := by omega)); (try (have hm1_w_2 : w.heap.size + 2 ≤ w1.heap.size := by omega)); (try (have hl1_w_3 : w.heap.size + 3 < w1.heap.size := by omega)); (try (have hm1_w_3 : w.heap.size + 3 ≤ w1.heap.size := by omega)); (try (have hl1_w_4 : w.heap.size + 4 < w1.heap.size := by omega)); (try (have hm1_w_4 : w.heap.size + 4 ≤ w1.heap.size := by omega)); (try (have hl1_w_5 : w.heap.size + 5 < w1.heap.size := by omega)); (try (have hm1_w_5 : w.heap.size + 5 ≤ w1.heap.size := by omega)); (try (have hl1_w_6 : w.heap.size + 6 < w1.heap.size := by omega)); (try (have hm1_w_6 : w.heap.size + 6 ≤ w1.heap.size := by omega)))
  go_ret2
  exact ⟨rfl, (by repeat (first | with_reducible exact Below.refl _ _ | with_reducible assumption | with_reducible refine below_drewN ?_ _ | with_reducible refine Below.drew ?_ | with_reducible refine below_alloc0 ?_ | with_reducible refine below_alloc ?_ (by simp; try omega) | with_reducible refine below_set ?_ (by simp; try omega) | with_reducible refine below_chain ?_ (by assumption) | (with_reducible refine below_step ?_ (by assumption) (by simp; try omega))))⟩
set_option maxRecDepth 100000 in
set_option maxHeartbeats 4000000 in
theorem clock_Add_more (A : Option Addr) (n c : Nat) (l : List Tmr) (t : Tmr) (w : World) (hn : inB 16 n) (hc : n ≤ c) (h : Sl w (old w) 2 RTmr A n l) (ht : t.wf) (hb : tmrCheck l = 0) :
    Calls Try.prog 33 #[.slice A n c, .agg #[.int .i64 t.id, .int .i64 t.at_]] w (if tmrCheck (tmrIns l t) = 0 then OwnRowC Tmr.cs 55 2 w (tmrIns l t) 0 else NilC w (tmrCheck (tmrIns l t))) := by
  have hb' : (tmrCheck l != 0) = false := by simpa using hb
  have hn' := hn.l (by decide)
  unfold inB at hn
  obtain ⟨i0, hi0, iz0, iz1, iz2⟩ := info_parts Try.infoTmr
  have hin : insAt l t ≤ n := by rw [← h.len]; exact insAt_le l t
  obtain ⟨i, hi⟩ : ∃ i, i = insAt l t := ⟨_, rfl⟩
  rw [← hi] at hin
  obtain ⟨A', hA', hcut⟩ := h.cut hin hc
  have HH := Lib.hid (And.intro h (And.intro hcut (And.intro hb hi)))
  have hic : i ≤ c := by omega
  clear h hcut hb hi
  go_enter Try.func33, Try.ntmps33
  go_wp2_with fail
  refine (clock_Check A n c l _ hn' hc (HH.out.1.now (by repeat (first | with_reducible exact Below.refl _ _ | with_reducible assumption | with_reducible refine below_drewN ?_ _ | with_reducible refine Below.drew ?_ | with_reducible refine below_alloc0 ?_ | with_reducible refine below_alloc ?_ (by simp; try omega) | with_reducible refine below_set ?_ (by simp; try omega) | with_reducible refine below_chain ?_ (by assumption) | (with_reducible refine below_step ?_ (by assumption) (by simp; try omega)))))).mono ?_; rintro e w1 ⟨rfl, hb1⟩; obtain ⟨hc1, hf1⟩ := bcell hb1; (try simp only [World.heap_drewN, World.cell?_drewN, World.frozen?_drewN] at hc1 hf1); have hz1 := hb1.size; (try simp at hz1); (try (have hy1 := Nat.lt_of_succ_le hz1)); (try (have hx1 := Nat.lt_of_succ_lt hy1)); (try (have hl1_w_0 : w.heap.size < w1.heap.size := by omega)); (try (have hm1_w_0 : w.heap.size ≤ w1.heap.size := by omega)); (try (have hl1_w_1 : w.heap.size + 1 < w1.heap.size := by omega)); (try (have hm1_w_1 : w.heap.size + 1 ≤ w1.heap.size := by omega)); (try (have hl1_w_2 : w.heap.size + 2 < w1.heap.size := by omega)); (try (have hm1_w_2 : w.heap.size + 2 ≤ w1.heap.size := by omega)); (try (have hl1_w_3 : w.heap.size + 3 < w1.heap.size := by omega)); (try (have hm1_w_3 : w.heap.size + 3 ≤ w1.heap.size := by omega)); (try (have hl1_w_4 : w.heap.size + 4 < w1.heap.size := by omega)); (try (have hm1_w_4 : w.heap.size + 4 ≤ w1.heap.size := by omega)); (try (have hl1_w_5 : w.heap.size + 5 < w1.heap.size := by omega)); (try (have hm1_w_5 : w.heap.size + 5 ≤ w1.heap.size := by omega)); (try (have hl1_w_6 : w.heap.size + 6 < w1.heap.size := by omega)); (try (have hm1_w_6 : w.heap.size + 6 ≤ w1.heap.size := by omega))
  go_wp2_with fail
  refine (tmrs_Search A n c l t _ hn' (HH.out.1.now (by repeat (first | with_reducible exact Below.refl _ _ | with_reducible assumption | with_reducible refine below_drewN ?_ _ | with_reducible refine Below.drew ?_ | with_reducible refine below_alloc0 ?_ | with_reducible refine below_alloc ?_ (by simp; try omega) | with_reducible refine below_set ?_ (by simp; try omega) | with_reducible refine below_chain ?_ (by assumption) | (with_reducible refine below_step ?_ (by assumption) (by simp; try omega))))) HH.out.2.2.1).mono ?_; rintro e w2 ⟨b2, rfl, hb2⟩; obtain ⟨hc2, hf2⟩ := bcell hb2; (try simp only [World.heap_drewN, World.cell?_drewN, World.frozen?_drewN] at hc2 hf2); have hz2 := hb2.size; (try simp at hz2); (try (have hy2 := Nat.lt_of_succ_le hz2)); (try (have hx2 := Nat.lt_of_succ_lt hy2)); (try (have hl2_w_0 : w.heap.size < w2.heap.size := by omega)); (try (have hm2_w_0 : w.heap.size ≤ w2.heap.size := by omega)); (try (have hl2_w_1 : w.heap.size + 1 < w2.heap.size := by omega)); (try (have hm2_w_1 : w.heap.size + 1 ≤ w2.heap.size := by omega)); (try (have hl2_w_2 : w.heap.size + 2 < w2.heap.size := by omega)); (try (have hm2_w_2 : w.heap.size + 2 ≤ w2.heap.size := by omega)); (try (have hl2_w_3 : w.heap.size + 3 < w2.heap.size := by omega)); (try (have hm2_w_3 : w.heap.size + 3 ≤ w2.heap.size := by omega)); (try (have hl2_w_4 : w.heap.size + 4 < w2.heap.size := by omega)); (try (have hm2_w_4 : w.heap.size + 4 ≤ w2.heap.size := by omega)); (try (have hl2_w_5 : w.heap.size + 5 < w2.heap.size := by omega)); (try (have hm2_w_5 : w.heap.size + 5 ≤ w2.heap.size := by omega)); (try (have hl2_w_6 : w.heap.size + 6 < w2.heap.size := by omega)); (try (have hm2_w_6 : w.heap.size + 6 ≤ w2.heap.size := by omega)); (try (have hl2_w1_0 : w1.heap.size < w2.heap.size := by omega)); (try (have hm2_w1_0 : w1.heap.size ≤ w2.heap.size := by omega)); (try (have hl2_w1_1 : w1.heap.size + 1 < w2.heap.size := by omega)); (try (have hm2_w1_1 : w1.heap.size + 1 ≤ w2.heap.size := by omega)); (try (have hl2_w1_2 : w1.heap.size + 2 < w2.heap.size := by omega)); (try (have hm2_w1_2 : w1.heap.size + 2 ≤ w2.heap.size := by omega)); (try (have hl2_w1_3 : w1.heap.size + 3 < w2.heap.size := by omega)); (try (have hm2_w1_3 : w1.heap.size + 3 ≤ w2.heap.size := by omega)); (try (have hl2_w1_4 : w1.heap.size + 4 < w2.heap.size := by omega)); (try (have hm2_w1_4 : w1.heap.size + 4 ≤ w2.heap.size := by omega)); (try (have hl2_w1_5 : w1.heap.size + 5 < w2.heap.size := by omega)); (try (have hm2_w1_5 : w1.heap.size + 5 ≤ w2.heap.size := by omega)); (try (have hl2_w1_6 : w1.heap.size + 6 < w2.heap.size := by omega)); (try (have hm2_w1_6 : w1.heap.size + 6 ≤ w2.heap.size := by omega))
  rw [← HH.out.2.2.2]
  go_upto_region 5 with fail
  have hib : inB 16 i := by unfold inB; omega
  go_cut [9] (fun s9 wx => wx.ownsRow w.heap.size 55 2 s9 (n + 1) ((tmrIns l t).flatMap Tmr.cs) ∧ Below w.heap.size w wx)
  case first =>
    go_region_law (first
      | (go_simp; go_at_call 81; refine (clone_Tmr A i c (l.take i) _ hib ((HH.out.1.now (by repeat (first | with_reducible exact Below.refl _ _ | with_reducible assumption | with_reducible refine below_drewN ?_ _ | with_reducible refine Below.drew ?_ | with_reducible refine below_alloc0 ?_ | with_reducible refine below_alloc ?_ (by simp; try omega) | with_reducible refine below_set ?_ (by simp; try omega) | with_reducible refine below_chain ?_ (by assumption) | (with_reducible refine below_step ?_ (by assumption) (by simp; try omega))))).take' hin)).mono ?_; rintro e w3 ⟨v3, rfl, ho3, hb3⟩; have hb3' := hb3; (try simp only [heap_drew] at hb3'); obtain ⟨hc3, hf3⟩ := bcell hb3; (try simp only [World.heap_drewN, World.cell?_drewN, World.frozen?_drewN] at hc3 hf3); have hz3 := hb3.size; (try simp at hz3); (try (have hy3 := Nat.lt_of_succ_le hz3)); (try (have hx3 := Nat.lt_of_succ_lt hy3)); (try (have hl3_w_0 : w.heap.size < w3.heap.size := by omega)); (try (have hm3_w_0 : w.heap.size ≤ w3.heap.size := by omega)); (try (have hl3_w_1 : w.heap.size + 1 < w3.heap.size := by omega)); (try (have hm3_w_1 : w.heap.size + 1 ≤ w3.heap.size := by omega)); (try (have hl3_w_2 : w.heap.size + 2 < w3.heap.size := by omega)); (try (have hm3_w_2 : w.heap.size + 2 ≤ w3.heap.size := by omega)); (try (have hl3_w_3 : w.heap.size + 3 < w3.heap.size := by omega)); (try (have hm3_w_3 : w.heap.size + 3 ≤ w3.heap.size := by omega)); (try (have hl3_w_4 : w.heap.size + 4 < w3.heap.size := by omega)); (try (have hm3_w_4 : w.heap.size + 4 ≤ w3.heap.size := by omega)); (try (have hl3_w_5 : w.heap.size + 5 < w3.heap.size := by omega)); (try (have hm3_w_5 : w.heap.size + 5 ≤ w3.heap.size := by omega)); (try (have hl3_w_6 : w.heap.size + 6 < w3.heap.size := by omega)); (try (have hm3_w_6 : w.heap.size + 6 ≤ w3.heap.size := by omega)); (try (have hl3_w1_0 : w1.heap.size < w3.heap.size := by omega)); (try (have hm3_w1_0 : w1.heap.size ≤ w3.heap.size := by omega)); (try (have hl3_w1_1 : w1.heap.size + 1 < w3.heap.size := by omega)); (try (have hm3_w1_1 : w1.heap.size + 1 ≤ w3.heap.size := by omega)); (try (have hl3_w1_2 : w1.heap.size + 2 < w3.heap.size := by omega)); (try (have hm3_w1_2 : w1.heap.size + 2 ≤ w3.heap.size := by omega)); (try (have hl3_w1_3 : w1.heap.size + 3 < w3.heap.size := by omega)); (try (have hm3_w1_3 : w1.heap.size + 3 ≤ w3.heap.size := by omega)); (try (have hl3_w1_4 : w1.heap.size + 4 < w3.heap.size := by omega)); (try (have hm3_w1_4 : w1.heap.size + 4 ≤ w3.heap.size := by omega)); (try (have hl3_w1_5 : w1.heap.size + 5 < w3.heap.size := by omega)); (try (have hm3_w1_5 : w1.heap.size + 5 ≤ w3.heap.size := by omega)); (try (have hl3_w1_6 : w1.heap.size + 6 < w3.heap.size := by omega)); (try (have hm3_w1_6 : w1.heap.size + 6 ≤ w3.heap.size := by omega)); (try (have hl3_w2_0 : w2.heap.size < w3.heap.size := by omega)); (try (have hm3_w2_0 : w2.heap.size ≤ w3.heap.size := by omega)); (try (have hl3_w2_1 : w2.heap.size + 1 < w3.heap.size := by omega)); (try (have hm3_w2_1 : w2.heap.size + 1 ≤ w3.heap.size := by omega)); (try (have hl3_w2_2 : w2.heap.size + 2 < w3.heap.size := by omega)); (try (have hm3_w2_2 : w2.heap.size + 2 ≤ w3.heap.size := by omega)); (try (have hl3_w2_3 : w2.heap.size + 3 < w3.heap.size := by omega)); (try (have hm3_w2_3 : w2.heap.size + 3 ≤ w3.heap.size := by omega)); (try (have hl3_w2_4 : w2.heap.size + 4 < w3.heap.size := by omega)); (try (have hm3_w2_4 : w2.heap.size + 4 ≤ w3.heap.size := by omega)); (try (have hl3_w2_5 : w2.heap.size + 5 < w3.heap.size := by omega)); (try (have hm3_w2_5 : w2.heap.size + 5 ≤ w3.heap.size := by omega)); (try (have hl3_w2_6 : w2.heap.size + 6 < w3.heap.size := by omega)); (try (have hm3_w2_6 : w2.heap.size + 6 ≤ w3.heap.size := by omega)); (try simp only [heap_drew, World.cell?_drew] at hc3 hz3))
      | (refine step_append_sl rfl (.tmp 25) (.tmp 27) 53 rfl w.heap.size 55 i0 (.agg #[.int .i64 0, .int .i64 0]) 2 16 Try.underlying53 hi0 iz0 iz1 iz2 rfl (by decide) v3 _ _ rfl (by first | exact ownsRow_base ho3 (by simp; omega) | exact (ownsRow_base ho3 (by simp; omega)).alloc _) _ 1 1 [.int .i64 t.id, .int .i64 t.at_] rfl rfl (news2 (by go_simp) (by go_simp)) (by simp) (by simp [Value.oneCell']) (by unfold maxLen; simp; omega) (by simp; omega) (by (try simp); omega) ?_; intro v4 w4 ho4 hb4 hz4; (try simp at hz4))
      | (refine step_append_sl rfl (.tmp 28) (.tmp 31) 53 rfl w.heap.size 55 i0 (.agg #[.int .i64 0, .int .i64 0]) 2 16 Try.underlying53 hi0 iz0 iz1 iz2 rfl (by decide) v4 _ _ rfl ho4 A' (n - i) (c - i) ((l.drop i).flatMap Tmr.cs) rfl (by rw [flat_len _ 2 lenTmr, List.length_drop, HH.out.1.len]) ((HH.out.2.1.now (by repeat (first | with_reducible exact Below.refl _ _ | with_reducible assumption | with_reducible refine below_drewN ?_ _ | with_reducible refine Below.drew ?_ | with_reducible refine below_alloc0 ?_ | with_reducible refine below_alloc ?_ (by simp; try omega) | with_reducible refine below_set ?_ (by simp; try omega) | with_reducible refine below_chain ?_ (by assumption) | (with_reducible refine below_step ?_ (by assumption) (by simp; try omega))))).cellsTmr) (fun e => by have := HH.out.2.1; rw [e] at this; exact this.of_none.1) (oneTmr _) (by unfold maxLen; simp; omega) (by simp; omega) (by (try simp); omega) ?_; intro v5 w5 ho5 hb5 hz5))
    all_goals
      go_wp2_with fail
      go_meet
      refine ⟨?_, ?_⟩
      · have e : List.flatMap Tmr.cs (l.take i) ++ [.int .i64 t.id, .int .i64 t.at_] ++ (l.drop i).flatMap Tmr.cs = (tmrIns l t).flatMap Tmr.cs := by
          rw [tmrIns, ← HH.out.2.2.2]; simp
        have e2 : (l.take i).length + 1 + (n - i) = n + 1 := by rw [List.length_take, HH.out.1.len]; omega
        rw [e, e2] at ho5
        exact ho5
      · refine Below.trans (Below.trans ?_ hb4) hb5
        exact (by repeat (first | with_reducible exact Below.refl _ _ | with_reducible assumption | with_reducible refine below_drewN ?_ _ | with_reducible refine Below.drew ?_ | with_reducible refine below_alloc0 ?_ | with_reducible refine below_alloc ?_ (by simp; try omega) | with_reducible refine below_set ?_ (by simp; try omega) | with_reducible refine below_chain ?_ (by assumption) | (with_reducible refine below_step ?_ (by assumption) (by simp; try omega))))
  case rest =>
    obtain ⟨ho9, hb9⟩ := hcut
    have hlen9 : (tmrIns l t).length = n + 1 := by rw [tmrIns_len, HH.out.1.len]
    obtain ⟨A9, c9, rfl, hc9, hs9⟩ := ownTmr ho9 hlen9 (tmrIns_wf HH.out.1.wfTmr ht)
    have HS := Lib.hid (And.intro hs9 hlen9)
    clear ho9 hs9 hlen9 hA'
    have h20 : n ≤ 20 := by rw [← HH.out.1.len]; exact tmrCheck_le HH.out.2.2.1
    have hn9 : inL (n + 1) := by unfold inL; omega
    have hn9' : inB 16 (n + 1) := by unfold inB; omega
    by_cases hk : tmrCheck (tmrIns l t) = 0
    · have hk' : (tmrCheck (tmrIns l t) != 0) = false := by simpa using hk
      go_wp2_with fail
      refine (clock_Check A9 (n + 1) c9 (tmrIns l t) _ hn9 hc9 HS.out.1).mono ?_; rintro e w10 ⟨rfl, hb10⟩
      go_wp2_with fail
      refine (clone_Tmr A9 (n + 1) c9 (tmrIns l t) _ hn9' (HS.out.1.now hb10)).mono ?_; rintro e w11 ⟨v11, rfl, ho11, hb11⟩
      go_wp2_with fail
      go_ret2
      refine ⟨_, rfl, ownsRow_base ho11 ?_, ?_⟩
      · exact Nat.le_trans hb9.size hb10.size
      · exact below_chain (below_chain hb9 hb10) hb11
    · have hk' : (tmrCheck (tmrIns l t) != 0) = true := by simpa using hk
      go_wp2_with fail
      refine (clock_Check A9 (n + 1) c9 (tmrIns l t) _ hn9 hc9 HS.out.1).mono ?_; rintro e w10 ⟨rfl, hb10⟩
      go_wp2_with fail
      go_ret2
      exact ⟨rfl, below_chain hb9 hb10⟩
end Go.Proofs.Ytiplgdplfbeahaa
