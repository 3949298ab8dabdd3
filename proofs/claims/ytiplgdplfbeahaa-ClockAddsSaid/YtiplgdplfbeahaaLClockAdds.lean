/- The law ClockAdds returns true for every input: clock.Check and clock.Add agree with the references. No condition. -/
import Derived.Test.YtiplgdplfbeahaaDecs
import Derived.Test.YtiplgdplfbeahaaTim4
import Derived.Test.YtiplgdplfbeahaaTim4r
namespace Go.Proofs.Ytiplgdplfbeahaa
open Go.ChangeShapes Go.WideShapes Go.ChangeAt Go.RowKit

def tmrAdd (l : List Tmr) (t : Tmr) : List Tmr × Int := if tmrCheck l = 0 then if tmrCheck (tmrIns l t) = 0 then (tmrIns l t, 0) else ([], tmrCheck (tmrIns l t)) else ([], tmrCheck l)
theorem tmrAdd_wf {l : List Tmr} {t : Tmr} (hl : ∀ a ∈ l, a.wf) (ht : t.wf) : ∀ a ∈ (tmrAdd l t).1, a.wf := by
  unfold tmrAdd
  split
  · split
    · exact tmrIns_wf hl ht
    · intro a ha; simp at ha
  · intro a ha; simp at ha
theorem tmrAdd_len (l : List Tmr) (t : Tmr) : inL (tmrAdd l t).1.length := by
  unfold tmrAdd inL
  split
  · next h =>
    split
    · have := tmrCheck_le h
      rw [tmrIns_len]; omega
    · simp
  · simp
theorem clock_Add (A : Option Addr) (n c : Nat) (l : List Tmr) (t : Tmr) (w : World) (hn : inB 16 n) (hc : n ≤ c) (h : Sl w (old w) 2 RTmr A n l) (ht : t.wf) :
    Calls Try.prog 33 #[.slice A n c, .agg #[.int .i64 t.id, .int .i64 t.at_]] w (OwnRowC Tmr.cs 55 2 w (tmrAdd l t).1 (tmrAdd l t).2) := by
  unfold tmrAdd
  by_cases hb : tmrCheck l = 0
  · rw [if_pos hb]
    refine (clock_Add_more A n c l t w hn hc h ht hb).mono ?_
    intro e w' hp
    by_cases hk : tmrCheck (tmrIns l t) = 0
    · rw [if_pos hk] at hp ⊢; exact hp
    · rw [if_neg hk] at hp ⊢; exact hp.own _ _ _
  · rw [if_neg hb]
    exact (clock_Add_bad A n c l t w (hn.l (by decide)) hc h hb).mono fun e w' hp => hp.own _ _ _
theorem ref_TimersAdd (A : Option Addr) (n c : Nat) (l : List Tmr) (t : Tmr) (w : World) (hn : inB 16 n) (h : Sl w (old w) 2 RTmr A n l) (ht : t.wf) :
    Calls Try.prog 35 #[.slice A n c, .agg #[.int .i64 t.id, .int .i64 t.at_]] w (OwnRowC Tmr.cs 55 2 w (tmrAdd l t).1 (tmrAdd l t).2) := by
  unfold tmrAdd
  by_cases hb : tmrCheck l = 0
  · rw [if_pos hb]
    refine (ref_TimersAdd_more A n c l t w hn h ht hb).mono ?_
    intro e w' hp
    by_cases hk : tmrCheck (tmrIns l t) = 0
    · rw [if_pos hk] at hp ⊢; exact hp
    · rw [if_neg hk] at hp ⊢; exact hp.own _ _ _
  · rw [if_neg hb]
    exact (ref_TimersAdd_bad A n c l t w (hn.l (by decide)) h hb).mono fun e w' hp => hp.own _ _ _
set_option maxHeartbeats 2000000 in
theorem law_ClockAdds (w : World) (A : Option Addr) (n c : Nat) (l : List Tmr) (hn : inB 16 n) (hc : n ≤ c) (h : Sl w (old w) 2 RTmr A n l) (t : Tmr) (ht : t.wf) :
    Calls Try.prog 9 #[.slice A n c, .agg t.cs.toArray] w fun e w' => e = .returned (.bool true) ∧ Below w.heap.size w w' := by
  have HH := Lib.hid (And.intro h ht)
  have hn' := hn.l (by decide)
  clear h ht
  go_enter Try.func9, Try.ntmps9
  go_wp2_with fail
  refine (clock_Check A n c l _ hn' hc (HH.out.1.now (by repeat (first | with_reducible exact Below.refl _ _ | with_reducible assumption | with_reducible refine below_drewN ?_ _ | with_reducible refine Below.drew ?_ | with_reducible refine below_alloc0 ?_ | with_reducible refine below_alloc ?_ (by simp; try omega) | with_reducible refine below_set ?_ (by simp; try omega) | with_reducible refine below_chain ?_ (by assumption) | (with_reducible refine below_step ?_ (by assumption) (by simp; try omega)))))).mono ?_; rintro e w1 ⟨rfl, hb1⟩; obtain ⟨hc1, hf1⟩ := bcell hb1; (try simp only [World.heap_drewN, World.cell?_drewN, World.frozen?_drewN] at hc1 hf1); have hz1 := hb1.size; (try simp at hz1); (try (have hy1 := Nat.lt_of_succ_le hz1)); (try (have hx1 := Nat.lt_of_succ_lt hy1)); (try (have hl1_w_0 : w.heap.size < w1.heap.size := by omega)); (try (have hm1_w_0 : w.heap.size ≤ w1.heap.size := by omega)); (try (have hl1_w_1 : w.heap.size + 1 < w1.heap.size := by omega)); (try (have hm1_w_1 : w.heap.size + 1 ≤ w1.heap.size := by omega)); (try (have hl1_w_2 : w.heap.size + 2 < w1.heap.size := by omega)); (try (have hm1_w_2 : w.heap.size + 2 ≤ w1.heap.size := by omega)); (try (have hl1_w_3 : w.heap.size + 3 < w1.heap.size := by omega)); (try (have hm1_w_3 : w.heap.size + 3 ≤ w1.heap.size := by omega)); (try (have hl1_w_4 : w.heap.size + 4 < w1.heap.size := by omega)); (try (have hm1_w_4 : w.heap.size + 4 ≤ w1.heap.size := by omega)); (try (have hl1_w_5 : w.heap.size + 5 < w1.heap.size := by omega)); (try (have hm1_w_5 : w.heap.size + 5 ≤ w1.heap.size := by omega)); (try (have hl1_w_6 : w.heap.size + 6 < w1.heap.size := by omega)); (try (have hm1_w_6 : w.heap.size + 6 ≤ w1.heap.size := by omega))
  go_wp2_with fail
  refine (clock_Add A n c l t _ hn hc (HH.out.1.now (by repeat (first | with_reducible exact Below.refl _ _ | with_reducible assumption | with_reducible refine below_drewN ?_ _ | with_reducible refine Below.drew ?_ | with_reducible refine below_alloc0 ?_ | with_reducible refine below_alloc ?_ (by simp; try omega) | with_reducible refine below_set ?_ (by simp; try omega) | with_reducible refine below_chain ?_ (by assumption) | (with_reducible refine below_step ?_ (by assumption) (by simp; try omega))))) HH.out.2).mono ?_; rintro e w2 ⟨v2, rfl, ho2, hb2⟩; obtain ⟨hc2, hf2⟩ := bcell hb2; (try simp only [World.heap_drewN, World.cell?_drewN, World.frozen?_drewN] at hc2 hf2); have hz2 := hb2.size; (try simp at hz2); (try (have hy2 := Nat.lt_of_succ_le hz2)); (try (have hx2 := Nat.lt_of_succ_lt hy2)); (try (have hl2_w_0 : w.heap.size < w2.heap.size := by omega)); (try (have hm2_w_0 : w.heap.size ≤ w2.heap.size := by omega)); (try (have hl2_w_1 : w.heap.size + 1 < w2.heap.size := by omega)); (try (have hm2_w_1 : w.heap.size + 1 ≤ w2.heap.size := by omega)); (try (have hl2_w_2 : w.heap.size + 2 < w2.heap.size := by omega)); (try (have hm2_w_2 : w.heap.size + 2 ≤ w2.heap.size := by omega)); (try (have hl2_w_3 : w.heap.size + 3 < w2.heap.size := by omega)); (try (have hm2_w_3 : w.heap.size + 3 ≤ w2.heap.size := by omega)); (try (have hl2_w_4 : w.heap.size + 4 < w2.heap.size := by omega)); (try (have hm2_w_4 : w.heap.size + 4 ≤ w2.heap.size := by omega)); (try (have hl2_w_5 : w.heap.size + 5 < w2.heap.size := by omega)); (try (have hm2_w_5 : w.heap.size + 5 ≤ w2.heap.size := by omega)); (try (have hl2_w_6 : w.heap.size + 6 < w2.heap.size := by omega)); (try (have hm2_w_6 : w.heap.size + 6 ≤ w2.heap.size := by omega)); (try (have hl2_w1_0 : w1.heap.size < w2.heap.size := by omega)); (try (have hm2_w1_0 : w1.heap.size ≤ w2.heap.size := by omega)); (try (have hl2_w1_1 : w1.heap.size + 1 < w2.heap.size := by omega)); (try (have hm2_w1_1 : w1.heap.size + 1 ≤ w2.heap.size := by omega)); (try (have hl2_w1_2 : w1.heap.size + 2 < w2.heap.size := by omega)); (try (have hm2_w1_2 : w1.heap.size + 2 ≤ w2.heap.size := by omega)); (try (have hl2_w1_3 : w1.heap.size + 3 < w2.heap.size := by omega)); (try (have hm2_w1_3 : w1.heap.size + 3 ≤ w2.heap.size := by omega)); (try (have hl2_w1_4 : w1.heap.size + 4 < w2.heap.size := by omega)); (try (have hm2_w1_4 : w1.heap.size + 4 ≤ w2.heap.size := by omega)); (try (have hl2_w1_5 : w1.heap.size + 5 < w2.heap.size := by omega)); (try (have hm2_w1_5 : w1.heap.size + 5 ≤ w2.heap.size := by omega)); (try (have hl2_w1_6 : w1.heap.size + 6 < w2.heap.size := by omega)); (try (have hm2_w1_6 : w1.heap.size + 6 ≤ w2.heap.size := by omega))
  go_wp2_with fail
  refine (ref_TimersFault A n c l _ hn' (HH.out.1.now (by repeat (first | with_reducible exact Below.refl _ _ | with_reducible assumption | with_reducible refine below_drewN ?_ _ | with_reducible refine Below.drew ?_ | with_reducible refine below_alloc0 ?_ | with_reducible refine below_alloc ?_ (by simp; try omega) | with_reducible refine below_set ?_ (by simp; try omega) | with_reducible refine below_chain ?_ (by assumption) | (with_reducible refine below_step ?_ (by assumption) (by simp; try omega)))))).mono ?_; rintro e w3 ⟨rfl, hb3⟩; obtain ⟨hc3, hf3⟩ := bcell hb3; (try simp only [World.heap_drewN, World.cell?_drewN, World.frozen?_drewN] at hc3 hf3); have hz3 := hb3.size; (try simp at hz3); (try (have hy3 := Nat.lt_of_succ_le hz3)); (try (have hx3 := Nat.lt_of_succ_lt hy3)); (try (have hl3_w_0 : w.heap.size < w3.heap.size := by omega)); (try (have hm3_w_0 : w.heap.size ≤ w3.heap.size := by omega)); (try (have hl3_w_1 : w.heap.size + 1 < w3.heap.size := by omega)); (try (have hm3_w_1 : w.heap.size + 1 ≤ w3.heap.size := by omega)); (try (have hl3_w_2 : w.heap.size + 2 < w3.heap.size := by omega)); (try (have hm3_w_2 : w.heap.size + 2 ≤ w3.heap.size := by omega)); (try (have hl3_w_3 : w.heap.size + 3 < w3.heap.size := by omega)); (try (have hm3_w_3 : w.heap.size + 3 ≤ w3.heap.size := by omega)); (try (have hl3_w_4 : w.heap.size + 4 < w3.heap.size := by omega)); (try (have hm3_w_4 : w.heap.size + 4 ≤ w3.heap.size := by omega)); (try (have hl3_w_5 : w.heap.size + 5 < w3.heap.size := by omega)); (try (have hm3_w_5 : w.heap.size + 5 ≤ w3.heap.size := by omega)); (try (have hl3_w_6 : w.heap.size + 6 < w3.heap.size := by omega)); (try (have hm3_w_6 : w.heap.size + 6 ≤ w3.heap.size := by omega)); (try (have hl3_w1_0 : w1.heap.size < w3.heap.size := by omega)); (try (have hm3_w1_0 : w1.heap.size ≤ w3.heap.size := by omega)); (try (have hl3_w1_1 : w1.heap.size + 1 < w3.heap.size := by omega)); (try (have hm3_w1_1 : w1.heap.size + 1 ≤ w3.heap.size := by omega)); (try (have hl3_w1_2 : w1.heap.size + 2 < w3.heap.size := by omega)); (try (have hm3_w1_2 : w1.heap.size + 2 ≤ w3.heap.size := by omega)); (try (have hl3_w1_3 : w1.heap.size + 3 < w3.heap.size := by omega)); (try (have hm3_w1_3 : w1.heap.size + 3 ≤ w3.heap.size := by omega)); (try (have hl3_w1_4 : w1.heap.size + 4 < w3.heap.size := by omega)); (try (have hm3_w1_4 : w1.heap.size + 4 ≤ w3.heap.size := by omega)); (try (have hl3_w1_5 : w1.heap.size + 5 < w3.heap.size := by omega)); (try (have hm3_w1_5 : w1.heap.size + 5 ≤ w3.heap.size := by omega)); (try (have hl3_w1_6 : w1.heap.size + 6 < w3.heap.size := by omega)); (try (have hm3_w1_6 : w1.heap.size + 6 ≤ w3.heap.size := by omega)); (try (have hl3_w2_0 : w2.heap.size < w3.heap.size := by omega)); (try (have hm3_w2_0 : w2.heap.size ≤ w3.heap.size := by omega)); (try (have hl3_w2_1 : w2.heap.size + 1 < w3.heap.size := by omega)); (try (have hm3_w2_1 : w2.heap.size + 1 ≤ w3.heap.size := by omega)); (try (have hl3_w2_2 : w2.heap.size + 2 < w3.heap.size := by omega)); (try (have hm3_w2_2 : w2.heap.size + 2 ≤ w3.heap.size := by omega)); (try (have hl3_w2_3 : w2.heap.size + 3 < w3.heap.size := by omega)); (try (have hm3_w2_3 : w2.heap.size + 3 ≤ w3.heap.size := by omega)); (try (have hl3_w2_4 : w2.heap.size + 4 < w3.heap.size := by omega)); (try (have hm3_w2_4 : w2.heap.size + 4 ≤ w3.heap.size := by omega)); (try (have hl3_w2_5 : w2.heap.size + 5 < w3.heap.size := by omega)); (try (have hm3_w2_5 : w2.heap.size + 5 ≤ w3.heap.size := by omega)); (try (have hl3_w2_6 : w2.heap.size + 6 < w3.heap.size := by omega)); (try (have hm3_w2_6 : w2.heap.size + 6 ≤ w3.heap.size := by omega))
  go_wp2_with fail
  refine (ref_TimersAdd A n c l t _ hn (HH.out.1.now (by repeat (first | with_reducible exact Below.refl _ _ | with_reducible assumption | with_reducible refine below_drewN ?_ _ | with_reducible refine Below.drew ?_ | with_reducible refine below_alloc0 ?_ | with_reducible refine below_alloc ?_ (by simp; try omega) | with_reducible refine below_set ?_ (by simp; try omega) | with_reducible refine below_chain ?_ (by assumption) | (with_reducible refine below_step ?_ (by assumption) (by simp; try omega))))) HH.out.2).mono ?_; rintro e w4 ⟨v4, rfl, ho4, hb4⟩; obtain ⟨hc4, hf4⟩ := bcell hb4; (try simp only [World.heap_drewN, World.cell?_drewN, World.frozen?_drewN] at hc4 hf4); have hz4 := hb4.size; (try simp at hz4); (try (have hy4 := Nat.lt_of_succ_le hz4)); (try (have hx4 := Nat.lt_of_succ_lt hy4)); (try (have hl4_w_0 : w.heap.size < w4.heap.size := by omega)); (try (have hm4_w_0 : w.heap.size ≤ w4.heap.size := by omega)); (try (have hl4_w_1 : w.heap.size + 1 < w4.heap.size := by omega)); (try (have hm4_w_1 : w.heap.size + 1 ≤ w4.heap.size := by omega)); (try (have hl4_w_2 : w.heap.size + 2 < w4.heap.size := by omega)); (try (have hm4_w_2 : w.heap.size + 2 ≤ w4.heap.size := by omega)); (try (have hl4_w_3 : w.heap.size + 3 < w4.heap.size := by omega)); (try (have hm4_w_3 : w.heap.size + 3 ≤ w4.heap.size := by omega)); (try (have hl4_w_4 : w.heap.size + 4 < w4.heap.size := by omega)); (try (have hm4_w_4 : w.heap.size + 4 ≤ w4.heap.size := by omega)); (try (have hl4_w_5 : w.heap.size + 5 < w4.heap.size := by omega)); (try (have hm4_w_5 : w.heap.size + 5 ≤ w4.heap.size := by omega)); (try (have hl4_w_6 : w.heap.size + 6 < w4.heap.size := by omega)); (try (have hm4_w_6 : w.heap.size + 6 ≤ w4.heap.size := by omega)); (try (have hl4_w1_0 : w1.heap.size < w4.heap.size := by omega)); (try (have hm4_w1_0 : w1.heap.size ≤ w4.heap.size := by omega)); (try (have hl4_w1_1 : w1.heap.size + 1 < w4.heap.size := by omega)); (try (have hm4_w1_1 : w1.heap.size + 1 ≤ w4.heap.size := by omega)); (try (have hl4_w1_2 : w1.heap.size + 2 < w4.heap.size := by omega)); (try (have hm4_w1_2 : w1.heap.size + 2 ≤ w4.heap.size := by omega)); (try (have hl4_w1_3 : w1.heap.size + 3 < w4.heap.size := by omega)); (try (have hm4_w1_3 : w1.heap.size + 3 ≤ w4.heap.size := by omega)); (try (have hl4_w1_4 : w1.heap.size + 4 < w4.heap.size := by omega)); (try (have hm4_w1_4 : w1.heap.size + 4 ≤ w4.heap.size := by omega)); (try (have hl4_w1_5 : w1.heap.size + 5 < w4.heap.size := by omega)); (try (have hm4_w1_5 : w1.heap.size + 5 ≤ w4.heap.size := by omega)); (try (have hl4_w1_6 : w1.heap.size + 6 < w4.heap.size := by omega)); (try (have hm4_w1_6 : w1.heap.size + 6 ≤ w4.heap.size := by omega)); (try (have hl4_w2_0 : w2.heap.size < w4.heap.size := by omega)); (try (have hm4_w2_0 : w2.heap.size ≤ w4.heap.size := by omega)); (try (have hl4_w2_1 : w2.heap.size + 1 < w4.heap.size := by omega)); (try (have hm4_w2_1 : w2.heap.size + 1 ≤ w4.heap.size := by omega)); (try (have hl4_w2_2 : w2.heap.size + 2 < w4.heap.size := by omega)); (try (have hm4_w2_2 : w2.heap.size + 2 ≤ w4.heap.size := by omega)); (try (have hl4_w2_3 : w2.heap.size + 3 < w4.heap.size := by omega)); (try (have hm4_w2_3 : w2.heap.size + 3 ≤ w4.heap.size := by omega)); (try (have hl4_w2_4 : w2.heap.size + 4 < w4.heap.size := by omega)); (try (have hm4_w2_4 : w2.heap.size + 4 ≤ w4.heap.size := by omega)); (try (have hl4_w2_5 : w2.heap.size + 5 < w4.heap.size := by omega)); (try (have hm4_w2_5 : w2.heap.size + 5 ≤ w4.heap.size := by omega)); (try (have hl4_w2_6 : w2.heap.size + 6 < w4.heap.size := by omega)); (try (have hm4_w2_6 : w2.heap.size + 6 ≤ w4.heap.size := by omega)); (try (have hl4_w3_0 : w3.heap.size < w4.heap.size := by omega)); (try (have hm4_w3_0 : w3.heap.size ≤ w4.heap.size := by omega)); (try (have hl4_w3_1 : w3.heap.size + 1 < w4.heap.size := by omega)); (try (have hm4_w3_1 : w3.heap.size + 1 ≤ w4.heap.size := by omega)); (try (have hl4_w3_2 : w3.heap.size + 2 < w4.heap.size := by omega)); (try (have hm4_w3_2 : w3.heap.size + 2 ≤ w4.heap.size := by omega)); (try (have hl4_w3_3 : w3.heap.size + 3 < w4.heap.size := by omega)); (try (have hm4_w3_3 : w3.heap.size + 3 ≤ w4.heap.size := by omega)); (try (have hl4_w3_4 : w3.heap.size + 4 < w4.heap.size := by omega)); (try (have hm4_w3_4 : w3.heap.size + 4 ≤ w4.heap.size := by omega)); (try (have hl4_w3_5 : w3.heap.size + 5 < w4.heap.size := by omega)); (try (have hm4_w3_5 : w3.heap.size + 5 ≤ w4.heap.size := by omega)); (try (have hl4_w3_6 : w3.heap.size + 6 < w4.heap.size := by omega)); (try (have hm4_w3_6 : w3.heap.size + 6 ≤ w4.heap.size := by omega))
  have hwf := tmrAdd_wf HH.out.1.wfTmr HH.out.2
  obtain ⟨A2, c2, rfl, hc2', hs2⟩ := ownTmr ho2 rfl hwf
  obtain ⟨A4, c4, rfl, hc4', hs4⟩ := ownTmr ho4 rfl hwf
  have HS := Lib.hid (And.intro hs2 hs4)
  clear ho2 ho4 hs2 hs4 hwf
  have hl := tmrAdd_len l t
  go_wp2_with fail
  refine (same_Timers A2 _ c2 (tmrAdd l t).1 A4 _ c4 (tmrAdd l t).1 _ hl hl (HS.out.1.now (by repeat (first | with_reducible exact Below.refl _ _ | with_reducible assumption | with_reducible refine below_drewN ?_ _ | with_reducible refine Below.drew ?_ | with_reducible refine below_alloc0 ?_ | with_reducible refine below_alloc ?_ (by simp; try omega) | with_reducible refine below_set ?_ (by simp; try omega) | with_reducible refine below_chain ?_ (by assumption) | (with_reducible refine below_step ?_ (by assumption) (by simp; try omega))))) HS.out.2).mono ?_; rintro e w5 ⟨rfl, hb5⟩
  go_wp2_with fail
  go_ret
  exact ⟨ret_bool (by simp), (by repeat (first | with_reducible exact Below.refl _ _ | with_reducible assumption | with_reducible refine below_drewN ?_ _ | with_reducible refine Below.drew ?_ | with_reducible refine below_alloc0 ?_ | with_reducible refine below_alloc ?_ (by simp; try omega) | with_reducible refine below_set ?_ (by simp; try omega) | with_reducible refine below_chain ?_ (by assumption) | (with_reducible refine below_step ?_ (by assumption) (by simp; try omega))))⟩
set_option maxRecDepth 100000 in
theorem ClockAdds_lifted (os : Os) (started : os.Started) (H : Type) (enc : TypeId × Value → H) :
    ReturnsInHanded {} Try.checked os 9 .any (Rows.clockAddsSpec.pre6 enc Try.checked.prog Try.f9 Rows.clockAddsRow.domain false) (Rows.clockAddsSpec.post enc Try.checked.prog Try.f9 false true false false) := by
  refine law_lifted (s := Rows.clockAddsSpec) started (by kernel_rfl) Try.func9 (by rw [Try.params9]; exact of_decide_eq_true (by kernel_rfl)) rfl rfl
    (fun ds hl => by rw [show Try.f9.params.size = 2 from rfl] at hl; match ds, hl with | [d0, d1], _ => rfl)
    (ChangeSpec.witness6 (enc := enc) (C := Try.checked) false ⟨#[], #[.slice none 0 0, .agg #[.int .i64 0, .int .i64 0]], []⟩ 8 (by kernel_rfl) (by kernel_rfl) (by kernel_rfl) (by kernel_rfl)) ?_
  intro W b args ds p hA hval hsz
  rw [Try.params9] at hA hval hsz
  obtain ⟨v0, vs0, d0, ds0, p0, q0, hargs, rfl, rfl, h0, r0⟩ := trodAll_cons hA
  obtain ⟨v1, vs1, d1, ds1, p1, q1, rfl, rfl, rfl, h1, r1⟩ := trodAll_cons r0
  obtain ⟨rfl, rfl, rfl⟩ := trodAll_nil r1
  have hargs' : args = #[v0, v1] := by apply Array.toList_inj.1; simpa using hargs
  subst hargs'
  have w0 := weightsEach_at _ _ hsz 0 _ _ rfl rfl
  obtain ⟨A0, n0, c0, l0, rfl, i0, k0, s0, m0⟩ := arg_sl dec_Tmrs Try.underlying53 (hval 0 53 _ rfl rfl) h0 w0
  have w1 := weightsEach_at _ _ hsz 1 _ _ rfl rfl
  obtain ⟨cs1, a1, rfl, ⟨rfl, i1⟩, m1⟩ := arg_struct dec_Tmr Try.underlying55 (hval 1 55 _ rfl rfl) h1 w1
  exact law_ClockAdds W A0 n0 c0 l0 i0 k0 s0 a1 i1
theorem ClockAdds_holds : Rows.ClockAddsSaid :=
  OpenClaim.holds_of_wide 9 Try.f9 rfl rfl rfl rfl rfl rfl rfl ⟨rfl, rfl, rfl, rfl, rfl⟩ rfl rfl rfl rfl rfl (by kernel_rfl) Try.func9 (by kernel_rfl)
    (of_decide_eq_true (by kernel_rfl)) (by unfold Func.isWrapper; rw [if_neg (of_decide_eq_false (by kernel_rfl))]; exact ⟨rfl, rfl⟩)
    (fun os started H enc _ => ClockAdds_lifted os started H enc)
end Go.Proofs.Ytiplgdplfbeahaa
