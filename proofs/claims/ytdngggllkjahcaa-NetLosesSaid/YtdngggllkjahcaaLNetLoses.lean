/- The law NetLoses returns true for every input: net.Lose and net.Twice agree with the references. No condition. -/
import Derived.Test.YtdngggllkjahcaaDecs
import Derived.Test.YtdngggllkjahcaaNet7r
namespace Go.Proofs.Ytdngggllkjahcaa
open Go.ChangeShapes Go.WideShapes Go.ChangeAt Go.RowKit

theorem ltrLose_wf {l : List Ltr} {i : Int} (hl : ∀ a ∈ l, a.wf) : ∀ a ∈ (ltrLose l i).1, a.wf := by
  unfold ltrLose
  split
  · intro a ha; exact hl a (List.mem_of_mem_eraseIdx ha)
  · intro a ha; simp at ha
theorem ltrLose_len (l : List Ltr) (i : Int) : (ltrLose l i).1.length ≤ l.length := by
  unfold ltrLose
  split
  · exact List.length_eraseIdx_le _ _
  · simp
theorem ltrTwice_wf {l : List Ltr} {i : Int} (hl : ∀ a ∈ l, a.wf) : ∀ a ∈ (ltrTwice l i).1, a.wf := by
  unfold ltrTwice
  by_cases h0 : (ltrAt l i).2 = 0
  · obtain ⟨_, k, x, rfl, hk, hx, e⟩ := ltrAt_ok h0
    rw [if_pos h0, e]
    split
    · intro a ha; simp at ha
    · intro a ha
      rcases List.mem_append.1 ha with h | h
      · exact hl a (List.mem_of_mem_take h)
      · rcases List.mem_cons.1 h with h | h
        · subst h; exact hl a (List.mem_of_getElem? hx)
        · exact hl a (List.mem_of_mem_drop h)
  · rw [if_neg h0]
    intro a ha; simp at ha
theorem ltrTwice_len (l : List Ltr) (i : Int) : (ltrTwice l i).1.length ≤ 25 := by
  unfold ltrTwice
  by_cases h0 : (ltrAt l i).2 = 0
  · obtain ⟨hck, k, x, rfl, hk, hx, e⟩ := ltrAt_ok h0
    have h24 := ltrCheck_le hck
    rw [if_pos h0, e]
    split
    · simp
    · rw [Int.toNat_natCast, insL_len x (by omega)]; omega
  · rw [if_neg h0]; simp
set_option maxRecDepth 100000 in
set_option maxHeartbeats 2000000 in
theorem law_NetLoses (w : World) (A : Option Addr) (n c : Nat) (l : List Ltr) (hn : inB 88 n) (hc : n ≤ c) (h : Sl w (old w) 8 RLtr A n l) (i : Int) (_ : inI i) :
    Calls Try.prog 3 #[.slice A n c, .int .i64 i] w fun e w' => e = .returned (.bool true) ∧ Below w.heap.size w w' := by
  have hl1 : inL (ltrLose l i).1.length := by
    have := ltrLose_len l i
    have h2 := hn.l (by decide)
    rw [h.len] at this
    unfold inL at *; omega
  have hl2 : inL (ltrTwice l i).1.length := by
    have := ltrTwice_len l i
    unfold inL; omega
  have HH := Lib.hid h
  clear h
  go_enter Try.func3, Try.ntmps3
  go_wp2_with fail
  refine (net_Lose A n c l i _ hn (HH.out.now (by repeat (first | with_reducible exact Below.refl _ _ | with_reducible assumption | with_reducible refine below_drewN ?_ _ | with_reducible refine Below.drew ?_ | with_reducible refine below_alloc0 ?_ | with_reducible refine below_alloc ?_ (by simp; try omega) | with_reducible refine below_set ?_ (by simp; try omega) | with_reducible refine below_chain ?_ (by assumption) | (with_reducible refine below_step ?_ (by assumption) (by simp; try omega)))))).mono ?_; rintro e w1 ⟨v1, rfl, ho1, hb1⟩; obtain ⟨hc1, hf1⟩ := bcell hb1; (try simp only [World.heap_drewN, World.cell?_drewN, World.frozen?_drewN] at hc1 hf1); have hz1 := hb1.size; (try simp at hz1); (try (have hy1 := Nat.lt_of_succ_le hz1)); (try (have hx1 := Nat.lt_of_succ_lt hy1)); (try (have hl1_w_0 : w.heap.size < w1.heap.size := by omega)); (try (have hm1_w_0 : w.heap.size ≤ w1.heap.size := by omega)); (try (have hl1_w_1 : w.heap.size + 1 < w1.heap.size := by omega)); (try (have hm1_w_1 : w.heap.size + 1 ≤ w1.heap.size := by omega)); (try (have hl1_w_2 : w.heap.size + 2 < w1.heap.size := by omega)); (try (have hm1_w_2 : w.heap.size + 2 ≤ w1.heap.size := by omega)); (try (have hl1_w_3 : w.heap.size + 3 < w1.heap.size := by omega)); (try (have hm1_w_3 : w.heap.size + 3 ≤ w1.heap.size := by omega)); (try (have hl1_w_4 : w.heap.size + 4 < w1.heap.size := by omega)); (try (have hm1_w_4 : w.heap.size + 4 ≤ w1.heap.size := by omega)); (try (have hl1_w_5 : w.heap.size + 5 < w1.heap.size := by omega)); (try (have hm1_w_5 : w.heap.size + 5 ≤ w1.heap.size := by omega)); (try (have hl1_w_6 : w.heap.size + 6 < w1.heap.size := by omega)); (try (have hm1_w_6 : w.heap.size + 6 ≤ w1.heap.size := by omega))
  go_wp2_with fail
  refine (net_Twice A n c l i _ hn (HH.out.now (by repeat (first | with_reducible exact Below.refl _ _ | with_reducible assumption | with_reducible refine below_drewN ?_ _ | with_reducible refine Below.drew ?_ | with_reducible refine below_alloc0 ?_ | with_reducible refine below_alloc ?_ (by simp; try omega) | with_reducible refine below_set ?_ (by simp; try omega) | with_reducible refine below_chain ?_ (by assumption) | (with_reducible refine below_step ?_ (by assumption) (by simp; try omega)))))).mono ?_; rintro e w2 ⟨v2, rfl, ho2, hb2⟩; obtain ⟨hc2, hf2⟩ := bcell hb2; (try simp only [World.heap_drewN, World.cell?_drewN, World.frozen?_drewN] at hc2 hf2); have hz2 := hb2.size; (try simp at hz2); (try (have hy2 := Nat.lt_of_succ_le hz2)); (try (have hx2 := Nat.lt_of_succ_lt hy2)); (try (have hl2_w_0 : w.heap.size < w2.heap.size := by omega)); (try (have hm2_w_0 : w.heap.size ≤ w2.heap.size := by omega)); (try (have hl2_w_1 : w.heap.size + 1 < w2.heap.size := by omega)); (try (have hm2_w_1 : w.heap.size + 1 ≤ w2.heap.size := by omega)); (try (have hl2_w_2 : w.heap.size + 2 < w2.heap.size := by omega)); (try (have hm2_w_2 : w.heap.size + 2 ≤ w2.heap.size := by omega)); (try (have hl2_w_3 : w.heap.size + 3 < w2.heap.size := by omega)); (try (have hm2_w_3 : w.heap.size + 3 ≤ w2.heap.size := by omega)); (try (have hl2_w_4 : w.heap.size + 4 < w2.heap.size := by omega)); (try (have hm2_w_4 : w.heap.size + 4 ≤ w2.heap.size := by omega)); (try (have hl2_w_5 : w.heap.size + 5 < w2.heap.size := by omega)); (try (have hm2_w_5 : w.heap.size + 5 ≤ w2.heap.size := by omega)); (try (have hl2_w_6 : w.heap.size + 6 < w2.heap.size := by omega)); (try (have hm2_w_6 : w.heap.size + 6 ≤ w2.heap.size := by omega)); (try (have hl2_w1_0 : w1.heap.size < w2.heap.size := by omega)); (try (have hm2_w1_0 : w1.heap.size ≤ w2.heap.size := by omega)); (try (have hl2_w1_1 : w1.heap.size + 1 < w2.heap.size := by omega)); (try (have hm2_w1_1 : w1.heap.size + 1 ≤ w2.heap.size := by omega)); (try (have hl2_w1_2 : w1.heap.size + 2 < w2.heap.size := by omega)); (try (have hm2_w1_2 : w1.heap.size + 2 ≤ w2.heap.size := by omega)); (try (have hl2_w1_3 : w1.heap.size + 3 < w2.heap.size := by omega)); (try (have hm2_w1_3 : w1.heap.size + 3 ≤ w2.heap.size := by omega)); (try (have hl2_w1_4 : w1.heap.size + 4 < w2.heap.size := by omega)); (try (have hm2_w1_4 : w1.heap.size + 4 ≤ w2.heap.size := by omega)); (try (have hl2_w1_5 : w1.heap.size + 5 < w2.heap.size := by omega)); (try (have hm2_w1_5 : w1.heap.size + 5 ≤ w2.heap.size := by omega)); (try (have hl2_w1_6 : w1.heap.size + 6 < w2.heap.size := by omega)); (try (have hm2_w1_6 : w1.heap.size + 6 ≤ w2.heap.size := by omega))
  go_wp2_with fail
  refine (ref_LettersLose A n c l i _ hn hc (HH.out.now (by repeat (first | with_reducible exact Below.refl _ _ | with_reducible assumption | with_reducible refine below_drewN ?_ _ | with_reducible refine Below.drew ?_ | with_reducible refine below_alloc0 ?_ | with_reducible refine below_alloc ?_ (by simp; try omega) | with_reducible refine below_set ?_ (by simp; try omega) | with_reducible refine below_chain ?_ (by assumption) | (with_reducible refine below_step ?_ (by assumption) (by simp; try omega)))))).mono ?_; rintro e w3 ⟨v3, rfl, ho3, hb3⟩; obtain ⟨hc3, hf3⟩ := bcell hb3; (try simp only [World.heap_drewN, World.cell?_drewN, World.frozen?_drewN] at hc3 hf3); have hz3 := hb3.size; (try simp at hz3); (try (have hy3 := Nat.lt_of_succ_le hz3)); (try (have hx3 := Nat.lt_of_succ_lt hy3)); (try (have hl3_w_0 : w.heap.size < w3.heap.size := by omega)); (try (have hm3_w_0 : w.heap.size ≤ w3.heap.size := by omega)); (try (have hl3_w_1 : w.heap.size + 1 < w3.heap.size := by omega)); (try (have hm3_w_1 : w.heap.size + 1 ≤ w3.heap.size := by omega)); (try (have hl3_w_2 : w.heap.size + 2 < w3.heap.size := by omega)); (try (have hm3_w_2 : w.heap.size + 2 ≤ w3.heap.size := by omega)); (try (have hl3_w_3 : w.heap.size + 3 < w3.heap.size := by omega)); (try (have hm3_w_3 : w.heap.size + 3 ≤ w3.heap.size := by omega)); (try (have hl3_w_4 : w.heap.size + 4 < w3.heap.size := by omega)); (try (have hm3_w_4 : w.heap.size + 4 ≤ w3.heap.size := by omega)); (try (have hl3_w_5 : w.heap.size + 5 < w3.heap.size := by omega)); (try (have hm3_w_5 : w.heap.size + 5 ≤ w3.heap.size := by omega)); (try (have hl3_w_6 : w.heap.size + 6 < w3.heap.size := by omega)); (try (have hm3_w_6 : w.heap.size + 6 ≤ w3.heap.size := by omega)); (try (have hl3_w1_0 : w1.heap.size < w3.heap.size := by omega)); (try (have hm3_w1_0 : w1.heap.size ≤ w3.heap.size := by omega)); (try (have hl3_w1_1 : w1.heap.size + 1 < w3.heap.size := by omega)); (try (have hm3_w1_1 : w1.heap.size + 1 ≤ w3.heap.size := by omega)); (try (have hl3_w1_2 : w1.heap.size + 2 < w3.heap.size := by omega)); (try (have hm3_w1_2 : w1.heap.size + 2 ≤ w3.heap.size := by omega)); (try (have hl3_w1_3 : w1.heap.size + 3 < w3.heap.size := by omega)); (try (have hm3_w1_3 : w1.heap.size + 3 ≤ w3.heap.size := by omega)); (try (have hl3_w1_4 : w1.heap.size + 4 < w3.heap.size := by omega)); (try (have hm3_w1_4 : w1.heap.size + 4 ≤ w3.heap.size := by omega)); (try (have hl3_w1_5 : w1.heap.size + 5 < w3.heap.size := by omega)); (try (have hm3_w1_5 : w1.heap.size + 5 ≤ w3.heap.size := by omega)); (try (have hl3_w1_6 : w1.heap.size + 6 < w3.heap.size := by omega)); (try (have hm3_w1_6 : w1.heap.size + 6 ≤ w3.heap.size := by omega)); (try (have hl3_w2_0 : w2.heap.size < w3.heap.size := by omega)); (try (have hm3_w2_0 : w2.heap.size ≤ w3.heap.size := by omega)); (try (have hl3_w2_1 : w2.heap.size + 1 < w3.heap.size := by omega)); (try (have hm3_w2_1 : w2.heap.size + 1 ≤ w3.heap.size := by omega)); (try (have hl3_w2_2 : w2.heap.size + 2 < w3.heap.size := by omega)); (try (have hm3_w2_2 : w2.heap.size + 2 ≤ w3.heap.size := by omega)); (try (have hl3_w2_3 : w2.heap.size + 3 < w3.heap.size := by omega)); (try (have hm3_w2_3 : w2.heap.size + 3 ≤ w3.heap.size := by omega)); (try (have hl3_w2_4 : w2.heap.size + 4 < w3.heap.size := by omega)); (try (have hm3_w2_4 : w2.heap.size + 4 ≤ w3.heap.size := by omega)); (try (have hl3_w2_5 : w2.heap.size + 5 < w3.heap.size := by omega)); (try (have hm3_w2_5 : w2.heap.size + 5 ≤ w3.heap.size := by omega)); (try (have hl3_w2_6 : w2.heap.size + 6 < w3.heap.size := by omega)); (try (have hm3_w2_6 : w2.heap.size + 6 ≤ w3.heap.size := by omega))
  go_wp2_with fail
  refine (ref_LettersTwice A n c l i _ hn hc (HH.out.now (by repeat (first | with_reducible exact Below.refl _ _ | with_reducible assumption | with_reducible refine below_drewN ?_ _ | with_reducible refine Below.drew ?_ | with_reducible refine below_alloc0 ?_ | with_reducible refine below_alloc ?_ (by simp; try omega) | with_reducible refine below_set ?_ (by simp; try omega) | with_reducible refine below_chain ?_ (by assumption) | (with_reducible refine below_step ?_ (by assumption) (by simp; try omega)))))).mono ?_; rintro e w4 ⟨v4, rfl, ho4, hb4⟩; obtain ⟨hc4, hf4⟩ := bcell hb4; (try simp only [World.heap_drewN, World.cell?_drewN, World.frozen?_drewN] at hc4 hf4); have hz4 := hb4.size; (try simp at hz4); (try (have hy4 := Nat.lt_of_succ_le hz4)); (try (have hx4 := Nat.lt_of_succ_lt hy4)); (try (have hl4_w_0 : w.heap.size < w4.heap.size := by omega)); (try (have hm4_w_0 : w.heap.size ≤ w4.heap.size := by omega)); (try (have hl4_w_1 : w.heap.size + 1 < w4.heap.size := by omega)); (try (have hm4_w_1 : w.heap.size + 1 ≤ w4.heap.size := by omega)); (try (have hl4_w_2 : w.heap.size + 2 < w4.heap.size := by omega)); (try (have hm4_w_2 : w.heap.size + 2 ≤ w4.heap.size := by omega)); (try (have hl4_w_3 : w.heap.size + 3 < w4.heap.size := by omega)); (try (have hm4_w_3 : w.heap.size + 3 ≤ w4.heap.size := by omega)); (try (have hl4_w_4 : w.heap.size + 4 < w4.heap.size := by omega)); (try (have hm4_w_4 : w.heap.size + 4 ≤ w4.heap.size := by omega)); (try (have hl4_w_5 : w.heap.size + 5 < w4.heap.size := by omega)); (try (have hm4_w_5 : w.heap.size + 5 ≤ w4.heap.size := by omega)); (try (have hl4_w_6 : w.heap.size + 6 < w4.heap.size := by omega)); (try (have hm4_w_6 : w.heap.size + 6 ≤ w4.heap.size := by omega)); (try (have hl4_w1_0 : w1.heap.size < w4.heap.size := by omega)); (try (have hm4_w1_0 : w1.heap.size ≤ w4.heap.size := by omega)); (try (have hl4_w1_1 : w1.heap.size + 1 < w4.heap.size := by omega)); (try (have hm4_w1_1 : w1.heap.size + 1 ≤ w4.heap.size := by omega)); (try (have hl4_w1_2 : w1.heap.size + 2 < w4.heap.size := by omega)); (try (have hm4_w1_2 : w1.heap.size + 2 ≤ w4.heap.size := by omega)); (try (have hl4_w1_3 : w1.heap.size + 3 < w4.heap.size := by omega)); (try (have hm4_w1_3 : w1.heap.size + 3 ≤ w4.heap.size := by omega)); (try (have hl4_w1_4 : w1.heap.size + 4 < w4.heap.size := by omega)); (try (have hm4_w1_4 : w1.heap.size + 4 ≤ w4.heap.size := by omega)); (try (have hl4_w1_5 : w1.heap.size + 5 < w4.heap.size := by omega)); (try (have hm4_w1_5 : w1.heap.size + 5 ≤ w4.heap.size := by omega)); (try (have hl4_w1_6 : w1.heap.size + 6 < w4.heap.size := by omega)); (try (have hm4_w1_6 : w1.heap.size + 6 ≤ w4.heap.size := by omega)); (try (have hl4_w2_0 : w2.heap.size < w4.heap.size := by omega)); (try (have hm4_w2_0 : w2.heap.size ≤ w4.heap.size := by omega)); (try (have hl4_w2_1 : w2.heap.size + 1 < w4.heap.size := by omega)); (try (have hm4_w2_1 : w2.heap.size + 1 ≤ w4.heap.size := by omega)); (try (have hl4_w2_2 : w2.heap.size + 2 < w4.heap.size := by omega)); (try (have hm4_w2_2 : w2.heap.size + 2 ≤ w4.heap.size := by omega)); (try (have hl4_w2_3 : w2.heap.size + 3 < w4.heap.size := by omega)); (try (have hm4_w2_3 : w2.heap.size + 3 ≤ w4.heap.size := by omega)); (try (have hl4_w2_4 : w2.heap.size + 4 < w4.heap.size := by omega)); (try (have hm4_w2_4 : w2.heap.size + 4 ≤ w4.heap.size := by omega)); (try (have hl4_w2_5 : w2.heap.size + 5 < w4.heap.size := by omega)); (try (have hm4_w2_5 : w2.heap.size + 5 ≤ w4.heap.size := by omega)); (try (have hl4_w2_6 : w2.heap.size + 6 < w4.heap.size := by omega)); (try (have hm4_w2_6 : w2.heap.size + 6 ≤ w4.heap.size := by omega)); (try (have hl4_w3_0 : w3.heap.size < w4.heap.size := by omega)); (try (have hm4_w3_0 : w3.heap.size ≤ w4.heap.size := by omega)); (try (have hl4_w3_1 : w3.heap.size + 1 < w4.heap.size := by omega)); (try (have hm4_w3_1 : w3.heap.size + 1 ≤ w4.heap.size := by omega)); (try (have hl4_w3_2 : w3.heap.size + 2 < w4.heap.size := by omega)); (try (have hm4_w3_2 : w3.heap.size + 2 ≤ w4.heap.size := by omega)); (try (have hl4_w3_3 : w3.heap.size + 3 < w4.heap.size := by omega)); (try (have hm4_w3_3 : w3.heap.size + 3 ≤ w4.heap.size := by omega)); (try (have hl4_w3_4 : w3.heap.size + 4 < w4.heap.size := by omega)); (try (have hm4_w3_4 : w3.heap.size + 4 ≤ w4.heap.size := by omega)); (try (have hl4_w3_5 : w3.heap.size + 5 < w4.heap.size := by omega)); (try (have hm4_w3_5 : w3.heap.size + 5 ≤ w4.heap.size := by omega)); (try (have hl4_w3_6 : w3.heap.size + 6 < w4.heap.size := by omega)); (try (have hm4_w3_6 : w3.heap.size + 6 ≤ w4.heap.size := by omega))
  have hwf := ltrLose_wf (i := i) HH.out.wfLtr
  have hwt := ltrTwice_wf (i := i) HH.out.wfLtr
  obtain ⟨A1, c1, rfl, _, hs1⟩ := ownLtr ho1 rfl hwf
  obtain ⟨A2, c2, rfl, _, hs2⟩ := ownLtr ho2 rfl hwt
  obtain ⟨A3, c3, rfl, _, hs3⟩ := ownLtr ho3 rfl hwf
  obtain ⟨A4, c4, rfl, _, hs4⟩ := ownLtr ho4 rfl hwt
  have HS := Lib.hid (And.intro hs1 (And.intro hs2 (And.intro hs3 hs4)))
  clear ho1 ho2 ho3 ho4 hs1 hs2 hs3 hs4 hwf hwt
  go_wp2_with fail
  refine (same_Letters A1 _ c1 (ltrLose l i).1 A3 _ c3 (ltrLose l i).1 _ hl1 hl1 (HS.out.1.now (by repeat (first | with_reducible exact Below.refl _ _ | with_reducible assumption | with_reducible refine below_drewN ?_ _ | with_reducible refine Below.drew ?_ | with_reducible refine below_alloc0 ?_ | with_reducible refine below_alloc ?_ (by simp; try omega) | with_reducible refine below_set ?_ (by simp; try omega) | with_reducible refine below_chain ?_ (by assumption) | (with_reducible refine below_step ?_ (by assumption) (by simp; try omega))))) (HS.out.2.2.1.now (by repeat (first | with_reducible exact Below.refl _ _ | with_reducible assumption | with_reducible refine below_drewN ?_ _ | with_reducible refine Below.drew ?_ | with_reducible refine below_alloc0 ?_ | with_reducible refine below_alloc ?_ (by simp; try omega) | with_reducible refine below_set ?_ (by simp; try omega) | with_reducible refine below_chain ?_ (by assumption) | (with_reducible refine below_step ?_ (by assumption) (by simp; try omega)))))).mono ?_; rintro e w5 ⟨rfl, hb5⟩
  rw [decide_eq_true rfl]
  go_wp2_with fail
  refine (same_Letters A2 _ c2 (ltrTwice l i).1 A4 _ c4 (ltrTwice l i).1 _ hl2 hl2 (HS.out.2.1.now (by repeat (first | with_reducible exact Below.refl _ _ | with_reducible assumption | with_reducible refine below_drewN ?_ _ | with_reducible refine Below.drew ?_ | with_reducible refine below_alloc0 ?_ | with_reducible refine below_alloc ?_ (by simp; try omega) | with_reducible refine below_set ?_ (by simp; try omega) | with_reducible refine below_chain ?_ (by assumption) | (with_reducible refine below_step ?_ (by assumption) (by simp; try omega))))) (HS.out.2.2.2.now (by repeat (first | with_reducible exact Below.refl _ _ | with_reducible assumption | with_reducible refine below_drewN ?_ _ | with_reducible refine Below.drew ?_ | with_reducible refine below_alloc0 ?_ | with_reducible refine below_alloc ?_ (by simp; try omega) | with_reducible refine below_set ?_ (by simp; try omega) | with_reducible refine below_chain ?_ (by assumption) | (with_reducible refine below_step ?_ (by assumption) (by simp; try omega)))))).mono ?_; rintro e w6 ⟨rfl, hb6⟩
  rw [decide_eq_true rfl]
  go_wp2_with fail
  go_ret
  exact ⟨rfl, (by repeat (first | with_reducible exact Below.refl _ _ | with_reducible assumption | with_reducible refine below_drewN ?_ _ | with_reducible refine Below.drew ?_ | with_reducible refine below_alloc0 ?_ | with_reducible refine below_alloc ?_ (by simp; try omega) | with_reducible refine below_set ?_ (by simp; try omega) | with_reducible refine below_chain ?_ (by assumption) | (with_reducible refine below_step ?_ (by assumption) (by simp; try omega))))⟩
set_option maxRecDepth 100000 in
theorem NetLoses_lifted (os : Os) (started : os.Started) (H : Type) (enc : TypeId × Value → H) :
    ReturnsInHanded {} Try.checked os 3 .any (Rows.netLosesSpec.pre6 enc Try.checked.prog Try.f3 Rows.netLosesRow.domain false) (Rows.netLosesSpec.post enc Try.checked.prog Try.f3 false true false false) := by
  refine law_lifted (s := Rows.netLosesSpec) started (by kernel_rfl) Try.func3 (by rw [Try.params3]; exact of_decide_eq_true (by kernel_rfl)) rfl rfl
    (fun ds hl => by rw [show Try.f3.params.size = 2 from rfl] at hl; match ds, hl with | [d0, d1], _ => rfl)
    (ChangeSpec.witness6 (enc := enc) (C := Try.checked) false ⟨#[], #[.slice none 0 0, .int .i64 0], []⟩ 8 (by kernel_rfl) (by kernel_rfl) (by kernel_rfl) (by kernel_rfl)) ?_
  intro W b args ds p hA hval hsz
  rw [Try.params3] at hA hval hsz
  obtain ⟨v0, vs0, d0, ds0, p0, q0, hargs, rfl, rfl, h0, r0⟩ := trodAll_cons hA
  obtain ⟨v1, vs1, d1, ds1, p1, q1, rfl, rfl, rfl, h1, r1⟩ := trodAll_cons r0
  obtain ⟨rfl, rfl, rfl⟩ := trodAll_nil r1
  have hargs' : args = #[v0, v1] := by apply Array.toList_inj.1; simpa using hargs
  subst hargs'
  have w0 := weightsEach_at _ _ hsz 0 _ _ rfl rfl
  obtain ⟨A0, n0, c0, l0, rfl, i0, k0, s0, m0⟩ := arg_sl dec_Ltrs Try.underlying22 (hval 0 22 _ rfl rfl) h0 w0
  have w1 := weightsEach_at _ _ hsz 1 _ _ rfl rfl
  obtain ⟨a1, rfl, i1⟩ := arg_int Try.underlying3 (hval 1 3 _ rfl rfl) h1
  exact law_NetLoses W A0 n0 c0 l0 i0 k0 s0 a1 i1
theorem NetLoses_holds : Rows.NetLosesSaid :=
  OpenClaim.holds_of_wide 3 Try.f3 rfl rfl rfl rfl rfl rfl rfl ⟨rfl, rfl, rfl, rfl, rfl⟩ rfl rfl rfl rfl rfl (by kernel_rfl) Try.func3 (by kernel_rfl)
    (of_decide_eq_true (by kernel_rfl)) (by unfold Func.isWrapper; rw [if_neg (of_decide_eq_false (by kernel_rfl))]; exact ⟨rfl, rfl⟩)
    (fun os started H enc _ => NetLoses_lifted os started H enc)
end Go.Proofs.Ytdngggllkjahcaa
