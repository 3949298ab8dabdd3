/- Policies and gaps: gap.Check, gap.Of, gap.Whole and the references of the same names. -/
import Derived.Test.YtiplgdplfbeahaaTypes
import Derived.Deep.QuietTactic
import Derived.BigQuiet
namespace Go.Proofs.Ytiplgdplfbeahaa
open Go.RowKit

def gapCheck (p : Pol) : Int := if p.tries < 1 ∨ 6 < p.tries ∨ p.base < 1 ∨ 1000 < p.base ∨ p.cap < p.base ∨ 1000 < p.cap then 4 else 0
theorem gapCheck_ok {p : Pol} (h : gapCheck p = 0) : 1 ≤ p.tries ∧ p.tries ≤ 6 ∧ 1 ≤ p.base ∧ p.base ≤ 1000 ∧ p.base ≤ p.cap ∧ p.cap ≤ 1000 := by
  unfold gapCheck at h; split at h <;> omega
theorem gapCheck_ne {p : Pol} (h : ¬ gapCheck p = 0) : gapCheck p = 4 := by
  unfold gapCheck at *; split at h <;> simp_all
def gapOf (p : Pol) (y : Int) : Int × Int := if gapCheck p = 0 then if y < 1 ∨ p.tries < y then (0, 4) else (min (p.base * 2 ^ (y - 1).toNat) p.cap, 0) else (0, gapCheck p)

set_option maxHeartbeats 400000 in
theorem gap_Check (t b c : Int) (w : World) :
    Calls Try.prog 64 #[.agg #[.int .i64 t, .int .i64 b, .int .i64 c]] w fun e w' => e = .returned (.int .i64 (gapCheck ⟨t, b, c⟩)) ∧ Below w.heap.size w w' := by
  go_enter Try.func64, Try.ntmps64
  go_wp2
  all_goals
    go_ret
    exact ⟨ret_int (by simp [gapCheck]; try omega), (Below.refl _ _).alloc (Nat.le_refl _) _⟩

set_option maxHeartbeats 400000 in
theorem gap_Of (t b c y : Int) (w : World) :
    Calls Try.prog 76 #[.agg #[.int .i64 t, .int .i64 b, .int .i64 c], .int .i64 y] w fun e w' => e = .returned (.tuple #[.int .i64 (gapOf ⟨t, b, c⟩ y).1, .int .i64 (gapOf ⟨t, b, c⟩ y).2]) ∧ Below w.heap.size w w' := by
  go_enter Try.func76, Try.ntmps76
  go_wp2_with (go_at_call 64; refine (gap_Check _ _ _ _).mono ?_; rintro e w' ⟨rfl, hb⟩; obtain ⟨hc, hf⟩ := bcell hb; have hz := hb.size; simp at hz; simp at hb)
  all_goals try (go_ret2; exact ⟨by simp_all [gapOf], alloc_below hb⟩)
  have hg : gapCheck ⟨t, b, c⟩ = 0 := by simp_all
  obtain ⟨h1, h2, h3, h4, h5, h6⟩ := gapCheck_ok hg
  simp only at h1 h2 h3 h4 h5 h6
  have hy : y = 1 ∨ y = 2 ∨ y = 3 ∨ y = 4 ∨ y = 5 ∨ y = 6 := by omega
  rcases hy with rfl | rfl | rfl | rfl | rfl | rfl
  all_goals
    go_quiet (fail)
    go_wp2
    all_goals
      go_ret2
      refine ⟨ret_ii ?_ ?_, below_drewN (alloc_below hb) _⟩
      · simp [gapOf, hg]
        try (rw [if_neg (by omega)])
        simp [Int.min_def]
        try omega
      · simp [gapOf, hg]
        try (rw [if_neg (by omega)])

set_option maxHeartbeats 400000 in
theorem ref_PolicyFault (t b c : Int) (w : World) :
    Calls Try.prog 66 #[.agg #[.int .i64 t, .int .i64 b, .int .i64 c]] w fun e w' => e = .returned (.int .i64 (gapCheck ⟨t, b, c⟩)) ∧ Below w.heap.size w w' := by
  go_enter Try.func66, Try.ntmps66
  go_wp2
  all_goals
    go_ret
    exact ⟨ret_int (by simp [gapCheck]; try omega), (Below.refl _ _).alloc (Nat.le_refl _) _⟩

theorem pow_succ' (b : Int) (k : Nat) : b * 2 ^ (k + 1) = b * 2 ^ k * 2 := by rw [Int.pow_succ, Int.mul_assoc]
theorem pow_mono (b : Int) (hb : 0 ≤ b) (k m : Nat) (h : k ≤ m) : b * 2 ^ k ≤ b * 2 ^ m := by
  have hp : (2 : Int) ^ k ≤ 2 ^ m := by
    have := Nat.pow_le_pow_right (n := 2) (by decide) h
    exact_mod_cast this
  exact Int.mul_le_mul_of_nonneg_left hp hb

set_option maxHeartbeats 400000 in
theorem ref_GapOf (t b c y : Int) (w : World) :
    Calls Try.prog 77 #[.agg #[.int .i64 t, .int .i64 b, .int .i64 c], .int .i64 y] w fun e w' => e = .returned (.tuple #[.int .i64 (gapOf ⟨t, b, c⟩ y).1, .int .i64 (gapOf ⟨t, b, c⟩ y).2]) ∧ Below w.heap.size w w' := by
  go_enter Try.func77, Try.ntmps77
  go_wp2_with (go_at_call 66; refine (ref_PolicyFault _ _ _ _).mono ?_; rintro e w' ⟨rfl, hb⟩; obtain ⟨hc, hf⟩ := bcell hb; have hz := hb.size; simp at hz; simp at hb)
  all_goals try (go_ret2; exact ⟨by simp_all [gapOf], alloc_below hb⟩)
  have hg : gapCheck ⟨t, b, c⟩ = 0 := by simp_all
  obtain ⟨h1, h2, h3, h4, h5, h6⟩ := gapCheck_ok hg
  simp only at h1 h2 h3 h4 h5 h6
  have HG := Lib.hid hg
  clear hg
  go_loop [7, 8] (fun n i => ∃ k : Nat, i = .int .i64 k ∧ 1 ≤ k ∧ (k : Int) ≤ y ∧ n = .int .i64 (b * 2 ^ (k - 1)) ∧ (1 < k → b * 2 ^ (k - 2) < c)) (fun _ i => (y - intOf i).toNat)
  case atStart => exact ⟨1, rfl, by omega, by omega, by simp, by omega⟩
  case round =>
    obtain ⟨k, rfl, hk1, hk2, rfl, hk3⟩ := hrel
    have hm0 : b * 2 ^ (k - 1) ≤ 2000 ∧ 1 ≤ b * 2 ^ (k - 1) := by
      constructor
      · rcases Nat.lt_or_ge 1 k with h | h
        · have := hk3 h
          rw [show k - 1 = (k - 2) + 1 by omega, pow_succ']
          omega
        · rw [show k - 1 = 0 by omega]; simp; omega
      · have := pow_mono b (by omega) 0 (k - 1) (by omega)
        simp at this; omega
    have hlast : ∀ v : Int, (v = min (b * 2 ^ (k - 1)) c) → ((k : Int) = y ∨ c ≤ b * 2 ^ (k - 1)) → (gapOf ⟨t, b, c⟩ y).1 = v ∧ (gapOf ⟨t, b, c⟩ y).2 = 0 := by
      intro v hv hor
      have e : gapOf ⟨t, b, c⟩ y = (min (b * 2 ^ (y - 1).toNat) c, 0) := by
        simp only [gapOf, HG.out, if_true]
        rw [if_neg (by omega)]
      rw [e]
      refine ⟨?_, rfl⟩
      show min (b * 2 ^ (y - 1).toNat) c = v
      rcases hor with hor | hor
      · rw [hv, show (y - 1).toNat = k - 1 by omega]
      · have := pow_mono b (by omega) (k - 1) (y - 1).toNat (by omega)
        simp only [hv, Int.min_def]; split <;> split <;> omega
    have HL := Lib.hid hlast
    obtain ⟨m, hm⟩ : ∃ m, m = b * 2 ^ (k - 1) := ⟨_, rfl⟩
    have HM := Lib.hid hm
    rw [← hm] at hm0 ⊢
    clear hlast hm hk3
    by_cases hlt : (k : Int) < y
    · by_cases hmc : m < c
      · go_wp2
        go_round
        case rel => exact ⟨k + 1, by go_num, by omega, by omega, by rw [HM.out, show k + 1 - 1 = (k - 1) + 1 by omega, pow_succ'], fun _ => by rw [show k + 1 - 2 = k - 1 by omega, ← HM.out]; exact hmc⟩
        case measure => simp [intOf]; omega
      · go_wp2
        all_goals
          go_ret2
          obtain ⟨l1, l2⟩ := HL.out c (by rw [← HM.out, Int.min_def]; split <;> omega) (.inr (by rw [← HM.out]; omega))
          exact ⟨ret_ii (by rw [l1]; try omega) l2.symm, alloc_below hb⟩
    · go_wp2
      all_goals
        go_ret2
        obtain ⟨l1, l2⟩ := HL.out (min m c) (by rw [← HM.out]) (.inl (by omega))
        exact ⟨ret_ii (by rw [l1, Int.min_def]; split <;> omega) l2.symm, alloc_below hb⟩
end Go.Proofs.Ytiplgdplfbeahaa
