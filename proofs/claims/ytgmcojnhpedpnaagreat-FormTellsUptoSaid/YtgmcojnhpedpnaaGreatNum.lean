/- The numbers of package num and of the references: what each function returns. No conditions but those named. -/
import Derived.Test.YtgmcojnhpedpnaaGreatBase
import Derived.Test.YtgmcojnhpedpnaaGreatPlainNum
import Derived.Deep.QuietTactic
import Derived.BigQuiet
namespace Go.Proofs.YtgmcojnhpedpnaaGreat
open Go.RowKit

def numCheck (n : Int) : Int := if n < -1099511627776 ∨ 1099511627776 < n then 7 else 0
theorem numCheck_lo {n : Int} (h : numCheck n = 0) : -1099511627776 ≤ n ∧ n ≤ 1099511627776 := by
  unfold numCheck at h; split at h <;> omega
theorem numCheck_of {n : Int} (h : -1099511627776 ≤ n) (h' : n ≤ 1099511627776) : numCheck n = 0 := by
  unfold numCheck; rw [if_neg (by omega)]
theorem numCheck_ne {n : Int} (h : ¬ numCheck n = 0) : numCheck n = 7 := by
  unfold numCheck at *; split at h <;> simp_all
def numRes (n : Int) : Int × Int := if numCheck n = 0 then (n, 0) else (0, 7)
def numGuard (a b : Int) (r : Int × Int) : Int × Int := if numCheck a = 0 ∧ numCheck b = 0 then r else (0, 7)
def numAdd (a b : Int) : Int × Int := numGuard a b (numRes (a + b))
def numSub (a b : Int) : Int × Int := numGuard a b (numRes (a - b))
def numMul (a b : Int) : Int × Int := numGuard a b (numRes (a * b))
def numDiv (a b : Int) : Int × Int := if numCheck a = 0 ∧ b = 0 then (0, 8) else numGuard a b (numRes (Int.fdiv a b))
def numMod (a b : Int) : Int × Int := if numCheck a = 0 ∧ b = 0 then (0, 8) else numGuard a b (numRes (Int.fmod a b))

set_option maxHeartbeats 400000 in
theorem num_Check (n : Int) (w : World) :
    Calls Tryz.prog 135 #[.int .i64 n] w fun e w' => e = .returned (.int .i64 (numCheck n)) ∧ w = w' := by
  go_enter Tryz.func135, Tryz.ntmps135
  go_wp2
  all_goals
    go_ret
    exact ⟨ret_int (by simp [numCheck]; try omega), rfl⟩

set_option maxHeartbeats 400000 in
theorem ref_NumFault (n : Int) (w : World) :
    Calls Tryz.prog 143 #[.int .i64 n] w fun e w' => e = .returned (.int .i64 (numCheck n)) ∧ w = w' := by
  go_enter Tryz.func143, Tryz.ntmps143
  go_wp2
  all_goals
    go_ret
    exact ⟨ret_int (by simp [numCheck]; try omega), rfl⟩

set_option maxHeartbeats 400000 in
theorem num_within (f : FuncId) (g : Int → Int → Int) (a b : Int) (w : World) (hcf : ∀ args w, (callFunc f args).run Tryz.prog w = .ok (.enter f args) w) (hf : numCheck a = 0 → numCheck b = 0 → ∀ w, Calls Tryz.prog f #[.int .i64 a, .int .i64 b] w fun e w' => e = .returned (.int .i64 (g a b)) ∧ ∃ n, w' = w.drewN n) :
    Calls Tryz.prog 167 #[.int .i64 a, .int .i64 b, .func (.func f) #[] #[]] w fun e w' => e = .returned (.tuple #[.int .i64 (numGuard a b (numRes (g a b))).1, .int .i64 (numGuard a b (numRes (g a b))).2]) ∧ ∃ n, w' = w.drewN n := by
  by_cases ha : numCheck a = 0
  · by_cases hb : numCheck b = 0
    · have HF := Lib.hid (hf ha hb)
      clear hf
      go_enter Tryz.func167, Tryz.ntmps167
      go_wp2_with (first | (go_at_call 135; refine (num_Check _ _).mono ?_; rintro e w' ⟨rfl, rfl⟩) | (refine (HF.out _).mono ?_; rintro e w' ⟨rfl, nq, rfl⟩))
      all_goals
        go_ret2
        exact ⟨ret_ii (by simp_all [numGuard, numRes]) (by simp_all [numGuard, numRes, numCheck_ne]), _, rfl⟩
    · clear hf
      have hb' : (numCheck b != 0) = true := by simpa using hb
      go_enter Tryz.func167, Tryz.ntmps167
      go_wp2_with (first | (go_at_call 135; refine (num_Check _ _).mono ?_; rintro e w' ⟨rfl, rfl⟩))
      go_ret2
      exact ⟨ret_ii (by simp_all [numGuard]) (by simp_all [numGuard]), 0, rfl⟩
  · clear hf
    have ha' : (numCheck a != 0) = true := by simpa using ha
    go_enter Tryz.func167, Tryz.ntmps167
    go_wp2_with (first | (go_at_call 135; refine (num_Check _ _).mono ?_; rintro e w' ⟨rfl, rfl⟩))
    all_goals
      go_ret2
      exact ⟨ret_ii (by simp_all [numGuard]) (by simp_all [numGuard]), 0, rfl⟩

theorem cf (f : FuncId) (fn : Func) (h : Tryz.prog.funcs[f]? = some fn) (h1 : fn.body.isNone = false) (h2 : (fn.name == "runtime.NumGoroutine") = false) (args : Array Value) (w : World) :
    (callFunc f args).run Tryz.prog w = .ok (.enter f args) w := by
  have hp : (program : Sem Program) = .program .pure := rfl
  unfold callFunc
  simp only [Sem.run_bind, hp, Sem.run, Result.andThen, h, h1, h2]
  rfl

theorem cf_add (args : Array Value) (w : World) : (callFunc 172 args).run Tryz.prog w = .ok (.enter 172 args) w :=
  cf _ _ Tryz.func172 (by kernel_rfl) (by kernel_rfl) args w

set_option maxHeartbeats 400000 in
theorem num_Add1 (a b : Int) (w : World) (ha : numCheck a = 0) (hb : numCheck b = 0) :
    Calls Tryz.prog 172 #[.int .i64 a, .int .i64 b] w fun e w' => e = .returned (.int .i64 (a + b)) ∧ w = w' := by
  have ha' := numCheck_lo ha
  have hb' := numCheck_lo hb
  clear ha hb
  go_enter Tryz.func172, Tryz.ntmps172
  go_wp2
  go_ret
  exact ⟨rfl, rfl⟩

set_option maxHeartbeats 400000 in
theorem num_Add (a b : Int) (w : World) :
    Calls Tryz.prog 158 #[.int .i64 a, .int .i64 b] w fun e w' => e = .returned (.tuple #[.int .i64 (numAdd a b).1, .int .i64 (numAdd a b).2]) ∧ ∃ n, w' = w.drewN n := by
  go_enter Tryz.func158, Tryz.ntmps158
  go_wp2_with (go_at_call 167; refine (num_within 172 (· + ·) a b _ cf_add (fun ha hb w => (num_Add1 a b w ha hb).mono fun _ _ h => ⟨h.1, 0, h.2.symm⟩)).mono ?_; rintro e w' ⟨rfl, nq, rfl⟩)
  go_ret2
  exact ⟨rfl, _, rfl⟩


theorem tdiv_pos (a : Int) (h : 0 < a) : Int.tdiv 1099511627776 a = 1099511627776 / a ∧ 0 ≤ (1099511627776 : Int) / a ∧ (1099511627776 : Int) / a ≤ 1099511627776 := by
  refine ⟨Int.tdiv_eq_ediv_of_nonneg (by decide), Int.ediv_nonneg (by decide) (by omega), ?_⟩
  exact Int.ediv_le_self _ (by decide)
def mulOk (a b : Int) : Prop := -1099511627776 ≤ a * b ∧ a * b ≤ 1099511627776
instance (a b : Int) : Decidable (mulOk a b) := by unfold mulOk; infer_instance
def mulG (a b : Int) : Int := if mulOk a b then a * b else 1099511627777
theorem mulG_res (a b : Int) : numRes (mulG a b) = numRes (a * b) := by
  unfold mulG
  split
  · rfl
  · rename_i h
    unfold mulOk at h
    have h1 : ¬ numCheck (a * b) = 0 := fun e => by have := numCheck_lo e; omega
    rw [numRes, numRes, if_neg h1, if_neg (by decide)]
/-- the two quotients, by the sign of a -/
theorem quo_pos (a b : Int) (h : 0 < a) : wrap64 (-Int.tdiv 1099511627776 a) = -(1099511627776 / a) ∧ (b ≤ 1099511627776 / a ↔ a * b ≤ 1099511627776) ∧ (-(1099511627776 / a) ≤ b ↔ -1099511627776 ≤ a * b) := by
  obtain ⟨e, l, u⟩ := tdiv_pos a h
  have hb : b ≤ 1099511627776 / a ↔ b * a ≤ 1099511627776 := Int.le_ediv_iff_mul_le h
  have hb' : -b ≤ 1099511627776 / a ↔ -b * a ≤ 1099511627776 := Int.le_ediv_iff_mul_le h
  rw [Int.neg_mul] at hb'
  rw [Int.mul_comm a b]
  refine ⟨by rw [e]; exact IntWalk.wrap64_in _ ⟨by omega, by omega⟩, hb, by omega⟩
theorem quo_neg (a b : Int) (h : a < 0) : wrap64 (-Int.tdiv 1099511627776 a) = 1099511627776 / (-a) ∧ wrap64 (Int.tdiv 1099511627776 a) = -(1099511627776 / (-a)) ∧ (b ≤ 1099511627776 / (-a) ↔ -1099511627776 ≤ a * b) ∧ (-(1099511627776 / (-a)) ≤ b ↔ a * b ≤ 1099511627776) := by
  obtain ⟨e, l, u⟩ := tdiv_pos (-a) (by omega)
  rw [Int.tdiv_neg] at e
  obtain ⟨-, hb, hb'⟩ := quo_pos (-a) b (by omega)
  rw [Int.neg_mul] at hb hb'
  have e' : Int.tdiv 1099511627776 a = -(1099511627776 / (-a)) := by omega
  refine ⟨by rw [e]; exact IntWalk.wrap64_in _ ⟨by omega, by omega⟩, by rw [e']; exact IntWalk.wrap64_in _ ⟨by omega, by omega⟩, by omega, by omega⟩

set_option maxHeartbeats 400000 in
theorem num_Mul1 (a b : Int) (w : World) (ha : numCheck a = 0) (hb : numCheck b = 0) :
    Calls Tryz.prog 168 #[.int .i64 a, .int .i64 b] w fun e w' => e = .returned (.int .i64 (mulG a b)) ∧ w = w' := by
  have ha' := numCheck_lo ha
  have hb' := numCheck_lo hb
  clear ha hb
  obtain ⟨a1, a2⟩ := ha'
  obtain ⟨b1, b2⟩ := hb'
  have W : mulOk a b → wrap64 (a * b) = a * b := fun h => IntWalk.wrap64_in _ ⟨by unfold mulOk at h; omega, by unfold mulOk at h; omega⟩
  have HW := Lib.hid W
  clear W
  rcases Int.lt_trichotomy a 0 with h | h | h
  · obtain ⟨q1, q2, q3, q4⟩ := quo_neg a b h
    have H := Lib.hid (And.intro q1 (And.intro q2 (And.intro q3 q4)))
    clear q1 q2 q3 q4
    go_enter Tryz.func168, Tryz.ntmps168
    go_wp2
    all_goals
      obtain ⟨q1, q2, q3, q4⟩ := H.out
      simp only [q1, q2] at *
      go_ret
      refine ⟨ret_int ?_, rfl⟩
      first
        | (rw [mulG, if_neg (by unfold mulOk; omega)])
        | (have ho : mulOk a b := by unfold mulOk; have h0 : (a != 0) = true := (by simp; omega); simp [h0] at *; omega
           rw [mulG, if_pos ho, HW.out ho])
  · subst h
    go_enter Tryz.func168, Tryz.ntmps168
    go_wp2
    go_ret
    exact ⟨ret_int (by simp [mulG, mulOk]), rfl⟩
  · obtain ⟨q1, q3, q4⟩ := quo_pos a b h
    have H := Lib.hid (And.intro q1 (And.intro q3 q4))
    clear q1 q3 q4
    go_enter Tryz.func168, Tryz.ntmps168
    go_wp2
    all_goals
      obtain ⟨q1, q3, q4⟩ := H.out
      simp only [q1] at *
      go_ret
      refine ⟨ret_int ?_, rfl⟩
      first
        | (rw [mulG, if_neg (by unfold mulOk; omega)])
        | (have ho : mulOk a b := by unfold mulOk; have h0 : (a != 0) = true := (by simp; omega); simp [h0] at *; omega
           rw [mulG, if_pos ho, HW.out ho])

theorem cf_sub (args : Array Value) (w : World) : (callFunc 173 args).run Tryz.prog w = .ok (.enter 173 args) w :=
  cf _ _ Tryz.func173 (by kernel_rfl) (by kernel_rfl) args w
theorem cf_mul (args : Array Value) (w : World) : (callFunc 168 args).run Tryz.prog w = .ok (.enter 168 args) w :=
  cf _ _ Tryz.func168 (by kernel_rfl) (by kernel_rfl) args w

set_option maxHeartbeats 400000 in
theorem num_Sub1 (a b : Int) (w : World) (ha : numCheck a = 0) (hb : numCheck b = 0) :
    Calls Tryz.prog 173 #[.int .i64 a, .int .i64 b] w fun e w' => e = .returned (.int .i64 (a - b)) ∧ w = w' := by
  have ha' := numCheck_lo ha
  have hb' := numCheck_lo hb
  clear ha hb
  go_enter Tryz.func173, Tryz.ntmps173
  go_wp2
  go_ret
  exact ⟨rfl, rfl⟩

set_option maxHeartbeats 400000 in
theorem num_Sub (a b : Int) (w : World) :
    Calls Tryz.prog 159 #[.int .i64 a, .int .i64 b] w fun e w' => e = .returned (.tuple #[.int .i64 (numSub a b).1, .int .i64 (numSub a b).2]) ∧ ∃ n, w' = w.drewN n := by
  go_enter Tryz.func159, Tryz.ntmps159
  go_wp2_with (go_at_call 167; refine (num_within 173 (· - ·) a b _ cf_sub (fun ha hb w => (num_Sub1 a b w ha hb).mono fun _ _ h => ⟨h.1, 0, h.2.symm⟩)).mono ?_; rintro e w' ⟨rfl, nq, rfl⟩)
  go_ret2
  exact ⟨rfl, _, rfl⟩

set_option maxHeartbeats 400000 in
theorem num_Mul (a b : Int) (w : World) :
    Calls Tryz.prog 155 #[.int .i64 a, .int .i64 b] w fun e w' => e = .returned (.tuple #[.int .i64 (numMul a b).1, .int .i64 (numMul a b).2]) ∧ ∃ n, w' = w.drewN n := by
  rw [show numMul a b = numGuard a b (numRes (mulG a b)) from by rw [mulG_res]; rfl]
  go_enter Tryz.func155, Tryz.ntmps155
  go_wp2_with (go_at_call 167; refine (num_within 168 mulG a b _ cf_mul (fun ha hb w => (num_Mul1 a b w ha hb).mono fun _ _ h => ⟨h.1, 0, h.2.symm⟩)).mono ?_; rintro e w' ⟨rfl, nq, rfl⟩)
  go_ret2
  exact ⟨rfl, _, rfl⟩

set_option maxHeartbeats 400000 in
theorem num_floor (a b : Int) (w : World) (a1 : -1099511627776 ≤ a) (a2 : a ≤ 1099511627776) (b1 : -1099511627776 ≤ b) (b2 : b ≤ 1099511627776) (h0 : b ≠ 0) :
    Calls Tryz.prog 170 #[.int .i64 a, .int .i64 b] w fun e w' => e = .returned (.tuple #[.int .i64 (Int.fdiv a b), .int .i64 (Int.fmod a b)]) ∧ ∃ n, w' = w.drewN n := by
  have h0' : (b == 0) = false := by simpa using h0
  have t1 := tdiv_bd a b
  have t2 := tmod_bd a b h0
  go_enter Tryz.func170, Tryz.ntmps170
  go_wp2
  go_quiet (fail)
  go_wp2
  · go_ret2
    obtain ⟨e1, e2⟩ := floor_eq a b h0 (.inl ‹_›)
    exact ⟨ret_ii e1.symm (by rw [e2]; exact (by assumption : a.tmod b = 0).symm), _, rfl⟩
  · go_ret2
    have hs : ¬ a.tmod b = 0 := by assumption
    have hx : (a.tmod b != 0) = true ∧ (!decide (a.tmod b < 0) == decide (b < 0)) = true := by assumption
    obtain ⟨e1, e2⟩ := floor_less a b h0 hs hx.2
    exact ⟨ret_ii (by rw [e1]) (by rw [e2]), _, rfl⟩
  · go_ret2
    have hs : ¬ a.tmod b = 0 := by assumption
    have hx : (a.tmod b != 0) = false ∨ (!decide (a.tmod b < 0) == decide (b < 0)) = false := by assumption
    obtain ⟨e1, e2⟩ := floor_eq a b h0 (.inr (by rcases hx with hx | hx; exact absurd (by simpa using hx) hs; simpa using hx))
    exact ⟨ret_ii e1.symm e2.symm, _, rfl⟩

theorem cf_div (args : Array Value) (w : World) : (callFunc 169 args).run Tryz.prog w = .ok (.enter 169 args) w :=
  cf _ _ Tryz.func169 (by kernel_rfl) (by kernel_rfl) args w
theorem cf_mod (args : Array Value) (w : World) : (callFunc 171 args).run Tryz.prog w = .ok (.enter 171 args) w :=
  cf _ _ Tryz.func171 (by kernel_rfl) (by kernel_rfl) args w

set_option maxHeartbeats 400000 in
theorem num_Div1 (a b : Int) (w : World) (ha : numCheck a = 0) (hb : numCheck b = 0) (h0 : b ≠ 0) :
    Calls Tryz.prog 169 #[.int .i64 a, .int .i64 b] w fun e w' => e = .returned (.int .i64 (Int.fdiv a b)) ∧ ∃ n, w' = w.drewN n := by
  obtain ⟨a1, a2⟩ := numCheck_lo ha
  obtain ⟨b1, b2⟩ := numCheck_lo hb
  clear ha hb
  go_enter Tryz.func169, Tryz.ntmps169
  go_wp2_with (go_at_call 170; refine (num_floor a b _ a1 a2 b1 b2 h0).mono ?_; rintro e w' ⟨rfl, nq, rfl⟩)
  go_ret
  exact ⟨rfl, _, rfl⟩
set_option maxHeartbeats 400000 in
theorem num_Mod1 (a b : Int) (w : World) (ha : numCheck a = 0) (hb : numCheck b = 0) (h0 : b ≠ 0) :
    Calls Tryz.prog 171 #[.int .i64 a, .int .i64 b] w fun e w' => e = .returned (.int .i64 (Int.fmod a b)) ∧ ∃ n, w' = w.drewN n := by
  obtain ⟨a1, a2⟩ := numCheck_lo ha
  obtain ⟨b1, b2⟩ := numCheck_lo hb
  clear ha hb
  go_enter Tryz.func171, Tryz.ntmps171
  go_wp2_with (go_at_call 170; refine (num_floor a b _ a1 a2 b1 b2 h0).mono ?_; rintro e w' ⟨rfl, nq, rfl⟩)
  go_ret
  exact ⟨rfl, _, rfl⟩

set_option maxHeartbeats 400000 in
theorem num_Div (a b : Int) (w : World) :
    Calls Tryz.prog 156 #[.int .i64 a, .int .i64 b] w fun e w' => e = .returned (.tuple #[.int .i64 (numDiv a b).1, .int .i64 (numDiv a b).2]) ∧ ∃ n, w' = w.drewN n := by
  by_cases h0 : b = 0
  · subst h0
    by_cases ha : numCheck a = 0
    · go_enter Tryz.func156, Tryz.ntmps156
      go_wp2_with (go_at_call 135; refine (num_Check _ _).mono ?_; rintro e w' ⟨rfl, rfl⟩)
      go_ret2
      exact ⟨ret_ii (by simp [numDiv, ha]) (by simp [numDiv, ha]), 0, rfl⟩
    · have ha' : (numCheck a == 0) = false := by simpa using ha
      go_enter Tryz.func156, Tryz.ntmps156
      go_wp2_with (first | (go_at_call 135; refine (num_Check _ _).mono ?_; rintro e w' ⟨rfl, rfl⟩) | (go_at_call 167; refine (num_within 169 Int.fdiv a 0 _ cf_div (fun x _ _ => absurd x ha)).mono ?_; rintro e w' ⟨rfl, nq, rfl⟩))
      go_ret2
      exact ⟨ret_ii (by simp [numDiv, ha]) (by simp [numDiv, ha]), _, rfl⟩
  · have h0' : (b == 0) = false := by simpa using h0
    go_enter Tryz.func156, Tryz.ntmps156
    go_wp2_with (first | (go_at_call 135; refine (num_Check _ _).mono ?_; rintro e w' ⟨rfl, rfl⟩) | (go_at_call 167; refine (num_within 169 Int.fdiv a b _ cf_div (fun ha hb w => num_Div1 a b w ha hb h0)).mono ?_; rintro e w' ⟨rfl, nq, rfl⟩))
    go_ret2
    exact ⟨ret_ii (by simp [numDiv, h0]) (by simp [numDiv, h0]), _, rfl⟩

set_option maxHeartbeats 400000 in
theorem num_Mod (a b : Int) (w : World) :
    Calls Tryz.prog 157 #[.int .i64 a, .int .i64 b] w fun e w' => e = .returned (.tuple #[.int .i64 (numMod a b).1, .int .i64 (numMod a b).2]) ∧ ∃ n, w' = w.drewN n := by
  by_cases h0 : b = 0
  · subst h0
    by_cases ha : numCheck a = 0
    · go_enter Tryz.func157, Tryz.ntmps157
      go_wp2_with (go_at_call 135; refine (num_Check _ _).mono ?_; rintro e w' ⟨rfl, rfl⟩)
      go_ret2
      exact ⟨ret_ii (by simp [numMod, ha]) (by simp [numMod, ha]), 0, rfl⟩
    · have ha' : (numCheck a == 0) = false := by simpa using ha
      go_enter Tryz.func157, Tryz.ntmps157
      go_wp2_with (first | (go_at_call 135; refine (num_Check _ _).mono ?_; rintro e w' ⟨rfl, rfl⟩) | (go_at_call 167; refine (num_within 171 Int.fmod a 0 _ cf_mod (fun x _ _ => absurd x ha)).mono ?_; rintro e w' ⟨rfl, nq, rfl⟩))
      go_ret2
      exact ⟨ret_ii (by simp [numMod, ha]) (by simp [numMod, ha]), _, rfl⟩
  · have h0' : (b == 0) = false := by simpa using h0
    go_enter Tryz.func157, Tryz.ntmps157
    go_wp2_with (first | (go_at_call 135; refine (num_Check _ _).mono ?_; rintro e w' ⟨rfl, rfl⟩) | (go_at_call 167; refine (num_within 171 Int.fmod a b _ cf_mod (fun ha hb w => num_Mod1 a b w ha hb h0)).mono ?_; rintro e w' ⟨rfl, nq, rfl⟩))
    go_ret2
    exact ⟨ret_ii (by simp [numMod, h0]) (by simp [numMod, h0]), _, rfl⟩

end Go.Proofs.YtgmcojnhpedpnaaGreat
