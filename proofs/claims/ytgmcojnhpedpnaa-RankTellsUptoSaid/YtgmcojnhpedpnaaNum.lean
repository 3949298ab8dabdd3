/- The numbers of package num and of the references: what each function returns. No conditions but those named. -/
import Derived.Test.YtgmcojnhpedpnaaBase
import Derived.Test.YtgmcojnhpedpnaaPlainNum
import Derived.Deep.QuietTactic
import Derived.BigQuiet
namespace Go.Proofs.Ytgmcojnhpedpnaa
open Go.RowKit

def numCheck (n : Int) : Int := if n < -1099511627776 ∨ 1099511627776 < n then 7 else 0
theorem numCheck_lo {n : Int} (h : numCheck n = 0) : -1099511627776 ≤ n ∧ n ≤ 1099511627776 := by
  unfold numCheck at h; split at h <;> omega
theorem numCheck_of {n : Int} (h : -1099511627776 ≤ n) (h' : n ≤ 1099511627776) : numCheck n = 0 := by
  unfold numCheck; rw [if_neg (by omega)]
theorem numCheck_ne {n : Int} (h : ¬ numCheck n = 0) : numCheck n = 7 := by
  unfold numCheck at *; split at h <;> simp_all
def numRes (n : Int) : Int × Int := if numCheck n = 0 then (n, 0) else (0, 7)
def numGuard (a b : Int) (r : Int × Int) : Int × Int := if numCheck a = 0 ∧ numCheck b = 0 then r else (0, 7)
def numAdd (a b : Int) : Int × Int := numGuard a b (numRes (a + b))
def numSub (a b : Int) : Int × Int := numGuard a b (numRes (a - b))
def numMul (a b : Int) : Int × Int := numGuard a b (numRes (a * b))
def numDiv (a b : Int) : Int × Int := if numCheck a = 0 ∧ b = 0 then (0, 8) else numGuard a b (numRes (Int.fdiv a b))
def numMod (a b : Int) : Int × Int := if numCheck a = 0 ∧ b = 0 then (0, 8) else numGuard a b (numRes (Int.fmod a b))

set_option maxHeartbeats 400000 in
theorem num_Check (n : Int) (w : World) :
    Calls Try.prog 99 #[.int .i64 n] w fun e w' => e = .returned (.int .i64 (numCheck n)) ∧ w = w' := by
  go_enter Try.func99, Try.ntmps99
  go_wp2
  all_goals
    go_ret
    exact ⟨ret_int (by simp [numCheck]; try omega), rfl⟩

set_option maxHeartbeats 400000 in
theorem ref_NumFault (n : Int) (w : World) :
    Calls Try.prog 97 #[.int .i64 n] w fun e w' => e = .returned (.int .i64 (numCheck n)) ∧ w = w' := by
  go_enter Try.func97, Try.ntmps97
  go_wp2
  all_goals
    go_ret
    exact ⟨ret_int (by simp [numCheck]; try omega), rfl⟩

theorem cf (f : FuncId) (fn : Func) (h : Try.prog.funcs[f]? = some fn) (h1 : fn.body.isNone = false) (h2 : (fn.name == "runtime.NumGoroutine") = false) (args : Array Value) (w : World) :
    (callFunc f args).run Try.prog w = .ok (.enter f args) w := by
  have hp : (program : Sem Program) = .program .pure := rfl
  unfold callFunc
  simp only [Sem.run_bind, hp, Sem.run, Result.andThen, h, h1, h2]
  rfl

theorem tdiv_pos (a : Int) (h : 0 < a) : Int.tdiv 1099511627776 a = 1099511627776 / a ∧ 0 ≤ (1099511627776 : Int) / a ∧ (1099511627776 : Int) / a ≤ 1099511627776 := by
  refine ⟨Int.tdiv_eq_ediv_of_nonneg (by decide), Int.ediv_nonneg (by decide) (by omega), ?_⟩
  exact Int.ediv_le_self _ (by decide)
def mulOk (a b : Int) : Prop := -1099511627776 ≤ a * b ∧ a * b ≤ 1099511627776
instance (a b : Int) : Decidable (mulOk a b) := by unfold mulOk; infer_instance
def mulG (a b : Int) : Int := if mulOk a b then a * b else 1099511627777
theorem mulG_res (a b : Int) : numRes (mulG a b) = numRes (a * b) := by
  unfold mulG
  split
  · rfl
  · rename_i h
    unfold mulOk at h
    have h1 : ¬ numCheck (a * b) = 0 := fun e => by have := numCheck_lo e; omega
    rw [numRes, numRes, if_neg h1, if_neg (by decide)]
/-- the two quotients, by the sign of a -/
theorem quo_pos (a b : Int) (h : 0 < a) : wrap64 (-Int.tdiv 1099511627776 a) = -(1099511627776 / a) ∧ (b ≤ 1099511627776 / a ↔ a * b ≤ 1099511627776) ∧ (-(1099511627776 / a) ≤ b ↔ -1099511627776 ≤ a * b) := by
  obtain ⟨e, l, u⟩ := tdiv_pos a h
  have hb : b ≤ 1099511627776 / a ↔ b * a ≤ 1099511627776 := Int.le_ediv_iff_mul_le h
  have hb' : -b ≤ 1099511627776 / a ↔ -b * a ≤ 1099511627776 := Int.le_ediv_iff_mul_le h
  rw [Int.neg_mul] at hb'
  rw [Int.mul_comm a b]
  refine ⟨by rw [e]; exact IntWalk.wrap64_in _ ⟨by omega, by omega⟩, hb, by omega⟩
theorem quo_neg (a b : Int) (h : a < 0) : wrap64 (-Int.tdiv 1099511627776 a) = 1099511627776 / (-a) ∧ wrap64 (Int.tdiv 1099511627776 a) = -(1099511627776 / (-a)) ∧ (b ≤ 1099511627776 / (-a) ↔ -1099511627776 ≤ a * b) ∧ (-(1099511627776 / (-a)) ≤ b ↔ a * b ≤ 1099511627776) := by
  obtain ⟨e, l, u⟩ := tdiv_pos (-a) (by omega)
  rw [Int.tdiv_neg] at e
  obtain ⟨-, hb, hb'⟩ := quo_pos (-a) b (by omega)
  rw [Int.neg_mul] at hb hb'
  have e' : Int.tdiv 1099511627776 a = -(1099511627776 / (-a)) := by omega
  refine ⟨by rw [e]; exact IntWalk.wrap64_in _ ⟨by omega, by omega⟩, by rw [e']; exact IntWalk.wrap64_in _ ⟨by omega, by omega⟩, by omega, by omega⟩

end Go.Proofs.Ytgmcojnhpedpnaa
