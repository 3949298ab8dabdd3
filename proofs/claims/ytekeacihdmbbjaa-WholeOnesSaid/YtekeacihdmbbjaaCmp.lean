/- cmp.Compare and cmp.Or of Go's library, at int and string. -/
import Derived.Test.YtekeacihdmbbjaaTypes
namespace Go.Proofs.Ytekeacihdmbbjaa
open Go.RowKit

def cmpI (a b : Int) : Int := if a < b then -1 else if b < a then 1 else 0
set_option maxHeartbeats 400000 in
theorem cmp_isNaN_int (a : Int) (w : World) : Calls Try.prog 181 #[.int .i64 a] w fun e w' => e = .returned (.bool false) ∧ w = w' := by
  go_enter Try.func181, Try.ntmps181
  go_wp2
  go_ret
  exact ⟨rfl, rfl⟩
set_option maxHeartbeats 400000 in
theorem cmp_isNaN_str (a : ByteArray) (w : World) : Calls Try.prog 182 #[.string a] w fun e w' => e = .returned (.bool false) ∧ w = w' := by
  go_enter Try.func182, Try.ntmps182
  go_wp2
  go_ret
  exact ⟨rfl, rfl⟩
set_option maxHeartbeats 400000 in
theorem cmp_Compare_int (a b : Int) (w : World) : Calls Try.prog 161 #[.int .i64 a, .int .i64 b] w fun e w' => e = .returned (.int .i64 (cmpI a b)) ∧ w = w' := by
  go_enter Try.func161, Try.ntmps161
  go_wp2_with (go_at_call 181; refine (cmp_isNaN_int _ _).mono ?_; rintro e w' ⟨rfl, rfl⟩)
  all_goals
    go_ret
    exact ⟨ret_int (by simp [cmpI]; try omega), rfl⟩
def cmpS (a b : ByteArray) : Int := if Op.bytesLess a.toList b.toList = true then -1 else if a.toList = b.toList then 0 else 1
set_option maxHeartbeats 400000 in
theorem cmp_Compare_str (a b : ByteArray) (w : World) : Calls Try.prog 162 #[.string a, .string b] w fun e w' => e = .returned (.int .i64 (cmpS a b)) ∧ w = w' := by
  go_enter Try.func162, Try.ntmps162
  go_wp2_with (go_at_call 182; refine (cmp_isNaN_str _ _).mono ?_; rintro e w' ⟨rfl, rfl⟩)
  all_goals
    go_ret
    exact ⟨ret_int (by simp_all [cmpS]), rfl⟩
def or2 (x y : Int) : Int := if x = 0 then y else x
set_option maxHeartbeats 1000000 in
theorem cmp_Or2 (g : Nat) (x y : Int) (w : World) (h0 : w.cell? ⟨g, 0, none⟩ = some (.int .i64 x)) (h1 : w.cell? ⟨g, 1, none⟩ = some (.int .i64 y)) :
    Calls Try.prog 160 #[.slice (some ⟨g, 0, none⟩) 2 2] w fun e w' => e = .returned (.int .i64 (or2 x y)) ∧ w = w' := by
  go_enter Try.func160, Try.ntmps160
  go_wp2
  go_loop [8] (fun i => ∃ k : Nat, k ≤ 2 ∧ i = .int .i64 k ∧ (1 ≤ k → x = 0) ∧ (2 ≤ k → y = 0)) (fun i => 2 - (intOf i).toNat)
  case atStart => exact ⟨0, by omega, rfl, fun h => absurd h (by omega), fun h => absurd h (by omega)⟩
  case round =>
    obtain ⟨k, hk, rfl, q1, q2⟩ := hrel
    rcases (by omega : k = 0 ∨ k = 1 ∨ k = 2) with rfl | rfl | rfl
    · clear q1 q2
      by_cases hx : x = 0
      · subst hx
        go_wp2
        go_round
        case rel => exact ⟨1, by omega, rfl, fun _ => (by simp), fun h => absurd h (by omega)⟩
        case measure => simp [intOf]
      · have hx' : (x != 0) = true := by simpa using hx
        go_wp2
        go_ret
        exact ⟨ret_int (by simp [or2, hx]), rfl⟩
    · have hx := q1 (by omega)
      clear q1 q2
      subst hx
      by_cases hy : y = 0
      · subst hy
        go_wp2
        go_round
        case rel => exact ⟨2, by omega, rfl, fun _ => (by simp), fun _ => (by simp)⟩
        case measure => simp [intOf]
      · have hy' : (y != 0) = true := by simpa using hy
        go_wp2
        go_ret
        exact ⟨ret_int (by simp [or2]), rfl⟩
    · have hx := q1 (by omega)
      have hy := q2 (by omega)
      clear q1 q2
      subst hx; subst hy
      go_wp2
      go_ret
      exact ⟨ret_int (by simp [or2]), rfl⟩
end Go.Proofs.Ytekeacihdmbbjaa
