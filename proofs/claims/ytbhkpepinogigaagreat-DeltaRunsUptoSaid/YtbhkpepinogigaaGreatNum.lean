/- Texts merged: PlainNum Num. -/
import Derived.Test.YtbhkpepinogigaaGreatTypes
import Derived.Deep.QuietTactic
import Derived.BigQuiet
/- Plain facts on the division of integers. -/
namespace Go.Proofs.YtbhkpepinogigaaGreat
theorem tdiv_bd (a b:Int):(a.tdiv b).natAbs ≤ a.natAbs:=by
 rw [Int.natAbs_tdiv];exact Nat.div_le_self _ _
theorem tmod_bd (a b:Int) (h:b ≠ 0):(a.tmod b).natAbs < b.natAbs:=by
 rw [Int.natAbs_tmod];exact Nat.mod_lt _ (by omega)
theorem tmod_sign (a b:Int):(0 ≤ a → 0 ≤ a.tmod b) ∧ (a ≤ 0 → a.tmod b ≤ 0):=by
 refine ⟨fun h => Int.tmod_nonneg _ h,fun h => ?_⟩
 have:=Int.tmod_nonneg (a:=-a) b (by omega)
 rw [Int.neg_tmod] at this
 omega
theorem floor_eq (a b:Int) (h:b ≠ 0) (h1:a.tmod b = 0 ∨ (decide (a.tmod b < 0) == decide (b < 0)) = true):a.fdiv b = a.tdiv b ∧ a.fmod b = a.tmod b:=by
 have hs:=tmod_sign a b
 have hd:=@Int.dvd_iff_tmod_eq_zero b a
 have hsg:(0 < b → b.sign = 1) ∧ (b < 0 → b.sign = -1):=⟨Int.sign_eq_one_of_pos,Int.sign_eq_neg_one_of_neg⟩
 rw [Int.fdiv_eq_tdiv,Int.fmod_eq_tmod]
 by_cases hv:b ∣ a
 ·simp [hv]
 ·have hn:a.tmod b ≠ 0:=fun e => hv (hd.2 e)
  have h1':(a.tmod b < 0 ↔ b < 0):=by rcases h1 with h1 | h1;exact absurd h1 hn;simpa using h1
  simp only [hv,if_false]
  have hb:=Int.lt_or_gt_of_ne h
  rcases hb with hb | hb <;> by_cases ha:0 ≤ a <;> simp only [ha,if_true,if_false]
  ·omega
  ·have:¬ (0 ≤ b):=by omega
   simp only [this,if_false,hsg.2 hb];omega
  ·have:(0 ≤ b):=by omega
   simp only [this,if_true];omega
  ·omega
theorem floor_less (a b:Int) (h:b ≠ 0) (h0:¬ a.tmod b = 0) (h1:(!decide (a.tmod b < 0) == decide (b < 0)) = true):a.fdiv b = a.tdiv b - 1 ∧ a.fmod b = a.tmod b + b:=by
 have hs:=tmod_sign a b
 have hd:=@Int.dvd_iff_tmod_eq_zero b a
 have hsg:(0 < b → b.sign = 1) ∧ (b < 0 → b.sign = -1):=⟨Int.sign_eq_one_of_pos,Int.sign_eq_neg_one_of_neg⟩
 have h1':¬ (a.tmod b < 0 ↔ b < 0):=by
  by_cases x:a.tmod b < 0 <;> by_cases y:b < 0 <;> simp [x,y] at h1 ⊢
 have hv:¬ b ∣ a:=fun e => h0 (hd.1 e)
 rw [Int.fdiv_eq_tdiv,Int.fmod_eq_tmod]
 simp only [hv,if_false]
 have hb:=Int.lt_or_gt_of_ne h
 rcases hb with hb | hb <;> by_cases ha:0 ≤ a <;> simp only [ha,if_true,if_false]
 ·have:¬ (0 ≤ b):=by omega
  simp [this]
 ·omega
 ·omega
 ·have:(0 ≤ b):=by omega
  simp [this,hsg.1 hb];try omega
theorem mul_same (a b:Int) (h:(!decide (a < 0) == decide (b < 0)) = false):a * b = (a.natAbs:Int) * (b.natAbs:Int):=by
 have h':(a < 0 ↔ b < 0):=by simpa using h
 rcases (by omega:a < 0 ∨ 0 ≤ a) with ha | ha
 ·have hb:=h'.1 ha
  rw [show (a.natAbs:Int) = -a by omega,show (b.natAbs:Int) = -b by omega,Int.neg_mul_neg]
 ·have hb:¬ b < 0:=fun e => by have:=h'.2 e;omega
  rw [show (a.natAbs:Int) = a by omega,show (b.natAbs:Int) = b by omega]
theorem mul_other (a b:Int) (h:(!decide (a < 0) == decide (b < 0)) = true):a * b = -((a.natAbs:Int) * (b.natAbs:Int)):=by
 have h':¬ (a < 0 ↔ b < 0):=by
  by_cases x:a < 0 <;> by_cases y:b < 0 <;> simp [x,y] at h ⊢
 rcases (by omega:a < 0 ∨ 0 ≤ a) with ha | ha
 ·have hb:¬ b < 0:=fun e => h' ⟨fun _ => e,fun _ => ha⟩
  rw [show (a.natAbs:Int) = -a by omega,show (b.natAbs:Int) = b by omega,Int.neg_mul,Int.neg_neg]
 ·have hb:b < 0:=by
   rcases (by omega:b < 0 ∨ 0 ≤ b) with e | e
   ·exact e
   ·exact absurd ⟨fun x => by omega,fun x => by omega⟩ h'
  rw [show (a.natAbs:Int) = a by omega,show (b.natAbs:Int) = -b by omega,Int.mul_neg,Int.neg_neg]
theorem mul_abs (a b:Int):a * b = (a.natAbs:Int) * (b.natAbs:Int) ∨ a * b = -((a.natAbs:Int) * (b.natAbs:Int)):=by
 cases h:(!decide (a < 0) == decide (b < 0))
 ·exact .inl (mul_same a b h)
 ·exact .inr (mul_other a b h)
theorem fdiv_of (a b:Int) (h:b ≠ 0):a.tdiv b = a.fdiv b ∨ a.tdiv b = a.fdiv b + 1:=by
 by_cases h0:a.tmod b = 0
 ·exact .inl (floor_eq a b h (.inl h0)).1.symm
 ·cases h1:(decide (a.tmod b < 0) == decide (b < 0))
  ·have:=(floor_less a b h h0 (by simp [h1])).1
   omega
  ·exact .inl (floor_eq a b h (.inr h1)).1.symm
theorem fmod_bd (a b:Int):(0 < b → 0 ≤ a.fmod b ∧ a.fmod b < b) ∧ (b < 0 → a.fmod b ≤ 0 ∧ b < a.fmod b):=by
 refine ⟨fun h => ⟨?_,Int.fmod_lt_of_pos a h⟩,fun h => ?_⟩
 ·rw [Int.fmod_eq_emod_of_nonneg _ (by omega)];exact Int.emod_nonneg _ (by omega)
 ·have h1:a.fmod b = -((-a).fmod (-b)):=by rw [Int.neg_fmod_neg,Int.neg_neg]
  have h2:0 ≤ (-a).fmod (-b):=by rw [Int.fmod_eq_emod_of_nonneg _ (by omega)];exact Int.emod_nonneg _ (by omega)
  have h3:=Int.fmod_lt_of_pos (-a) (b:=-b) (by omega)
  omega
theorem div_at (a b:Int):(0 < b → a.fdiv b * b ≤ a ∧ a < a.fdiv b * b + b) ∧ (b < 0 → a ≤ a.fdiv b * b ∧ a.fdiv b * b + b < a):=by
 have h:=Int.mul_fdiv_add_fmod a b
 rw [Int.mul_comm] at h
 have:=fmod_bd a b
 constructor <;> intro hb <;> omega
theorem div_up (a b v:Int) (hv:v = a.fdiv b + 1):(0 < b → a < v * b ∧ v * b ≤ a + b) ∧ (b < 0 → v * b < a ∧ a + b ≤ v * b):=by
 have h:=div_at a b
 have e:v * b = a.fdiv b * b + b:=by rw [hv,Int.add_mul,Int.one_mul]
 constructor <;> intro hb <;> omega
theorem mod_of (a b:Int):a - a.fdiv b * b = a.fmod b:=by
 have h:=Int.mul_fdiv_add_fmod a b
 rw [Int.mul_comm] at h
 omega
theorem fdiv_bd (a b:Int) (h:b ≠ 0) (h1:-1099511627776 ≤ a) (h2:a ≤ 1099511627776):-1099511627777 ≤ a.fdiv b ∧ a.fdiv b ≤ 1099511627776:=by
 have:=fdiv_of a b h
 have:=tdiv_bd a b
 omega
theorem fdiv_in (a b:Int) (h1:-1099511627776 ≤ a) (h2:a ≤ 1099511627776):-1099511627776 ≤ a.fdiv b:=by
 by_cases h:b = 0
 ·subst h;simp
 by_cases h0:a.tmod b = 0
 ·have:=(floor_eq a b h (.inl h0)).1;have:=tdiv_bd a b;omega
 ·cases h1:(decide (a.tmod b < 0) == decide (b < 0))
  ·have e:=(floor_less a b h h0 (by simp [h1])).1
   have hb:(a.tdiv b).natAbs < a.natAbs ∨ b = 1 ∨ b = -1:=by
    by_cases hb:b.natAbs ≤ 1
    ·omega
    ·rw [Int.natAbs_tdiv]
     by_cases ha:a.natAbs = 0
     ·have:a = 0:=by omega
      subst this;simp at h0
     ·exact .inl (Nat.div_lt_self (by omega) (by omega))
   rcases hb with hb | rfl | rfl
   ·omega
   ·simp at h0
   ·simp at h0
  ·have:=(floor_eq a b h (.inr h1)).1;have:=tdiv_bd a b;omega
end Go.Proofs.YtbhkpepinogigaaGreat
/- The numbers of package num and of the references: what each function returns. No conditions but those named. -/
namespace Go.Proofs.YtbhkpepinogigaaGreat
open Go.RowKit

def numCheck (n:Int):Int:=if n < -1099511627776 ∨ 1099511627776 < n then 7 else 0
theorem numCheck_lo {n:Int} (h:numCheck n = 0):-1099511627776 ≤ n ∧ n ≤ 1099511627776:=by
 unfold numCheck at h;split at h <;> omega
theorem numCheck_of {n:Int} (h:-1099511627776 ≤ n) (h':n ≤ 1099511627776):numCheck n = 0:=by
 unfold numCheck;rw [if_neg (by omega)]
theorem numCheck_ne {n:Int} (h:¬ numCheck n = 0):numCheck n = 7:=by
 unfold numCheck at *;split at h <;> simp_all
def numRes (n:Int):Int × Int:=if numCheck n = 0 then (n,0) else (0,7)
def numGuard (a b:Int) (r:Int × Int):Int × Int:=if numCheck a = 0 ∧ numCheck b = 0 then r else (0,7)
def numAdd (a b:Int):Int × Int:=numGuard a b (numRes (a + b))
def numSub (a b:Int):Int × Int:=numGuard a b (numRes (a - b))
def numMul (a b:Int):Int × Int:=numGuard a b (numRes (a * b))
def numDiv (a b:Int):Int × Int:=if numCheck a = 0 ∧ b = 0 then (0,8) else numGuard a b (numRes (Int.fdiv a b))
def numMod (a b:Int):Int × Int:=if numCheck a = 0 ∧ b = 0 then (0,8) else numGuard a b (numRes (Int.fmod a b))

set_option maxHeartbeats 400000 in
theorem num_Check (n:Int) (w:World) :
  Calls Tryz.prog 130 #[.int .i64 n] w fun e w' => e = .returned (.int .i64 (numCheck n)) ∧ w = w':=by
 go_enter Tryz.func130,Tryz.ntmps130
 go_wp2
 all_goals
  go_ret
  exact ⟨ret_int (by simp [numCheck];try omega),rfl⟩

set_option maxHeartbeats 400000 in
theorem ref_NumFault (n:Int) (w:World) :
  Calls Tryz.prog 133 #[.int .i64 n] w fun e w' => e = .returned (.int .i64 (numCheck n)) ∧ w = w':=by
 go_enter Tryz.func133,Tryz.ntmps133
 go_wp2
 all_goals
  go_ret
  exact ⟨ret_int (by simp [numCheck];try omega),rfl⟩

set_option maxHeartbeats 400000 in
theorem num_within (f:FuncId) (g:Int → Int → Int) (a b:Int) (w:World) (hcf:∀ args w,(callFunc f args).run Tryz.prog w = .ok (.enter f args) w) (hf:numCheck a = 0 → numCheck b = 0 → ∀ w,Calls Tryz.prog f #[.int .i64 a,.int .i64 b] w fun e w' => e = .returned (.int .i64 (g a b)) ∧ ∃ n,w' = w.drewN n) :
  Calls Tryz.prog 260 #[.int .i64 a,.int .i64 b,.func (.func f) #[] #[]] w fun e w' => e = .returned (.tuple #[.int .i64 (numGuard a b (numRes (g a b))).1,.int .i64 (numGuard a b (numRes (g a b))).2]) ∧ ∃ n,w' = w.drewN n:=by
 by_cases ha:numCheck a = 0
 ·by_cases hb:numCheck b = 0
  ·have HF:=Lib.hid (hf ha hb)
   clear hf
   go_enter Tryz.func260,Tryz.ntmps260
   go_wp2_with (first | (go_at_call 130;refine (num_Check _ _).mono ?_;rintro e w' ⟨rfl,rfl⟩) | (refine (HF.out _).mono ?_;rintro e w' ⟨rfl,nq,rfl⟩))
   all_goals
    go_ret2
    exact ⟨ret_ii (by simp_all [numGuard,numRes]) (by simp_all [numGuard,numRes,numCheck_ne]),_,rfl⟩
  ·clear hf
   have hb':(numCheck b != 0) = true:=by simpa using hb
   go_enter Tryz.func260,Tryz.ntmps260
   go_wp2_with (first | (go_at_call 130;refine (num_Check _ _).mono ?_;rintro e w' ⟨rfl,rfl⟩))
   go_ret2
   exact ⟨ret_ii (by simp_all [numGuard]) (by simp_all [numGuard]),0,rfl⟩
 ·clear hf
  have ha':(numCheck a != 0) = true:=by simpa using ha
  go_enter Tryz.func260,Tryz.ntmps260
  go_wp2_with (first | (go_at_call 130;refine (num_Check _ _).mono ?_;rintro e w' ⟨rfl,rfl⟩))
  all_goals
   go_ret2
   exact ⟨ret_ii (by simp_all [numGuard]) (by simp_all [numGuard]),0,rfl⟩

theorem cf (f : FuncId) (fn : Func) (h : Tryz.prog.funcs[f]? = some fn) (h1 : fn.body.isNone = false) (h2 : (fn.name == "runtime.NumGoroutine") = false) (args : Array Value) (w : World) :
  (callFunc f args).run Tryz.prog w = .ok (.enter f args) w:=by
 have hp:(program:Sem Program) = .program .pure:=rfl
 unfold callFunc
 simp only [Sem.run_bind,hp,Sem.run,Result.andThen,h,h1,h2]
 rfl

theorem cf_add (args:Array Value) (w:World):(callFunc 265 args).run Tryz.prog w = .ok (.enter 265 args) w :=
 cf _ _ Tryz.func265 (by kernel_rfl) (by kernel_rfl) args w

set_option maxHeartbeats 400000 in
theorem num_Add1 (a b:Int) (w:World) (ha:numCheck a = 0) (hb:numCheck b = 0) :
  Calls Tryz.prog 265 #[.int .i64 a,.int .i64 b] w fun e w' => e = .returned (.int .i64 (a + b)) ∧ w = w':=by
 have ha':=numCheck_lo ha
 have hb':=numCheck_lo hb
 clear ha hb
 go_enter Tryz.func265,Tryz.ntmps265
 go_wp2
 go_ret
 exact ⟨rfl,rfl⟩

set_option maxHeartbeats 400000 in
theorem num_Add (a b:Int) (w:World) :
  Calls Tryz.prog 243 #[.int .i64 a,.int .i64 b] w fun e w' => e = .returned (.tuple #[.int .i64 (numAdd a b).1,.int .i64 (numAdd a b).2]) ∧ ∃ n,w' = w.drewN n:=by
 go_enter Tryz.func243,Tryz.ntmps243
 go_wp2_with (go_at_call 260;refine (num_within 265 (· + ·) a b _ cf_add (fun ha hb w => (num_Add1 a b w ha hb).mono fun _ _ h => ⟨h.1,0,h.2.symm⟩)).mono ?_;rintro e w' ⟨rfl,nq,rfl⟩)
 go_ret2
 exact ⟨rfl,_,rfl⟩


theorem tdiv_pos (a:Int) (h:0 < a):Int.tdiv 1099511627776 a = 1099511627776 / a ∧ 0 ≤ (1099511627776:Int) / a ∧ (1099511627776:Int) / a ≤ 1099511627776:=by
 refine ⟨Int.tdiv_eq_ediv_of_nonneg (by decide),Int.ediv_nonneg (by decide) (by omega),?_⟩
 exact Int.ediv_le_self _ (by decide)
def mulOk (a b:Int):Prop:=-1099511627776 ≤ a * b ∧ a * b ≤ 1099511627776
instance (a b:Int):Decidable (mulOk a b):=by unfold mulOk;infer_instance
def mulG (a b:Int):Int:=if mulOk a b then a * b else 1099511627777
theorem mulG_res (a b:Int):numRes (mulG a b) = numRes (a * b):=by
 unfold mulG
 split
 ·rfl
 ·rename_i h
  unfold mulOk at h
  have h1:¬ numCheck (a * b) = 0:=fun e => by have:=numCheck_lo e;omega
  rw [numRes,numRes,if_neg h1,if_neg (by decide)]
theorem quo_pos (a b:Int) (h:0 < a):wrap64 (-Int.tdiv 1099511627776 a) = -(1099511627776 / a) ∧ (b ≤ 1099511627776 / a ↔ a * b ≤ 1099511627776) ∧ (-(1099511627776 / a) ≤ b ↔ -1099511627776 ≤ a * b):=by
 obtain ⟨e,l,u⟩:=tdiv_pos a h
 have hb:b ≤ 1099511627776 / a ↔ b * a ≤ 1099511627776:=Int.le_ediv_iff_mul_le h
 have hb':-b ≤ 1099511627776 / a ↔ -b * a ≤ 1099511627776:=Int.le_ediv_iff_mul_le h
 rw [Int.neg_mul] at hb'
 rw [Int.mul_comm a b]
 refine ⟨by rw [e];exact IntWalk.wrap64_in _ ⟨by omega,by omega⟩,hb,by omega⟩
theorem quo_neg (a b:Int) (h:a < 0):wrap64 (-Int.tdiv 1099511627776 a) = 1099511627776 / (-a) ∧ wrap64 (Int.tdiv 1099511627776 a) = -(1099511627776 / (-a)) ∧ (b ≤ 1099511627776 / (-a) ↔ -1099511627776 ≤ a * b) ∧ (-(1099511627776 / (-a)) ≤ b ↔ a * b ≤ 1099511627776):=by
 obtain ⟨e,l,u⟩:=tdiv_pos (-a) (by omega)
 rw [Int.tdiv_neg] at e
 obtain ⟨-,hb,hb'⟩:=quo_pos (-a) b (by omega)
 rw [Int.neg_mul] at hb hb'
 have e':Int.tdiv 1099511627776 a = -(1099511627776 / (-a)):=by omega
 refine ⟨by rw [e];exact IntWalk.wrap64_in _ ⟨by omega,by omega⟩,by rw [e'];exact IntWalk.wrap64_in _ ⟨by omega,by omega⟩,by omega,by omega⟩

set_option maxHeartbeats 400000 in
theorem num_Mul1 (a b:Int) (w:World) (ha:numCheck a = 0) (hb:numCheck b = 0) :
  Calls Tryz.prog 261 #[.int .i64 a,.int .i64 b] w fun e w' => e = .returned (.int .i64 (mulG a b)) ∧ w = w':=by
 have ha':=numCheck_lo ha
 have hb':=numCheck_lo hb
 clear ha hb
 obtain ⟨a1,a2⟩:=ha'
 obtain ⟨b1,b2⟩:=hb'
 have W:mulOk a b → wrap64 (a * b) = a * b:=fun h => IntWalk.wrap64_in _ ⟨by unfold mulOk at h;omega,by unfold mulOk at h;omega⟩
 have HW:=Lib.hid W
 clear W
 rcases Int.lt_trichotomy a 0 with h | h | h
 ·obtain ⟨q1,q2,q3,q4⟩:=quo_neg a b h
  have H:=Lib.hid (And.intro q1 (And.intro q2 (And.intro q3 q4)))
  clear q1 q2 q3 q4
  go_enter Tryz.func261,Tryz.ntmps261
  go_wp2
  all_goals
   obtain ⟨q1,q2,q3,q4⟩:=H.out
   simp only [q1,q2] at *
   go_ret
   refine ⟨ret_int ?_,rfl⟩
   first
    | (rw [mulG,if_neg (by unfold mulOk;omega)])
    |
     have ho:mulOk a b:=by unfold mulOk;have h0:(a != 0) = true:=(by simp;omega);simp [h0] at *;omega
     rw [mulG,if_pos ho,HW.out ho]
 ·subst h
  go_enter Tryz.func261,Tryz.ntmps261
  go_wp2
  go_ret
  exact ⟨ret_int (by simp [mulG,mulOk]),rfl⟩
 ·obtain ⟨q1,q3,q4⟩:=quo_pos a b h
  have H:=Lib.hid (And.intro q1 (And.intro q3 q4))
  clear q1 q3 q4
  go_enter Tryz.func261,Tryz.ntmps261
  go_wp2
  all_goals
   obtain ⟨q1,q3,q4⟩:=H.out
   simp only [q1] at *
   go_ret
   refine ⟨ret_int ?_,rfl⟩
   first
    | (rw [mulG,if_neg (by unfold mulOk;omega)])
    |
     have ho:mulOk a b:=by unfold mulOk;have h0:(a != 0) = true:=(by simp;omega);simp [h0] at *;omega
     rw [mulG,if_pos ho,HW.out ho]

theorem cf_sub (args:Array Value) (w:World):(callFunc 266 args).run Tryz.prog w = .ok (.enter 266 args) w :=
 cf _ _ Tryz.func266 (by kernel_rfl) (by kernel_rfl) args w
theorem cf_mul (args:Array Value) (w:World):(callFunc 261 args).run Tryz.prog w = .ok (.enter 261 args) w :=
 cf _ _ Tryz.func261 (by kernel_rfl) (by kernel_rfl) args w

set_option maxHeartbeats 400000 in
theorem num_Sub1 (a b:Int) (w:World) (ha:numCheck a = 0) (hb:numCheck b = 0) :
  Calls Tryz.prog 266 #[.int .i64 a,.int .i64 b] w fun e w' => e = .returned (.int .i64 (a - b)) ∧ w = w':=by
 have ha':=numCheck_lo ha
 have hb':=numCheck_lo hb
 clear ha hb
 go_enter Tryz.func266,Tryz.ntmps266
 go_wp2
 go_ret
 exact ⟨rfl,rfl⟩

set_option maxHeartbeats 400000 in
theorem num_Sub (a b:Int) (w:World) :
  Calls Tryz.prog 244 #[.int .i64 a,.int .i64 b] w fun e w' => e = .returned (.tuple #[.int .i64 (numSub a b).1,.int .i64 (numSub a b).2]) ∧ ∃ n,w' = w.drewN n:=by
 go_enter Tryz.func244,Tryz.ntmps244
 go_wp2_with (go_at_call 260;refine (num_within 266 (· - ·) a b _ cf_sub (fun ha hb w => (num_Sub1 a b w ha hb).mono fun _ _ h => ⟨h.1,0,h.2.symm⟩)).mono ?_;rintro e w' ⟨rfl,nq,rfl⟩)
 go_ret2
 exact ⟨rfl,_,rfl⟩

set_option maxHeartbeats 400000 in
theorem num_Mul (a b:Int) (w:World) :
  Calls Tryz.prog 240 #[.int .i64 a,.int .i64 b] w fun e w' => e = .returned (.tuple #[.int .i64 (numMul a b).1,.int .i64 (numMul a b).2]) ∧ ∃ n,w' = w.drewN n:=by
 rw [show numMul a b = numGuard a b (numRes (mulG a b)) from by rw [mulG_res];rfl]
 go_enter Tryz.func240,Tryz.ntmps240
 go_wp2_with (go_at_call 260;refine (num_within 261 mulG a b _ cf_mul (fun ha hb w => (num_Mul1 a b w ha hb).mono fun _ _ h => ⟨h.1,0,h.2.symm⟩)).mono ?_;rintro e w' ⟨rfl,nq,rfl⟩)
 go_ret2
 exact ⟨rfl,_,rfl⟩

set_option maxHeartbeats 400000 in
theorem num_floor (a b:Int) (w:World) (a1:-1099511627776 ≤ a) (a2:a ≤ 1099511627776) (b1:-1099511627776 ≤ b) (b2:b ≤ 1099511627776) (h0:b ≠ 0) :
  Calls Tryz.prog 263 #[.int .i64 a,.int .i64 b] w fun e w' => e = .returned (.tuple #[.int .i64 (Int.fdiv a b),.int .i64 (Int.fmod a b)]) ∧ ∃ n,w' = w.drewN n:=by
 have h0':(b == 0) = false:=by simpa using h0
 have t1:=tdiv_bd a b
 have t2:=tmod_bd a b h0
 go_enter Tryz.func263,Tryz.ntmps263
 go_wp2
 go_quiet (fail)
 go_wp2
 ·go_ret2
  obtain ⟨e1,e2⟩:=floor_eq a b h0 (.inl ‹_›)
  exact ⟨ret_ii e1.symm (by rw [e2];exact (by assumption:a.tmod b = 0).symm),_,rfl⟩
 ·go_ret2
  have hs:¬ a.tmod b = 0:=by assumption
  have hx:(a.tmod b != 0) = true ∧ (!decide (a.tmod b < 0) == decide (b < 0)) = true:=by assumption
  obtain ⟨e1,e2⟩:=floor_less a b h0 hs hx.2
  exact ⟨ret_ii (by rw [e1]) (by rw [e2]),_,rfl⟩
 ·go_ret2
  have hs:¬ a.tmod b = 0:=by assumption
  have hx:(a.tmod b != 0) = false ∨ (!decide (a.tmod b < 0) == decide (b < 0)) = false:=by assumption
  obtain ⟨e1,e2⟩:=floor_eq a b h0 (.inr (by rcases hx with hx | hx;exact absurd (by simpa using hx) hs;simpa using hx))
  exact ⟨ret_ii e1.symm e2.symm,_,rfl⟩

theorem cf_div (args:Array Value) (w:World):(callFunc 262 args).run Tryz.prog w = .ok (.enter 262 args) w :=
 cf _ _ Tryz.func262 (by kernel_rfl) (by kernel_rfl) args w
theorem cf_mod (args:Array Value) (w:World):(callFunc 264 args).run Tryz.prog w = .ok (.enter 264 args) w :=
 cf _ _ Tryz.func264 (by kernel_rfl) (by kernel_rfl) args w

set_option maxHeartbeats 400000 in
theorem num_Div1 (a b:Int) (w:World) (ha:numCheck a = 0) (hb:numCheck b = 0) (h0:b ≠ 0) :
  Calls Tryz.prog 262 #[.int .i64 a,.int .i64 b] w fun e w' => e = .returned (.int .i64 (Int.fdiv a b)) ∧ ∃ n,w' = w.drewN n:=by
 obtain ⟨a1,a2⟩:=numCheck_lo ha
 obtain ⟨b1,b2⟩:=numCheck_lo hb
 clear ha hb
 go_enter Tryz.func262,Tryz.ntmps262
 go_wp2_with (go_at_call 263;refine (num_floor a b _ a1 a2 b1 b2 h0).mono ?_;rintro e w' ⟨rfl,nq,rfl⟩)
 go_ret
 exact ⟨rfl,_,rfl⟩
set_option maxHeartbeats 400000 in
theorem num_Mod1 (a b:Int) (w:World) (ha:numCheck a = 0) (hb:numCheck b = 0) (h0:b ≠ 0) :
  Calls Tryz.prog 264 #[.int .i64 a,.int .i64 b] w fun e w' => e = .returned (.int .i64 (Int.fmod a b)) ∧ ∃ n,w' = w.drewN n:=by
 obtain ⟨a1,a2⟩:=numCheck_lo ha
 obtain ⟨b1,b2⟩:=numCheck_lo hb
 clear ha hb
 go_enter Tryz.func264,Tryz.ntmps264
 go_wp2_with (go_at_call 263;refine (num_floor a b _ a1 a2 b1 b2 h0).mono ?_;rintro e w' ⟨rfl,nq,rfl⟩)
 go_ret
 exact ⟨rfl,_,rfl⟩

set_option maxHeartbeats 400000 in
theorem num_Div (a b:Int) (w:World) :
  Calls Tryz.prog 241 #[.int .i64 a,.int .i64 b] w fun e w' => e = .returned (.tuple #[.int .i64 (numDiv a b).1,.int .i64 (numDiv a b).2]) ∧ ∃ n,w' = w.drewN n:=by
 by_cases h0:b = 0
 ·subst h0
  by_cases ha:numCheck a = 0
  ·go_enter Tryz.func241,Tryz.ntmps241
   go_wp2_with (go_at_call 130;refine (num_Check _ _).mono ?_;rintro e w' ⟨rfl,rfl⟩)
   go_ret2
   exact ⟨ret_ii (by simp [numDiv,ha]) (by simp [numDiv,ha]),0,rfl⟩
  ·have ha':(numCheck a == 0) = false:=by simpa using ha
   go_enter Tryz.func241,Tryz.ntmps241
   go_wp2_with (first | (go_at_call 130;refine (num_Check _ _).mono ?_;rintro e w' ⟨rfl,rfl⟩) | (go_at_call 260;refine (num_within 262 Int.fdiv a 0 _ cf_div (fun x _ _ => absurd x ha)).mono ?_;rintro e w' ⟨rfl,nq,rfl⟩))
   go_ret2
   exact ⟨ret_ii (by simp [numDiv,ha]) (by simp [numDiv,ha]),_,rfl⟩
 ·have h0':(b == 0) = false:=by simpa using h0
  go_enter Tryz.func241,Tryz.ntmps241
  go_wp2_with (first | (go_at_call 130;refine (num_Check _ _).mono ?_;rintro e w' ⟨rfl,rfl⟩) | (go_at_call 260;refine (num_within 262 Int.fdiv a b _ cf_div (fun ha hb w => num_Div1 a b w ha hb h0)).mono ?_;rintro e w' ⟨rfl,nq,rfl⟩))
  go_ret2
  exact ⟨ret_ii (by simp [numDiv,h0]) (by simp [numDiv,h0]),_,rfl⟩

set_option maxHeartbeats 400000 in
theorem num_Mod (a b:Int) (w:World) :
  Calls Tryz.prog 242 #[.int .i64 a,.int .i64 b] w fun e w' => e = .returned (.tuple #[.int .i64 (numMod a b).1,.int .i64 (numMod a b).2]) ∧ ∃ n,w' = w.drewN n:=by
 by_cases h0:b = 0
 ·subst h0
  by_cases ha:numCheck a = 0
  ·go_enter Tryz.func242,Tryz.ntmps242
   go_wp2_with (go_at_call 130;refine (num_Check _ _).mono ?_;rintro e w' ⟨rfl,rfl⟩)
   go_ret2
   exact ⟨ret_ii (by simp [numMod,ha]) (by simp [numMod,ha]),0,rfl⟩
  ·have ha':(numCheck a == 0) = false:=by simpa using ha
   go_enter Tryz.func242,Tryz.ntmps242
   go_wp2_with (first | (go_at_call 130;refine (num_Check _ _).mono ?_;rintro e w' ⟨rfl,rfl⟩) | (go_at_call 260;refine (num_within 264 Int.fmod a 0 _ cf_mod (fun x _ _ => absurd x ha)).mono ?_;rintro e w' ⟨rfl,nq,rfl⟩))
   go_ret2
   exact ⟨ret_ii (by simp [numMod,ha]) (by simp [numMod,ha]),_,rfl⟩
 ·have h0':(b == 0) = false:=by simpa using h0
  go_enter Tryz.func242,Tryz.ntmps242
  go_wp2_with (first | (go_at_call 130;refine (num_Check _ _).mono ?_;rintro e w' ⟨rfl,rfl⟩) | (go_at_call 260;refine (num_within 264 Int.fmod a b _ cf_mod (fun ha hb w => num_Mod1 a b w ha hb h0)).mono ?_;rintro e w' ⟨rfl,nq,rfl⟩))
  go_ret2
  exact ⟨ret_ii (by simp [numMod,h0]) (by simp [numMod,h0]),_,rfl⟩

end Go.Proofs.YtbhkpepinogigaaGreat
