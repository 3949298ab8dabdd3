/- Texts merged: PlainNum Num. -/
import Derived.Test.YtldbpmlgbbomcaaGreatDoorTypes
import Derived.Deep.QuietTactic
import Derived.BigQuiet
/- Plain facts on the division of integers. -/
namespace Go.Proofs.YtldbpmlgbbomcaaGreatDoor
theorem tdiv_bd (a b:Int):(a.tdiv b).natAbs ≤ a.natAbs:=by
 rw [Int.natAbs_tdiv];exact Nat.div_le_self _ _
theorem tmod_bd (a b:Int) (h:b ≠ 0):(a.tmod b).natAbs < b.natAbs:=by
 rw [Int.natAbs_tmod];exact Nat.mod_lt _ (by omega)
theorem tmod_sign (a b:Int):(0 ≤ a → 0 ≤ a.tmod b) ∧ (a ≤ 0 → a.tmod b ≤ 0):=by
 refine ⟨fun h => Int.tmod_nonneg _ h,fun h => ?_⟩
 have:=Int.tmod_nonneg (a:=-a) b (by omega)
 rw [Int.neg_tmod] at this
 omega
theorem floor_eq (a b:Int) (h:b ≠ 0) (h1:a.tmod b = 0 ∨ (decide (a.tmod b < 0) == decide (b < 0)) = true):a.fdiv b = a.tdiv b ∧ a.fmod b = a.tmod b:=by
 have hs:=tmod_sign a b
 have hd:=@Int.dvd_iff_tmod_eq_zero b a
 have hsg:(0 < b → b.sign = 1) ∧ (b < 0 → b.sign = -1):=⟨Int.sign_eq_one_of_pos,Int.sign_eq_neg_one_of_neg⟩
 rw [Int.fdiv_eq_tdiv,Int.fmod_eq_tmod]
 by_cases hv:b ∣ a
 ·simp [hv]
 ·have hn:a.tmod b ≠ 0:=fun e => hv (hd.2 e)
  have h1':(a.tmod b < 0 ↔ b < 0):=by rcases h1 with h1 | h1;exact absurd h1 hn;simpa using h1
  simp only [hv,if_false]
  have hb:=Int.lt_or_gt_of_ne h
  rcases hb with hb | hb <;> by_cases ha:0 ≤ a <;> simp only [ha,if_true,if_false]
  ·omega
  ·have:¬ (0 ≤ b):=by omega
   simp only [this,if_false,hsg.2 hb];omega
  ·have:(0 ≤ b):=by omega
   simp only [this,if_true];omega
  ·omega
theorem floor_less (a b:Int) (h:b ≠ 0) (h0:¬ a.tmod b = 0) (h1:(!decide (a.tmod b < 0) == decide (b < 0)) = true):a.fdiv b = a.tdiv b - 1 ∧ a.fmod b = a.tmod b + b:=by
 have hs:=tmod_sign a b
 have hd:=@Int.dvd_iff_tmod_eq_zero b a
 have hsg:(0 < b → b.sign = 1) ∧ (b < 0 → b.sign = -1):=⟨Int.sign_eq_one_of_pos,Int.sign_eq_neg_one_of_neg⟩
 have h1':¬ (a.tmod b < 0 ↔ b < 0):=by
  by_cases x:a.tmod b < 0 <;> by_cases y:b < 0 <;> simp [x,y] at h1 ⊢
 have hv:¬ b ∣ a:=fun e => h0 (hd.1 e)
 rw [Int.fdiv_eq_tdiv,Int.fmod_eq_tmod]
 simp only [hv,if_false]
 have hb:=Int.lt_or_gt_of_ne h
 rcases hb with hb | hb <;> by_cases ha:0 ≤ a <;> simp only [ha,if_true,if_false]
 ·have:¬ (0 ≤ b):=by omega
  simp [this]
 ·omega
 ·omega
 ·have:(0 ≤ b):=by omega
  simp [this,hsg.1 hb];try omega
theorem mul_same (a b:Int) (h:(!decide (a < 0) == decide (b < 0)) = false):a * b = (a.natAbs:Int) * (b.natAbs:Int):=by
 have h':(a < 0 ↔ b < 0):=by simpa using h
 rcases (by omega:a < 0 ∨ 0 ≤ a) with ha | ha
 ·have hb:=h'.1 ha
  rw [show (a.natAbs:Int) = -a by omega,show (b.natAbs:Int) = -b by omega,Int.neg_mul_neg]
 ·have hb:¬ b < 0:=fun e => by have:=h'.2 e;omega
  rw [show (a.natAbs:Int) = a by omega,show (b.natAbs:Int) = b by omega]
theorem mul_other (a b:Int) (h:(!decide (a < 0) == decide (b < 0)) = true):a * b = -((a.natAbs:Int) * (b.natAbs:Int)):=by
 have h':¬ (a < 0 ↔ b < 0):=by
  by_cases x:a < 0 <;> by_cases y:b < 0 <;> simp [x,y] at h ⊢
 rcases (by omega:a < 0 ∨ 0 ≤ a) with ha | ha
 ·have hb:¬ b < 0:=fun e => h' ⟨fun _ => e,fun _ => ha⟩
  rw [show (a.natAbs:Int) = -a by omega,show (b.natAbs:Int) = b by omega,Int.neg_mul,Int.neg_neg]
 ·have hb:b < 0:=by
   rcases (by omega:b < 0 ∨ 0 ≤ b) with e | e
   ·exact e
   ·exact absurd ⟨fun x => by omega,fun x => by omega⟩ h'
  rw [show (a.natAbs:Int) = a by omega,show (b.natAbs:Int) = -b by omega,Int.mul_neg,Int.neg_neg]
theorem mul_abs (a b:Int):a * b = (a.natAbs:Int) * (b.natAbs:Int) ∨ a * b = -((a.natAbs:Int) * (b.natAbs:Int)):=by
 cases h:(!decide (a < 0) == decide (b < 0))
 ·exact .inl (mul_same a b h)
 ·exact .inr (mul_other a b h)
theorem fdiv_of (a b:Int) (h:b ≠ 0):a.tdiv b = a.fdiv b ∨ a.tdiv b = a.fdiv b + 1:=by
 by_cases h0:a.tmod b = 0
 ·exact .inl (floor_eq a b h (.inl h0)).1.symm
 ·cases h1:(decide (a.tmod b < 0) == decide (b < 0))
  ·have:=(floor_less a b h h0 (by simp [h1])).1
   omega
  ·exact .inl (floor_eq a b h (.inr h1)).1.symm
theorem fmod_bd (a b:Int):(0 < b → 0 ≤ a.fmod b ∧ a.fmod b < b) ∧ (b < 0 → a.fmod b ≤ 0 ∧ b < a.fmod b):=by
 refine ⟨fun h => ⟨?_,Int.fmod_lt_of_pos a h⟩,fun h => ?_⟩
 ·rw [Int.fmod_eq_emod_of_nonneg _ (by omega)];exact Int.emod_nonneg _ (by omega)
 ·have h1:a.fmod b = -((-a).fmod (-b)):=by rw [Int.neg_fmod_neg,Int.neg_neg]
  have h2:0 ≤ (-a).fmod (-b):=by rw [Int.fmod_eq_emod_of_nonneg _ (by omega)];exact Int.emod_nonneg _ (by omega)
  have h3:=Int.fmod_lt_of_pos (-a) (b:=-b) (by omega)
  omega
theorem div_at (a b:Int):(0 < b → a.fdiv b * b ≤ a ∧ a < a.fdiv b * b + b) ∧ (b < 0 → a ≤ a.fdiv b * b ∧ a.fdiv b * b + b < a):=by
 have h:=Int.mul_fdiv_add_fmod a b
 rw [Int.mul_comm] at h
 have:=fmod_bd a b
 constructor <;> intro hb <;> omega
theorem div_up (a b v:Int) (hv:v = a.fdiv b + 1):(0 < b → a < v * b ∧ v * b ≤ a + b) ∧ (b < 0 → v * b < a ∧ a + b ≤ v * b):=by
 have h:=div_at a b
 have e:v * b = a.fdiv b * b + b:=by rw [hv,Int.add_mul,Int.one_mul]
 constructor <;> intro hb <;> omega
theorem mod_of (a b:Int):a - a.fdiv b * b = a.fmod b:=by
 have h:=Int.mul_fdiv_add_fmod a b
 rw [Int.mul_comm] at h
 omega
theorem fdiv_bd (a b:Int) (h:b ≠ 0) (h1:-1099511627776 ≤ a) (h2:a ≤ 1099511627776):-1099511627777 ≤ a.fdiv b ∧ a.fdiv b ≤ 1099511627776:=by
 have:=fdiv_of a b h
 have:=tdiv_bd a b
 omega
theorem fdiv_in (a b:Int) (h1:-1099511627776 ≤ a) (h2:a ≤ 1099511627776):-1099511627776 ≤ a.fdiv b:=by
 by_cases h:b = 0
 ·subst h;simp
 by_cases h0:a.tmod b = 0
 ·have:=(floor_eq a b h (.inl h0)).1;have:=tdiv_bd a b;omega
 ·cases h1:(decide (a.tmod b < 0) == decide (b < 0))
  ·have e:=(floor_less a b h h0 (by simp [h1])).1
   have hb:(a.tdiv b).natAbs < a.natAbs ∨ b = 1 ∨ b = -1:=by
    by_cases hb:b.natAbs ≤ 1
    ·omega
    ·rw [Int.natAbs_tdiv]
     by_cases ha:a.natAbs = 0
     ·have:a = 0:=by omega
      subst this;simp at h0
     ·exact .inl (Nat.div_lt_self (by omega) (by omega))
   rcases hb with hb | rfl | rfl
   ·omega
   ·simp at h0
   ·simp at h0
  ·have:=(floor_eq a b h (.inr h1)).1;have:=tdiv_bd a b;omega
end Go.Proofs.YtldbpmlgbbomcaaGreatDoor
/- The numbers of package num and of the references: what each function returns. No conditions but those named. -/
namespace Go.Proofs.YtldbpmlgbbomcaaGreatDoor
open Go.RowKit

def numCheck (n:Int):Int:=if n < -1099511627776 ∨ 1099511627776 < n then 7 else 0
theorem numCheck_lo {n:Int} (h:numCheck n = 0):-1099511627776 ≤ n ∧ n ≤ 1099511627776:=by
 unfold numCheck at h;split at h <;> omega
theorem numCheck_of {n:Int} (h:-1099511627776 ≤ n) (h':n ≤ 1099511627776):numCheck n = 0:=by
 unfold numCheck;rw [if_neg (by omega)]
theorem numCheck_ne {n:Int} (h:¬ numCheck n = 0):numCheck n = 7:=by
 unfold numCheck at *;split at h <;> simp_all
def numRes (n:Int):Int × Int:=if numCheck n = 0 then (n,0) else (0,7)
def numGuard (a b:Int) (r:Int × Int):Int × Int:=if numCheck a = 0 ∧ numCheck b = 0 then r else (0,7)
def numAdd (a b:Int):Int × Int:=numGuard a b (numRes (a + b))
def numSub (a b:Int):Int × Int:=numGuard a b (numRes (a - b))
def numMul (a b:Int):Int × Int:=numGuard a b (numRes (a * b))
def numDiv (a b:Int):Int × Int:=if numCheck a = 0 ∧ b = 0 then (0,8) else numGuard a b (numRes (Int.fdiv a b))
def numMod (a b:Int):Int × Int:=if numCheck a = 0 ∧ b = 0 then (0,8) else numGuard a b (numRes (Int.fmod a b))

set_option maxHeartbeats 400000 in
theorem num_Check (n:Int) (w:World) :
  Calls Tryz.prog 181 #[.int .i64 n] w fun e w' => e = .returned (.int .i64 (numCheck n)) ∧ w = w':=by
 go_enter Tryz.func181,Tryz.ntmps181
 go_wp2
 all_goals
  go_ret
  exact ⟨ret_int (by simp [numCheck];try omega),rfl⟩

set_option maxHeartbeats 400000 in
theorem ref_NumFault (n:Int) (w:World) :
  Calls Tryz.prog 154 #[.int .i64 n] w fun e w' => e = .returned (.int .i64 (numCheck n)) ∧ w = w':=by
 go_enter Tryz.func154,Tryz.ntmps154
 go_wp2
 all_goals
  go_ret
  exact ⟨ret_int (by simp [numCheck];try omega),rfl⟩

theorem cf (f : FuncId) (fn : Func) (h : Tryz.prog.funcs[f]? = some fn) (h1 : fn.body.isNone = false) (h2 : (fn.name == "runtime.NumGoroutine") = false) (args : Array Value) (w : World) :
  (callFunc f args).run Tryz.prog w = .ok (.enter f args) w:=by
 have hp:(program:Sem Program) = .program .pure:=rfl
 unfold callFunc
 simp only [Sem.run_bind,hp,Sem.run,Result.andThen,h,h1,h2]
 rfl

theorem tdiv_pos (a:Int) (h:0 < a):Int.tdiv 1099511627776 a = 1099511627776 / a ∧ 0 ≤ (1099511627776:Int) / a ∧ (1099511627776:Int) / a ≤ 1099511627776:=by
 refine ⟨Int.tdiv_eq_ediv_of_nonneg (by decide),Int.ediv_nonneg (by decide) (by omega),?_⟩
 exact Int.ediv_le_self _ (by decide)
def mulOk (a b:Int):Prop:=-1099511627776 ≤ a * b ∧ a * b ≤ 1099511627776
instance (a b:Int):Decidable (mulOk a b):=by unfold mulOk;infer_instance
def mulG (a b:Int):Int:=if mulOk a b then a * b else 1099511627777
theorem mulG_res (a b:Int):numRes (mulG a b) = numRes (a * b):=by
 unfold mulG
 split
 ·rfl
 ·rename_i h
  unfold mulOk at h
  have h1:¬ numCheck (a * b) = 0:=fun e => by have:=numCheck_lo e;omega
  rw [numRes,numRes,if_neg h1,if_neg (by decide)]
theorem quo_pos (a b:Int) (h:0 < a):wrap64 (-Int.tdiv 1099511627776 a) = -(1099511627776 / a) ∧ (b ≤ 1099511627776 / a ↔ a * b ≤ 1099511627776) ∧ (-(1099511627776 / a) ≤ b ↔ -1099511627776 ≤ a * b):=by
 obtain ⟨e,l,u⟩:=tdiv_pos a h
 have hb:b ≤ 1099511627776 / a ↔ b * a ≤ 1099511627776:=Int.le_ediv_iff_mul_le h
 have hb':-b ≤ 1099511627776 / a ↔ -b * a ≤ 1099511627776:=Int.le_ediv_iff_mul_le h
 rw [Int.neg_mul] at hb'
 rw [Int.mul_comm a b]
 refine ⟨by rw [e];exact IntWalk.wrap64_in _ ⟨by omega,by omega⟩,hb,by omega⟩
theorem quo_neg (a b:Int) (h:a < 0):wrap64 (-Int.tdiv 1099511627776 a) = 1099511627776 / (-a) ∧ wrap64 (Int.tdiv 1099511627776 a) = -(1099511627776 / (-a)) ∧ (b ≤ 1099511627776 / (-a) ↔ -1099511627776 ≤ a * b) ∧ (-(1099511627776 / (-a)) ≤ b ↔ a * b ≤ 1099511627776):=by
 obtain ⟨e,l,u⟩:=tdiv_pos (-a) (by omega)
 rw [Int.tdiv_neg] at e
 obtain ⟨-,hb,hb'⟩:=quo_pos (-a) b (by omega)
 rw [Int.neg_mul] at hb hb'
 have e':Int.tdiv 1099511627776 a = -(1099511627776 / (-a)):=by omega
 refine ⟨by rw [e];exact IntWalk.wrap64_in _ ⟨by omega,by omega⟩,by rw [e'];exact IntWalk.wrap64_in _ ⟨by omega,by omega⟩,by omega,by omega⟩

end Go.Proofs.YtldbpmlgbbomcaaGreatDoor
