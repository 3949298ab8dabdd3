/- The numbers of the reference: NumOf, op by op. -/
import Derived.Test.YtbhkpepinogigaaGreatShelf
import Derived.Test.YtbhkpepinogigaaGreatNum
namespace Go.Proofs.YtbhkpepinogigaaGreat
open Go.RowKit

theorem ret_ub {k:IntKind} {a c:Int} {b d:Bool} (h:a = c) (h':b = d):Ending.returned (.tuple #[.int k a,.bool b]) = .returned (.tuple #[.int k c,.bool d]):=by rw [h,h']

set_option maxHeartbeats 400000 in
theorem ref_size (n:Int) (w:World) (h1:-1099511627776 ≤ n) (h2:n ≤ 1099511627776) :
  Calls Tryz.prog 227 #[.int .i64 n] w fun e w' => e = .returned (.tuple #[.int .u64 (n.natAbs:Int),.bool (decide (n < 0))]) ∧ w = w':=by
 by_cases h:n < 0
 ·go_enter Tryz.func227,Tryz.ntmps227
  go_wp2
  go_ret2
  exact ⟨ret_ub (by omega) (by simpa using h),rfl⟩
 ·go_enter Tryz.func227,Tryz.ntmps227
  go_wp2
  go_ret2
  exact ⟨ret_ub (by omega) (by simpa using h),rfl⟩

set_option maxHeartbeats 400000 in
theorem ref_NumOf_add (a b:Int) (w:World) :
  Calls Tryz.prog 186 #[.int .i64 8,.int .i64 a,.int .i64 b] w fun e w' => e = .returned (.tuple #[.int .i64 (numAdd a b).1,.int .i64 (numAdd a b).2]) ∧ ∃ n,w' = w.drewN n:=by
 by_cases ha:numCheck a = 0
 ·by_cases hb:numCheck b = 0
  ·have a1:=numCheck_lo ha
   have b1:=numCheck_lo hb
   go_enter Tryz.func186,Tryz.ntmps186
   go_wp2_with (first | (go_at_call 133;refine (ref_NumFault _ _).mono ?_;rintro e w' ⟨rfl,rfl⟩))
   all_goals
    go_ret2
    exact ⟨ret_ii (by simp_all [numAdd,numGuard,numRes]) (by simp_all [numAdd,numGuard,numRes,numCheck_ne]),0,rfl⟩
  ·have h0:¬ b = 0:=fun e => hb (by rw [e];rfl)
   have h0':(b == 0) = false:=by simpa using h0
   have hb':(numCheck b != 0) = true:=by simpa using hb
   go_enter Tryz.func186,Tryz.ntmps186
   go_wp2_with (first | (go_at_call 133;refine (ref_NumFault _ _).mono ?_;rintro e w' ⟨rfl,rfl⟩))
   go_ret2
   exact ⟨ret_ii (by simp [numAdd,numGuard,ha,hb]) (by simp [numAdd,numGuard,ha,hb]),0,rfl⟩
 ·have ha':(numCheck a != 0) = true:=by simpa using ha
  go_enter Tryz.func186,Tryz.ntmps186
  go_wp2_with (first | (go_at_call 133;refine (ref_NumFault _ _).mono ?_;rintro e w' ⟨rfl,rfl⟩))
  go_ret2
  exact ⟨ret_ii (by simp [numAdd,numGuard,ha]) (by simp [numAdd,numGuard,ha]),0,rfl⟩

set_option maxHeartbeats 400000 in
theorem ref_NumOf_sub (a b:Int) (w:World) :
  Calls Tryz.prog 186 #[.int .i64 9,.int .i64 a,.int .i64 b] w fun e w' => e = .returned (.tuple #[.int .i64 (numSub a b).1,.int .i64 (numSub a b).2]) ∧ ∃ n,w' = w.drewN n:=by
 by_cases ha:numCheck a = 0
 ·by_cases hb:numCheck b = 0
  ·have a1:=numCheck_lo ha
   have b1:=numCheck_lo hb
   go_enter Tryz.func186,Tryz.ntmps186
   go_wp2_with (first | (go_at_call 133;refine (ref_NumFault _ _).mono ?_;rintro e w' ⟨rfl,rfl⟩))
   all_goals
    go_ret2
    exact ⟨ret_ii (by simp_all [numSub,numGuard,numRes]) (by simp_all [numSub,numGuard,numRes,numCheck_ne]),0,rfl⟩
  ·have h0:¬ b = 0:=fun e => hb (by rw [e];rfl)
   have h0':(b == 0) = false:=by simpa using h0
   have hb':(numCheck b != 0) = true:=by simpa using hb
   go_enter Tryz.func186,Tryz.ntmps186
   go_wp2_with (first | (go_at_call 133;refine (ref_NumFault _ _).mono ?_;rintro e w' ⟨rfl,rfl⟩))
   go_ret2
   exact ⟨ret_ii (by simp [numSub,numGuard,ha,hb]) (by simp [numSub,numGuard,ha,hb]),0,rfl⟩
 ·have ha':(numCheck a != 0) = true:=by simpa using ha
  go_enter Tryz.func186,Tryz.ntmps186
  go_wp2_with (first | (go_at_call 133;refine (ref_NumFault _ _).mono ?_;rintro e w' ⟨rfl,rfl⟩))
  go_ret2
  exact ⟨ret_ii (by simp [numSub,numGuard,ha]) (by simp [numSub,numGuard,ha]),0,rfl⟩

set_option maxHeartbeats 400000 in
theorem ref_NumOf_mul (a b:Int) (w:World) :
  Calls Tryz.prog 186 #[.int .i64 5,.int .i64 a,.int .i64 b] w fun e w' => e = .returned (.tuple #[.int .i64 (numMul a b).1,.int .i64 (numMul a b).2]) ∧ ∃ n,w' = w.drewN n:=by
 by_cases ha:numCheck a = 0
 ·by_cases hb:numCheck b = 0
  ·have a1:=numCheck_lo ha
   have b1:=numCheck_lo hb
   by_cases h0:b = 0
   ·subst h0
    go_enter Tryz.func186,Tryz.ntmps186
    go_wp2_with (first | (go_at_call 133;refine (ref_NumFault _ _).mono ?_;rintro e w' ⟨rfl,rfl⟩) | (go_at_call 227;refine (ref_size _ _ (by omega) (by omega)).mono ?_;rintro e w' ⟨rfl,rfl⟩) | (go_at_call 228;refine (Tryz.bits_Mul64 _ 0 (by omega) (by omega) _).mono ?_;rintro e w' ⟨rfl,rfl⟩))
    all_goals
     go_ret2
     exact ⟨ret_ii (by simp_all [numMul,numGuard,numRes]) (by simp_all [numMul,numGuard,numRes]),0,rfl⟩
   ·have h0':(b == 0) = false:=by simpa using h0
    have hs:=Lib.hid (mul_same a b)
    have ho:=Lib.hid (mul_other a b)
    go_enter Tryz.func186,Tryz.ntmps186
    go_wp2_with (first | (go_at_call 133;refine (ref_NumFault _ _).mono ?_;rintro e w' ⟨rfl,rfl⟩) | (go_at_call 227;refine (ref_size _ _ (by omega) (by omega)).mono ?_;rintro e w' ⟨rfl,rfl⟩) | (go_at_call 228;refine (Tryz.bits_Mul64 _ _ (by omega) (by omega) _).mono ?_;rintro e w' ⟨rfl,rfl⟩))
    all_goals
     go_ret2
     have hab:=mul_abs a b
     have hp:(0:Int) ≤ ↑a.natAbs * ↑b.natAbs:=Int.mul_nonneg (by omega) (by omega)
     have hg:numMul a b = numRes (a * b):=by simp [numMul,numGuard,ha,hb]
     first
      |
       have hn:¬ numCheck (a * b) = 0:=fun e => by have:=numCheck_lo e;omega
       exact ⟨ret_ii (by rw [hg,numRes,if_neg hn]) (by rw [hg,numRes,if_neg hn]),0,rfl⟩
      |
       have h1:=ho.out (by assumption)
       have hx:a * b = -(↑a.natAbs * ↑b.natAbs % 18446744073709551616):=by omega
       exact ⟨ret_ii (by rw [hg,hx];simp_all [numRes]) (by rw [hg,hx];simp_all [numRes,numCheck_ne]),0,rfl⟩
      |
       have h1:=hs.out (by assumption)
       have hx:a * b = (↑a.natAbs * ↑b.natAbs % 18446744073709551616):=by omega
       exact ⟨ret_ii (by rw [hg,hx];simp_all [numRes]) (by rw [hg,hx];simp_all [numRes,numCheck_ne]),0,rfl⟩
  ·have h0:¬ b = 0:=fun e => hb (by rw [e];rfl)
   have h0':(b == 0) = false:=by simpa using h0
   have hb':(numCheck b != 0) = true:=by simpa using hb
   go_enter Tryz.func186,Tryz.ntmps186
   go_wp2_with (first | (go_at_call 133;refine (ref_NumFault _ _).mono ?_;rintro e w' ⟨rfl,rfl⟩))
   go_ret2
   exact ⟨ret_ii (by simp [numMul,numGuard,ha,hb]) (by simp [numMul,numGuard,ha,hb]),0,rfl⟩
 ·have ha':(numCheck a != 0) = true:=by simpa using ha
  go_enter Tryz.func186,Tryz.ntmps186
  go_wp2_with (first | (go_at_call 133;refine (ref_NumFault _ _).mono ?_;rintro e w' ⟨rfl,rfl⟩))
  go_ret2
  exact ⟨ret_ii (by simp [numMul,numGuard,ha]) (by simp [numMul,numGuard,ha]),0,rfl⟩
set_option maxHeartbeats 400000 in
theorem ref_NumOf_div (a b:Int) (w:World) :
  Calls Tryz.prog 186 #[.int .i64 6,.int .i64 a,.int .i64 b] w fun e w' => e = .returned (.tuple #[.int .i64 (numDiv a b).1,.int .i64 (numDiv a b).2]) ∧ ∃ n,w' = w.drewN n:=by
 by_cases ha:numCheck a = 0
 ·by_cases h0:b = 0
  ·subst h0
   go_enter Tryz.func186,Tryz.ntmps186
   go_wp2_with (first | (go_at_call 133;refine (ref_NumFault _ _).mono ?_;rintro e w' ⟨rfl,rfl⟩))
   go_ret2
   exact ⟨ret_ii (by simp [numDiv,ha]) (by simp [numDiv,ha]),0,rfl⟩
  ·have h0':(b == 0) = false:=by simpa using h0
   by_cases hb:numCheck b = 0
   ·obtain ⟨a1,a2⟩:=numCheck_lo ha
    obtain ⟨b1,b2⟩:=numCheck_lo hb
    have hf:=fdiv_bd a b h0 a1 a2
    have ht:=tdiv_bd a b
    have hfd:=fdiv_of a b h0
    have hd:=div_at a b
    have hu:=div_up a b
    have HH:=Lib.hid (And.intro hfd (And.intro hd hu))
    have hr:numDiv a b = numRes (a.fdiv b):=by simp [numDiv,numGuard,ha,hb,h0]
    have HR:=Lib.hid hr
    clear hfd hd hu hr
    go_enter Tryz.func186,Tryz.ntmps186
    go_wp2_with (first | (go_at_call 133;refine (ref_NumFault _ _).mono ?_;rintro e w' ⟨rfl,rfl⟩))
    go_loop [8] (fun n => ∃ v:Int,n = .int .i64 v ∧ (v = a.fdiv b ∨ v = a.fdiv b + 1)) (fun n => (intOf n - a.fdiv b).toNat)
    case atStart => exact ⟨_,rfl,HH.out.1⟩
    case round =>
     obtain ⟨v,rfl,hv⟩:=hrel
     rcases hv with hv | hv
     ·have hd:=HH.out.2.1
      rw [← hv] at hd
      rcases (by omega:0 < b ∨ b < 0) with hs | hs
      all_goals
       have hd1:=(by first | exact hd.1 hs | exact hd.2 hs:_ ∧ _)
       have HV:=Lib.hid hv
       clear hv hd
       go_wp2_with (first | (go_at_call 133;refine (ref_NumFault _ _).mono ?_;rintro e w' ⟨rfl,rfl⟩))
       all_goals
        go_ret2
        exact ⟨ret_ii (by rw [HR.out,← HV.out];simp_all [numRes]) (by rw [HR.out,← HV.out];simp_all [numRes,numCheck_ne]),0,rfl⟩
     ·have hd:=HH.out.2.2 v hv
      rcases (by omega:0 < b ∨ b < 0) with hs | hs
      all_goals
       have hd1:=(by first | exact hd.1 hs | exact hd.2 hs:_ ∧ _)
       have hf':-1099511627777 ≤ v ∧ v ≤ 1099511627777:=by omega
       have HV:=Lib.hid hv
       clear hv hd
       go_wp2
       go_round
       case rel => have:=HV.out;exact ⟨v - 1,rfl,.inl (by omega)⟩
       case measure => have:=HV.out;simp [intOf];omega
   ·have hb':(numCheck b != 0) = true:=by simpa using hb
    go_enter Tryz.func186,Tryz.ntmps186
    go_wp2_with (first | (go_at_call 133;refine (ref_NumFault _ _).mono ?_;rintro e w' ⟨rfl,rfl⟩))
    go_ret2
    exact ⟨ret_ii (by simp [numDiv,numGuard,ha,hb,h0]) (by simp [numDiv,numGuard,ha,hb,h0]),0,rfl⟩
 ·have ha':(numCheck a != 0) = true:=by simpa using ha
  go_enter Tryz.func186,Tryz.ntmps186
  go_wp2_with (first | (go_at_call 133;refine (ref_NumFault _ _).mono ?_;rintro e w' ⟨rfl,rfl⟩))
  go_ret2
  exact ⟨ret_ii (by simp [numDiv,numGuard,ha]) (by simp [numDiv,numGuard,ha]),0,rfl⟩

set_option maxHeartbeats 400000 in
theorem ref_NumOf_mod (a b:Int) (w:World) :
  Calls Tryz.prog 186 #[.int .i64 7,.int .i64 a,.int .i64 b] w fun e w' => e = .returned (.tuple #[.int .i64 (numMod a b).1,.int .i64 (numMod a b).2]) ∧ ∃ n,w' = w.drewN n:=by
 by_cases ha:numCheck a = 0
 ·by_cases h0:b = 0
  ·subst h0
   go_enter Tryz.func186,Tryz.ntmps186
   go_wp2_with (first | (go_at_call 133;refine (ref_NumFault _ _).mono ?_;rintro e w' ⟨rfl,rfl⟩))
   go_ret2
   exact ⟨ret_ii (by simp [numMod,ha]) (by simp [numMod,ha]),0,rfl⟩
  ·have h0':(b == 0) = false:=by simpa using h0
   by_cases hb:numCheck b = 0
   ·obtain ⟨a1,a2⟩:=numCheck_lo ha
    obtain ⟨b1,b2⟩:=numCheck_lo hb
    have hr:numMod a b = numRes (a.fmod b):=by simp [numMod,numGuard,ha,hb,h0]
    have hf:=fdiv_bd a b h0 a1 a2
    have hf1:=fdiv_in a b a1 a2
    have hq:numDiv a b = (a.fdiv b,0):=by
     have hx:numCheck (a.fdiv b) = 0:=numCheck_of hf1 hf.2
     simp [numDiv,numGuard,numRes,ha,hb,h0,hx]
    have hq1:(numDiv a b).1 = a.fdiv b:=by rw [hq]
    have hmo:=mod_of a b
    have hbd:=fmod_bd a b
    have hfb:-2199023255552 ≤ a.fdiv b * b ∧ a.fdiv b * b ≤ 2199023255552:=by omega
    have HR:=Lib.hid hr
    clear hr hq hbd
    have hbd:=fmod_bd a b
    have hmb:-1099511627776 ≤ a.fmod b ∧ a.fmod b ≤ 1099511627776:=by omega
    clear hbd
    go_enter Tryz.func186,Tryz.ntmps186
    go_wp2_with (first | (go_at_call 133;refine (ref_NumFault _ _).mono ?_;rintro e w' ⟨rfl,rfl⟩) | (go_at_call 186;refine (ref_NumOf_div _ _ _).mono ?_;rintro e w' ⟨rfl,nq,rfl⟩))
    all_goals
     go_ret2
     exact ⟨ret_ii (by rw [HR.out];simp_all [numRes]) (by rw [HR.out];simp_all [numRes,numCheck_ne]),_,rfl⟩
   ·have hb':(numCheck b != 0) = true:=by simpa using hb
    go_enter Tryz.func186,Tryz.ntmps186
    go_wp2_with (first | (go_at_call 133;refine (ref_NumFault _ _).mono ?_;rintro e w' ⟨rfl,rfl⟩))
    go_ret2
    exact ⟨ret_ii (by simp [numMod,numGuard,ha,hb,h0]) (by simp [numMod,numGuard,ha,hb,h0]),0,rfl⟩
 ·have ha':(numCheck a != 0) = true:=by simpa using ha
  go_enter Tryz.func186,Tryz.ntmps186
  go_wp2_with (first | (go_at_call 133;refine (ref_NumFault _ _).mono ?_;rintro e w' ⟨rfl,rfl⟩))
  go_ret2
  exact ⟨ret_ii (by simp [numMod,numGuard,ha]) (by simp [numMod,numGuard,ha]),0,rfl⟩

end Go.Proofs.YtbhkpepinogigaaGreat
