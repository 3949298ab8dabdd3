/- Values: value.Check, value.Known, value.Zero and the references of the same. -/
import Derived.Test.YtldbpmlgbbomcaaGreatDoorTypes
import Derived.Test.YtldbpmlgbbomcaaGreatDoorNum
import Derived.Deep.QuietTactic
import Derived.BigQuiet
namespace Go.Proofs.YtldbpmlgbbomcaaGreatDoor
open Go.RowKit

def okByte (c:UInt8):Bool:=decide (32 ≤ (c.toNat:Int)) && decide ((c.toNat:Int) ≤ 126)
def textCheck (s:ByteArray):Int:=if 40 < s.size then 1 else if s.data.toList.all okByte then 0 else 3
def emptyCheck (s:ByteArray):Int:=if s.toList.isEmpty then 0 else 3
def valCheck (v:Val):Int :=
 if v.k = 1 then (if numCheck v.n = 0 then emptyCheck v.s else 7)
 else if v.k = 2 then (if v.n = 0 ∨ v.n = 1 then emptyCheck v.s else 4)
 else if v.k = 3 then (if v.n = 0 then textCheck v.s else 4)
 else if v.k = 4 then (if v.n = 0 then emptyCheck v.s else 4)
 else if v.k = 5 then (if v.n < 1 ∨ 15 < v.n then 4 else emptyCheck v.s)
 else 2
def valKnown (v:Val):Bool:=decide (1 ≤ v.k) && decide (v.k ≤ 3) && decide (valCheck v = 0)

set_option maxHeartbeats 400000 in
theorem value_checkText (s:ByteArray) (w:World) (hs:s.size ≤ maxLen) :
  Calls Tryz.prog 182 #[.string s] w fun e w' => e = .returned (.int .i64 (textCheck s)) ∧ w = w':=by
 unfold maxLen at hs
 by_cases h40:40 < s.size
 ·go_enter Tryz.func182,Tryz.ntmps182
  go_wp2
  go_ret
  exact ⟨ret_int (by simp [textCheck,h40]),rfl⟩
 ·have h40':s.size ≤ 40:=by omega
  have hd:decide ((40:Int) < (s.size:Int)) = false:=by simp;omega
  have hsp:textCheck s = if s.data.toList.all okByte then 0 else 3:=by rw [textCheck,if_neg h40]
  have HSP:=Lib.hid hsp
  clear hsp h40
  go_enter Tryz.func182,Tryz.ntmps182
  go_wp2
  go_loop [9] (fun i => ∃ k:Nat,i = .int .i64 k ∧ k ≤ s.size ∧ (s.data.toList.take k).all okByte = true) (fun i => s.size - (intOf i).toNat)
  case atStart => exact ⟨0,rfl,by omega,by simp⟩
  case round =>
   obtain ⟨k,rfl,hk,ha⟩:=hrel
   have HA:=Lib.hid ha
   clear ha
   by_cases hlt:k < s.size
   ·have hsn:=take_snoc s k hlt
    have HS:=Lib.hid hsn
    clear hsn
    by_cases hok:okByte s[k] = true
    ·have HK:=Lib.hid hok
     have hb:=hok
     simp only [okByte,Bool.and_eq_true,decide_eq_true_eq] at hb
     obtain ⟨hb1,hb2⟩:=hb
     clear hok
     go_wp2
     go_round
     case rel => exact ⟨k + 1,by go_num,by omega,by rw [HS.out,List.all_append,HA.out];simp [HK.out]⟩
     case measure => simp [intOf];omega
    ·have HK:=Lib.hid hok
     have hb:(s[k].toNat:Int) < 32 ∨ 126 < (s[k].toNat:Int):=by
      have h:=hok
      simp only [okByte,Bool.and_eq_true,decide_eq_true_eq] at h
      omega
     have hne:¬ s.data.toList.all okByte = true:=by
      intro h
      rw [List.all_eq_true] at h
      exact hok (h s[k] (by rw [ByteArray.getElem_eq_getElem_data];simp))
     have HN:=Lib.hid hne
     clear hok hne
     rcases hb with hb | hb
     all_goals
      go_wp2
      go_ret
      exact ⟨ret_int (by rw [HSP.out,if_neg HN.out]),rfl⟩
   ·have hke:k = s.size:=by omega
    subst hke
    go_wp2
    go_ret
    exact ⟨ret_int (by rw [HSP.out,if_pos (by have:=HA.out;rwa [List.take_of_length_le (by simp)] at this)]),rfl⟩

theorem emptyCheck_t {s:ByteArray} (h:(!s.toList.isEmpty) = true):emptyCheck s = 3:=by
 unfold emptyCheck;rw [if_neg (by simpa using h)]
theorem emptyCheck_f {s:ByteArray} (h:(!s.toList.isEmpty) = false):emptyCheck s = 0:=by
 unfold emptyCheck;rw [if_pos (by simpa using h)]

set_option maxHeartbeats 1000000 in
theorem value_Check (k n:Int) (s:ByteArray) (w:World) (hs:s.size ≤ maxLen) :
  Calls Tryz.prog 164 #[.agg #[.int .i64 k,.int .i64 n,.string s]] w fun e w' => e = .returned (.int .i64 (valCheck ⟨k,n,s⟩)) ∧ Below w.heap.size w w':=by
 go_enter Tryz.func164,Tryz.ntmps164
 go_wp2_with (first | (go_at_call 181;refine (num_Check _ _).mono ?_;rintro e w' ⟨rfl,rfl⟩) | (go_at_call 182;refine (value_checkText _ _ hs).mono ?_;rintro e w' ⟨rfl,rfl⟩))
 all_goals
  go_ret
  refine ⟨ret_int ?_,bel⟩
  first
   | (simp_all [valCheck,emptyCheck_t,emptyCheck_f,numCheck_ne];done)
   | (simp_all [valCheck,emptyCheck_t,emptyCheck_f,numCheck_ne];omega)

set_option maxHeartbeats 400000 in
theorem value_Known (k n:Int) (s:ByteArray) (w:World) (hs:s.size ≤ maxLen) :
  Calls Tryz.prog 129 #[.agg #[.int .i64 k,.int .i64 n,.string s]] w fun e w' => e = .returned (.bool (valKnown ⟨k,n,s⟩)) ∧ Below w.heap.size w w':=by
 go_enter Tryz.func129,Tryz.ntmps129
 go_wp2_with (go_at_call 164;refine (value_Check _ _ _ _ hs).mono ?_;rintro e w1 ⟨rfl,hb1⟩;obtain ⟨hc1,hf1⟩:=bcell hb1;(try simp only [bqh,bqc,bqf] at hc1 hf1);have hz1:=hb1.size;(try simp at hz1);(try have hy1:=nl1 hz1);(try have hx1:=nl2 hy1))
 all_goals
  go_ret
  refine ⟨ret_bool ?_,bel⟩
  first
   | (simp_all [valKnown];done)
   | (simp_all [valKnown];omega)
   | (simp_all [valKnown];rfl)

theorem emptyCheck_or (s:ByteArray):emptyCheck s = 0 ∨ emptyCheck s = 3:=by unfold emptyCheck;split <;> simp
theorem textCheck_or (s:ByteArray):textCheck s = 0 ∨ textCheck s = 1 ∨ textCheck s = 3:=by unfold textCheck;split <;> (try split) <;> simp
theorem valCheck_kind {v:Val} (h:valCheck v = 0):1 ≤ v.k ∧ v.k ≤ 5:=by
 unfold valCheck at h
 repeat' split at h
 all_goals first | omega | (exfalso;omega)
theorem valKnown_iff (v:Val):valKnown v = true ↔ 1 ≤ v.k ∧ v.k ≤ 3 ∧ valCheck v = 0:=by simp [valKnown,and_assoc]
theorem valKnown_iff' (v:Val):valKnown v = true ↔ valCheck v = 0 ∧ v.k < 4:=by
 rw [valKnown_iff]
 exact ⟨fun ⟨a,b,c⟩ => ⟨c,by omega⟩,fun ⟨a,b⟩ => ⟨(valCheck_kind a).1,by omega,a⟩⟩

def noVal:Val:=⟨0,0,⟨#[]⟩⟩
def valZero (k:Int):Val × Int:=if k < 1 ∨ 3 < k then (noVal,2) else (⟨k,0,⟨#[]⟩⟩,0)

set_option maxHeartbeats 1000000 in
theorem ref_ValueFault (k n:Int) (s:ByteArray) (w:World) (hs:s.size ≤ maxLen) :
  Calls Tryz.prog 115 #[.agg #[.int .i64 k,.int .i64 n,.string s]] w fun e w' => e = .returned (.int .i64 (valCheck ⟨k,n,s⟩)) ∧ Below w.heap.size w w':=by
 by_cases hk1:k = 1
 ·subst hk1
  by_cases hn:numCheck n = 0
  ·go_enter Tryz.func115,Tryz.ntmps115
   go_wp2_with (first | (go_at_call 154;refine (ref_NumFault _ _).mono ?_;rintro e w' ⟨rfl,rfl⟩))
   go_quiet (fail)
   go_wp2
   all_goals
    go_ret
    refine ⟨ret_int ?_,bel⟩
    simp_all [valCheck,emptyCheck_t,emptyCheck_f]
  ·have hn':(numCheck n != 0) = true:=by simpa using hn
   go_enter Tryz.func115,Tryz.ntmps115
   go_wp2_with (first | (go_at_call 154;refine (ref_NumFault _ _).mono ?_;rintro e w' ⟨rfl,rfl⟩))
   go_ret
   exact ⟨ret_int (by simp [valCheck,hn]),bel⟩
 by_cases hk3:k = 3
 ·subst hk3
  have hsp:n = 0 → ¬ 40 < s.size → valCheck ⟨3,n,s⟩ = if s.data.toList.all okByte then 0 else 3:=by
   intro h1 h2
   simp [valCheck,h1,textCheck,h2]
  have hsq:n = 0 → 40 < s.size → valCheck ⟨3,n,s⟩ = 1:=by
   intro h1 h2
   simp [valCheck,h1,textCheck,h2]
  by_cases hn:n = 0
  case neg =>
   have h:valCheck ⟨3,n,s⟩ = 4:=by simp [valCheck,hn]
   have H:=Lib.hid h
   clear h hsp hsq
   rcases (by omega:n < 0 ∨ 0 < n) with h | h
   all_goals
    clear hn
    go_enter Tryz.func115,Tryz.ntmps115
    go_wp2_with fail
    go_ret
    exact ⟨ret_int H.out.symm,bel⟩
  subst hn
  unfold maxLen at hs
  by_cases h40:40 < s.size
  ·have H:=Lib.hid (hsq rfl h40)
   clear hsp hsq
   go_enter Tryz.func115,Tryz.ntmps115
   go_wp2_with fail
   go_ret
   exact ⟨ret_int H.out.symm,bel⟩
  have h40':s.size ≤ 40:=by omega
  have hd:decide ((40:Int) < (s.size:Int)) = false:=by simp;omega
  have HSP:=Lib.hid (hsp rfl h40)
  clear hsp hsq h40
  go_enter Tryz.func115,Tryz.ntmps115
  go_wp2_with fail
  go_loop [5] (fun i => ∃ k:Nat,i = .int .i64 k ∧ k ≤ s.size ∧ (s.data.toList.take k).all okByte = true) (fun i => s.size - (intOf i).toNat)
  case atStart => exact ⟨0,rfl,by omega,by simp⟩
  case round =>
   obtain ⟨k,rfl,hk,ha⟩:=hrel
   have HA:=Lib.hid ha
   clear ha
   by_cases hlt:k < s.size
   ·have hsn:=take_snoc s k hlt
    have HS:=Lib.hid hsn
    clear hsn
    by_cases hok:okByte s[k] = true
    ·have HK:=Lib.hid hok
     have hb:=hok
     simp only [okByte,Bool.and_eq_true,decide_eq_true_eq] at hb
     obtain ⟨hb1,hb2⟩:=hb
     clear hok
     go_wp2
     go_round
     case rel => exact ⟨k + 1,by go_num,by omega,by rw [HS.out,List.all_append,HA.out];simp [HK.out]⟩
     case measure => simp [intOf];omega
    ·have HK:=Lib.hid hok
     have hb:(s[k].toNat:Int) < 32 ∨ 126 < (s[k].toNat:Int):=by
      have h:=hok
      simp only [okByte,Bool.and_eq_true,decide_eq_true_eq] at h
      omega
     have hne:¬ s.data.toList.all okByte = true:=by
      intro h
      rw [List.all_eq_true] at h
      exact hok (h s[k] (by rw [ByteArray.getElem_eq_getElem_data];simp))
     have HN:=Lib.hid hne
     clear hok hne
     rcases hb with hb | hb
     all_goals
      go_wp2
      go_ret
      exact ⟨ret_int (by rw [HSP.out,if_neg HN.out]),bel⟩
   ·have hke:k = s.size:=by omega
    subst hke
    go_wp2
    go_ret
    exact ⟨ret_int (by rw [HSP.out,if_pos (by have:=HA.out;rwa [List.take_of_length_le (by simp)] at this)]),bel⟩
 have hk1':(k == 1) = false:=by simpa using hk1
 have hk3':(k == 3) = false:=by simpa using hk3
 have hk3'':(k != 3) = true:=by simpa using hk3
 clear hk1 hk3
 go_enter Tryz.func115,Tryz.ntmps115
 go_wp2_with fail
 all_goals
  go_ret
  refine ⟨ret_int ?_,bel⟩
  first
   | (simp_all [valCheck,emptyCheck_t,emptyCheck_f];done)
   | (simp_all [valCheck,emptyCheck_t,emptyCheck_f];omega)

set_option maxHeartbeats 400000 in
theorem ref_Known (k n:Int) (s:ByteArray) (w:World) (hs:s.size ≤ maxLen) :
  Calls Tryz.prog 95 #[.agg #[.int .i64 k,.int .i64 n,.string s]] w fun e w' => e = .returned (.bool (valKnown ⟨k,n,s⟩)) ∧ Below w.heap.size w w':=by
 go_enter Tryz.func95,Tryz.ntmps95
 go_wp2_with (go_at_call 115;refine (ref_ValueFault _ _ _ _ hs).mono ?_;rintro e w1 ⟨rfl,hb1⟩;obtain ⟨hc1,hf1⟩:=bcell hb1;(try simp only [bqh,bqc,bqf] at hc1 hf1);have hz1:=hb1.size;(try simp at hz1);(try have hy1:=nl1 hz1);(try have hx1:=nl2 hy1))
 all_goals
  go_ret
  refine ⟨ret_bool ?_,bel⟩
  first
   | (rw [eq_comm,Bool.eq_false_iff,Ne,valKnown_iff'];intro hx;simp_all;done)
   | (rw [Bool.eq_iff_iff,valKnown_iff'];simp_all;done)
end Go.Proofs.YtldbpmlgbbomcaaGreatDoor
