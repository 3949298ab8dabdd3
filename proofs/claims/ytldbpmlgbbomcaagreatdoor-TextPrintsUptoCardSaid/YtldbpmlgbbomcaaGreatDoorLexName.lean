/- Names and keywords: lex.Name, lex.Key and the references of the same. -/
import Derived.Test.YtldbpmlgbbomcaaGreatDoorTypes
import Derived.Test.YtldbpmlgbbomcaaGreatDoorNum
namespace Go.Proofs.YtldbpmlgbbomcaaGreatDoor
open Go.RowKit

def isLow (c:UInt8):Bool:=decide (97 ≤ (c.toNat:Int)) && decide ((c.toNat:Int) ≤ 122)
def isDig (c:UInt8):Bool:=decide (48 ≤ (c.toNat:Int)) && decide ((c.toNat:Int) ≤ 57)
def isWord (c:UInt8):Bool:=isLow c || isDig c
def keyWords:List (List UInt8):=[[97,110,100],[111,114],[110,111,116],[116,114,117,101],[102,97,108,115,101],[105,102],[108,101,110]]
def isKey (s:ByteArray):Bool:=keyWords.contains s.toList
def nameOk (s:ByteArray):Bool:=(match s.data.toList with | [] => false | c :: r => isLow c && r.all isWord) && !isKey s
def nameCheck (s:ByteArray):Int:=if s.size < 1 ∨ 10 < s.size then 1 else if nameOk s then 0 else 3
theorem byte_bd (c:UInt8):0 ≤ (c.toNat:Int) ∧ (c.toNat:Int) ≤ 255:=by
 have:=c.toNat_lt;omega

set_option maxHeartbeats 400000 in
theorem lex_letter (c:UInt8) (w:World) :
  Calls Tryz.prog 83 #[.int .u8 (c.toNat:Int)] w fun e w' => e = .returned (.bool (isLow c)) ∧ w = w':=by
 have hb:=byte_bd c
 go_enter Tryz.func83,Tryz.ntmps83
 go_wp2
 all_goals
  go_ret
  exact ⟨ret_bool (by unfold isLow;simp;try omega),rfl⟩
set_option maxHeartbeats 400000 in
theorem lex_digit (c:UInt8) (w:World) :
  Calls Tryz.prog 81 #[.int .u8 (c.toNat:Int)] w fun e w' => e = .returned (.bool (isDig c)) ∧ w = w':=by
 have hb:=byte_bd c
 go_enter Tryz.func81,Tryz.ntmps81
 go_wp2
 all_goals
  go_ret
  exact ⟨ret_bool (by unfold isDig;simp;try omega),rfl⟩
set_option maxHeartbeats 400000 in
theorem ref_small (c:UInt8) (w:World) :
  Calls Tryz.prog 46 #[.int .u8 (c.toNat:Int)] w fun e w' => e = .returned (.bool (isLow c)) ∧ w = w':=by
 have hb:=byte_bd c
 go_enter Tryz.func46,Tryz.ntmps46
 go_wp2
 all_goals
  go_ret
  exact ⟨ret_bool (by unfold isLow;simp;try omega),rfl⟩
set_option maxHeartbeats 400000 in
theorem ref_figure (c:UInt8) (w:World) :
  Calls Tryz.prog 44 #[.int .u8 (c.toNat:Int)] w fun e w' => e = .returned (.bool (isDig c)) ∧ w = w':=by
 have hb:=byte_bd c
 go_enter Tryz.func44,Tryz.ntmps44
 go_wp2
 all_goals
  go_ret
  exact ⟨ret_bool (by unfold isDig;simp;try omega),rfl⟩
set_option maxHeartbeats 400000 in
theorem lex_Name1 (c:UInt8) (w:World) :
  Calls Tryz.prog 121 #[.int .u8 (c.toNat:Int)] w fun e w' => e = .returned (.bool (isWord c)) ∧ w = w':=by
 have hb:=byte_bd c
 go_enter Tryz.func121,Tryz.ntmps121
 go_wp2_with (first | (go_at_call 83;refine (lex_letter c _).mono ?_;rintro e w' ⟨rfl,rfl⟩) | (go_at_call 81;refine (lex_digit c _).mono ?_;rintro e w' ⟨rfl,rfl⟩))
 all_goals
  go_ret
  exact ⟨ret_bool (by simp_all [isWord]),rfl⟩
theorem cf_name1 (args:Array Value) (w:World):(callFunc 121 args).run Tryz.prog w = .ok (.enter 121 args) w :=
 cf _ _ Tryz.func121 (by kernel_rfl) (by kernel_rfl) args w

def spanLen (p:UInt8 → Bool) (l:List UInt8):Nat:=(l.takeWhile p).length
theorem spanLen_eq (p:UInt8 → Bool) (l:List UInt8) (k:Nat) (h:(l.take k).all p = true) (hk:k ≤ l.length) (hn:∀ c,l[k]? = some c → p c = false):spanLen p l = k:=by
 induction l generalizing k with
 | nil => simp at hk;subst hk;rfl
 | cons a l ih =>
  cases k with
  | zero => simp [spanLen,hn a rfl]
  | succ k =>
   simp only [List.take_succ_cons,List.all_cons,Bool.and_eq_true] at h
   have:=ih k h.2 (by simpa using hk) (fun c hc => hn c (by simpa using hc))
   simp only [spanLen] at this
   simp [spanLen,h.1,this]

set_option maxHeartbeats 400000 in
theorem lex_span (f:FuncId) (p:UInt8 → Bool) (s:ByteArray) (w:World) (hs:s.size ≤ maxLen) (hcf:∀ args w,(callFunc f args).run Tryz.prog w = .ok (.enter f args) w)
  (hf:∀ (c:UInt8) w,Calls Tryz.prog f #[.int .u8 (c.toNat:Int)] w fun e w' => e = .returned (.bool (p c)) ∧ w = w') :
  Calls Tryz.prog 84 #[.string s,.func (.func f) #[] #[]] w fun e w' => e = .returned (.int .i64 (spanLen p s.data.toList)) ∧ w = w':=by
 unfold maxLen at hs
 have HF:=Lib.hid hf
 clear hf
 go_enter Tryz.func84,Tryz.ntmps84
 go_wp2_with fail
 go_loop [5] (fun i => ∃ k:Nat,i = .int .i64 k ∧ k ≤ s.size ∧ (s.data.toList.take k).all p = true) (fun i => s.size - (intOf i).toNat)
 case atStart => exact ⟨0,rfl,by omega,by simp⟩
 case round =>
  obtain ⟨k,rfl,hk,ha⟩:=hrel
  have HA:=Lib.hid ha
  clear ha
  by_cases hlt:k < s.size
  ·have hsn:=take_snoc s k hlt
   have hget:s.data.toList[k]? = some s[k]:=by rw [List.getElem?_eq_getElem (by simpa using hlt)];rfl
   have HS:=Lib.hid hsn
   have HG:=Lib.hid hget
   clear hsn hget
   cases hok:p s[k]
   ·have HK:=Lib.hid hok
    go_wp2_with (refine (HF.out _ _).mono ?_;rintro e w' ⟨rfl,rfl⟩)
    go_ret
    exact ⟨ret_int (by rw [spanLen_eq p _ k HA.out (by simpa using hk) (fun c hc => by rw [HG.out] at hc;cases hc;exact HK.out)]),rfl⟩
   ·have HK:=Lib.hid hok
    go_wp2_with (refine (HF.out _ _).mono ?_;rintro e w' ⟨rfl,rfl⟩)
    go_round
    case rel => exact ⟨k + 1,by go_num,by omega,by rw [HS.out,List.all_append,HA.out];simp [HK.out]⟩
    case measure => simp [intOf];omega
  ·have hke:k = s.size:=by omega
   subst hke
   go_wp2_with fail
   go_ret
   exact ⟨ret_int (by rw [spanLen_eq p _ s.size HA.out (by simp) (fun c hc => by have:=(List.getElem?_eq_some_iff.1 hc).1;simp at this)]),rfl⟩

set_option maxHeartbeats 1000000 in
theorem lex_Key (s:ByteArray) (w:World) :
  Calls Tryz.prog 122 #[.string s] w fun e w' => e = .returned (.bool (isKey s)) ∧ w = w':=by
 go_enter Tryz.func122,Tryz.ntmps122
 go_wp2_with fail
 all_goals
  go_ret
  exact ⟨ret_bool (by simp_all [isKey,keyWords]),rfl⟩

theorem spanLen_le (p:UInt8 → Bool) (l:List UInt8):spanLen p l ≤ l.length:=by unfold spanLen;exact (List.takeWhile_sublist _).length_le
theorem spanLen_all (p:UInt8 → Bool) (l:List UInt8):l.length ≤ spanLen p l ↔ l.all p = true:=by
 induction l with
 | nil => simp [spanLen]
 | cons a l ih =>
  simp only [spanLen] at ih
  by_cases h:p a = true
  ·simp [spanLen,h,ih]
  ·simp [spanLen,h]
theorem isLow_word {c:UInt8} (h:isLow c = true):isWord c = true:=by simp [isWord,h]
theorem nameOk_iff (s:ByteArray) (h:0 < s.size):nameOk s = true ↔ isLow s[0] = true ∧ s.size ≤ spanLen isWord s.data.toList ∧ isKey s = false:=by
 have hl:s.data.toList.length = s.size:=by simp
 have hall:=spanLen_all isWord s.data.toList
 rw [hl] at hall
 rw [hall]
 have h0:s.data.toList[0]? = some s[0]:=by rw [List.getElem?_eq_getElem (by rw [hl];exact h)];rfl
 unfold nameOk
 generalize s[0] = a at h0
 cases hd:s.data.toList with
 | nil => rw [hd] at hl;simp at hl;omega
 | cons c r =>
  rw [hd] at h0
  simp only [List.getElem?_cons_zero,Option.some.injEq] at h0
  subst h0
  simp only [List.all_cons,Bool.and_eq_true,Bool.not_eq_true']
  constructor
  ·rintro ⟨⟨a,b⟩,c⟩;exact ⟨a,⟨isLow_word a,b⟩,c⟩
  ·rintro ⟨a,⟨_,b⟩,c⟩;exact ⟨⟨a,b⟩,c⟩

set_option maxHeartbeats 400000 in
theorem lex_Name (s:ByteArray) (w:World) (hs:s.size ≤ maxLen) :
  Calls Tryz.prog 68 #[.string s] w fun e w' => e = .returned (.int .i64 (nameCheck s)) ∧ w = w':=by
 have hs':=hs
 unfold maxLen at hs'
 by_cases h1:s.size < 1 ∨ 10 < s.size
 ·have h:nameCheck s = 1:=by rw [nameCheck,if_pos h1]
  have H:=Lib.hid h
  clear h
  rcases h1 with h1 | h1
  all_goals
   go_enter Tryz.func68,Tryz.ntmps68
   go_wp2_with fail
   go_ret
   exact ⟨ret_int H.out.symm,rfl⟩
 ·have h0:0 < s.size:=by omega
  have h10:s.size ≤ 10:=by omega
  have hn:nameCheck s = if nameOk s = true then 0 else 3:=by rw [nameCheck,if_neg h1]
  have hi:=nameOk_iff s h0
  have hsp:=spanLen_le isWord s.data.toList
  have hsp':spanLen isWord s.data.toList ≤ s.size:=by simpa using hsp
  have key:(isLow s[0] = false ∧ nameCheck s = 3) ∨ (isLow s[0] = true ∧ spanLen isWord s.data.toList < s.size ∧ nameCheck s = 3) ∨
    (isLow s[0] = true ∧ s.size ≤ spanLen isWord s.data.toList ∧ isKey s = true ∧ nameCheck s = 3) ∨ (isLow s[0] = true ∧ s.size ≤ spanLen isWord s.data.toList ∧ isKey s = false ∧ nameCheck s = 0):=by
   rw [hn]
   cases h1:isLow s[0]
   ·exact .inl ⟨rfl,by rw [if_neg (fun h => by have:=hi.1 h;simp [h1] at this)]⟩
   ·by_cases h2:s.size ≤ spanLen isWord s.data.toList
    ·cases h3:isKey s
     ·exact .inr (.inr (.inr ⟨rfl,h2,rfl,by rw [if_pos (hi.2 ⟨h1,h2,h3⟩)]⟩))
     ·exact .inr (.inr (.inl ⟨rfl,h2,rfl,by rw [if_neg (fun h => by have:=hi.1 h;simp [h3] at this)]⟩))
    ·exact .inr (.inl ⟨rfl,by omega,by rw [if_neg (fun h => h2 (hi.1 h).2.1)]⟩)
  clear hn hi h1 hsp
  rcases key with ⟨k1,H⟩ | ⟨k1,k2,H⟩ | ⟨k1,k2,k3,H⟩ | ⟨k1,k2,k3,H⟩
  all_goals
   have HH:=Lib.hid H
   clear H
   go_enter Tryz.func68,Tryz.ntmps68
   go_wp2_with (first | (go_at_call 83;refine (lex_letter _ _).mono ?_;rintro e w' ⟨rfl,rfl⟩) | (go_at_call 122;refine (lex_Key _ _).mono ?_;rintro e w' ⟨rfl,rfl⟩) | (go_at_call 84;refine (lex_span 121 isWord s _ hs cf_name1 lex_Name1).mono ?_;rintro e w' ⟨rfl,rfl⟩))
   go_ret
   exact ⟨ret_int HH.out.symm,rfl⟩

set_option maxHeartbeats 1000000 in
theorem ref_LexKey (s:ByteArray) (w:World) :
  Calls Tryz.prog 94 #[.string s] w fun e w' => e = .returned (.bool (isKey s)) ∧ Below w.heap.size w w':=by
 go_enter Tryz.func94,Tryz.ntmps94
 go_wp2_with fail
 go_loop [7] (fun i => ∃ k:Nat,i = .int .i64 k ∧ k ≤ 7 ∧ (keyWords.take k).contains s.toList = false) (fun i => 7 - (intOf i).toNat)
 case atStart => exact ⟨0,rfl,by omega,by simp⟩
 case round =>
  obtain ⟨k,rfl,hk,ha⟩:=hrel
  have HA:=Lib.hid ha
  clear ha
  have hk':k = 0 ∨ k = 1 ∨ k = 2 ∨ k = 3 ∨ k = 4 ∨ k = 5 ∨ k = 6 ∨ k = 7:=by omega
  rcases hk' with rfl | rfl | rfl | rfl | rfl | rfl | rfl | rfl
  ·go_wp2_with fail
   ·go_ret
    have h:(s.toList == [97,110,100]) = true:=by assumption
    exact ⟨ret_bool (by rw [beq_iff_eq] at h;simp [isKey,keyWords,h]),bel⟩
   ·have h:(s.toList == [97,110,100]) = false:=by assumption
    have H:=Lib.hid h
    clear h
    go_round
    case rel => exact ⟨1,rfl,by omega,by have h1:=HA.out;have h2:=H.out;simp [keyWords] at h1 h2 ⊢;simp_all⟩
    case measure => simp [intOf]
  ·go_wp2_with fail
   ·go_ret
    have h:(s.toList == [111,114]) = true:=by assumption
    exact ⟨ret_bool (by rw [beq_iff_eq] at h;simp [isKey,keyWords,h]),bel⟩
   ·have h:(s.toList == [111,114]) = false:=by assumption
    have H:=Lib.hid h
    clear h
    go_round
    case rel => exact ⟨2,rfl,by omega,by have h1:=HA.out;have h2:=H.out;simp [keyWords] at h1 h2 ⊢;simp_all⟩
    case measure => simp [intOf]
  ·go_wp2_with fail
   ·go_ret
    have h:(s.toList == [110,111,116]) = true:=by assumption
    exact ⟨ret_bool (by rw [beq_iff_eq] at h;simp [isKey,keyWords,h]),bel⟩
   ·have h:(s.toList == [110,111,116]) = false:=by assumption
    have H:=Lib.hid h
    clear h
    go_round
    case rel => exact ⟨3,rfl,by omega,by have h1:=HA.out;have h2:=H.out;simp [keyWords] at h1 h2 ⊢;simp_all⟩
    case measure => simp [intOf]
  ·go_wp2_with fail
   ·go_ret
    have h:(s.toList == [116,114,117,101]) = true:=by assumption
    exact ⟨ret_bool (by rw [beq_iff_eq] at h;simp [isKey,keyWords,h]),bel⟩
   ·have h:(s.toList == [116,114,117,101]) = false:=by assumption
    have H:=Lib.hid h
    clear h
    go_round
    case rel => exact ⟨4,rfl,by omega,by have h1:=HA.out;have h2:=H.out;simp [keyWords] at h1 h2 ⊢;simp_all⟩
    case measure => simp [intOf]
  ·go_wp2_with fail
   ·go_ret
    have h:(s.toList == [102,97,108,115,101]) = true:=by assumption
    exact ⟨ret_bool (by rw [beq_iff_eq] at h;simp [isKey,keyWords,h]),bel⟩
   ·have h:(s.toList == [102,97,108,115,101]) = false:=by assumption
    have H:=Lib.hid h
    clear h
    go_round
    case rel => exact ⟨5,rfl,by omega,by have h1:=HA.out;have h2:=H.out;simp [keyWords] at h1 h2 ⊢;simp_all⟩
    case measure => simp [intOf]
  ·go_wp2_with fail
   ·go_ret
    have h:(s.toList == [105,102]) = true:=by assumption
    exact ⟨ret_bool (by rw [beq_iff_eq] at h;simp [isKey,keyWords,h]),bel⟩
   ·have h:(s.toList == [105,102]) = false:=by assumption
    have H:=Lib.hid h
    clear h
    go_round
    case rel => exact ⟨6,rfl,by omega,by have h1:=HA.out;have h2:=H.out;simp [keyWords] at h1 h2 ⊢;simp_all⟩
    case measure => simp [intOf]
  ·go_wp2_with fail
   ·go_ret
    have h:(s.toList == [108,101,110]) = true:=by assumption
    exact ⟨ret_bool (by rw [beq_iff_eq] at h;simp [isKey,keyWords,h]),bel⟩
   ·have h:(s.toList == [108,101,110]) = false:=by assumption
    have H:=Lib.hid h
    clear h
    go_round
    case rel => exact ⟨7,rfl,by omega,by have h1:=HA.out;have h2:=H.out;simp [keyWords] at h1 h2 ⊢;simp_all⟩
    case measure => simp [intOf]
  ·go_wp2_with fail
   go_ret
   exact ⟨ret_bool (by have:=HA.out;simpa [isKey,keyWords] using this.symm),bel⟩

set_option maxHeartbeats 400000 in
theorem ref_LexName (s:ByteArray) (w:World) (hs:s.size ≤ maxLen) :
  Calls Tryz.prog 74 #[.string s] w fun e w' => e = .returned (.int .i64 (nameCheck s)) ∧ Below w.heap.size w w':=by
 have hs':=hs
 unfold maxLen at hs'
 have htl:s.toList = s.data.toList:=ByteArray.toList_eq s
 by_cases h1:s.size < 1 ∨ 10 < s.size
 ·have h:nameCheck s = 1:=by rw [nameCheck,if_pos h1]
  have H:=Lib.hid h
  clear h
  by_cases h0:s.size = 0
  ·have he:s.toList = []:=by rw [htl];apply List.eq_nil_of_length_eq_zero;simpa using h0
   clear htl h1 h0
   go_enter Tryz.func74,Tryz.ntmps74
   go_wp2_with fail
   go_ret
   exact ⟨ret_int H.out.symm,bel⟩
  ·have hne:s.toList.isEmpty = false:=by
    rw [htl];cases hd:s.data.toList with
    | nil =>
     have:s.data.toList.length = 0:=by rw [hd];rfl
     simp at this;exact absurd this (by simpa using h0)
    | cons a l => rfl
   have h10:10 < s.size:=by omega
   clear htl h1 h0
   go_enter Tryz.func74,Tryz.ntmps74
   go_wp2_with fail
   go_ret
   exact ⟨ret_int H.out.symm,bel⟩
 ·have h0:0 < s.size:=by omega
  have h10:s.size ≤ 10:=by omega
  have hn:nameCheck s = if nameOk s = true then 0 else 3:=by rw [nameCheck,if_neg h1]
  have hi:=nameOk_iff s h0
  have hne:s.toList.isEmpty = false:=by
   rw [htl];cases hd:s.data.toList with
   | nil =>
    have hl:s.data.toList.length = s.size:=by simp
    rw [hd] at hl
    have hl':0 = s.size:=hl
    omega
   | cons a l => rfl
  have hall:=spanLen_all isWord s.data.toList
  rw [show s.data.toList.length = s.size by simp] at hall
  have hbad:(isLow s[0] = false ∨ s.data.toList.all isWord = false) → nameCheck s = 3:=by
   intro h
   rw [hn,if_neg (fun hh => ?_)]
   have h3:=hi.1 hh
   rcases h with h | h
   ·rw [h] at h3;simp at h3
   ·have:=hall.1 h3.2.1;rw [this] at h;simp at h
  have hend:isLow s[0] = true → s.data.toList.all isWord = true → nameCheck s = if isKey s then 3 else 0:=by
   intro ha hb
   have hl:s.size ≤ spanLen isWord s.data.toList:=hall.2 hb
   rw [hn]
   cases hk:isKey s
   ·rw [if_pos (hi.2 ⟨ha,hl,hk⟩)];rfl
   ·rw [if_neg (fun hh => by have:=hi.1 hh;simp [hk] at this)];rfl
  have hd10:decide ((10:Int) < (s.size:Int)) = false:=by simp;omega
  have HB:=Lib.hid hbad
  have HE:=Lib.hid hend
  clear hn hi h1 htl hall hbad hend
  go_enter Tryz.func74,Tryz.ntmps74
  go_wp2_with fail
  go_loop [3] (fun i => ∃ k:Nat,i = .int .i64 k ∧ k ≤ s.size ∧ (0 < k → isLow s[0] = true) ∧ (s.data.toList.take k).all isWord = true) (fun i => s.size - (intOf i).toNat)
  case atStart => exact ⟨0,rfl,by omega,fun h => by omega,by simp⟩
  case round =>
   obtain ⟨k,rfl,hk,hl,ha⟩:=hrel
   have HA:=Lib.hid (And.intro hl ha)
   clear hl ha
   by_cases hlt:k < s.size
   ·have hsn:=take_snoc s k hlt
    have hmem:s.data.toList.all isWord = true → isWord s[k] = true:=by
     intro h
     rw [List.all_eq_true] at h
     exact h s[k] (by rw [ByteArray.getElem_eq_getElem_data];simp)
    have HS:=Lib.hid (And.intro hsn hmem)
    clear hsn hmem
    cases hlo:isLow s[k]
    ·rcases Nat.eq_zero_or_pos k with h | hpos
     ·subst h
      have HL:=Lib.hid hlo
      go_wp2_with (first | (go_at_call 46;refine (ref_small _ _).mono ?_;rintro e w' ⟨rfl,rfl⟩) | (go_at_call 44;refine (ref_figure _ _).mono ?_;rintro e w' ⟨rfl,rfl⟩))
      go_ret
      exact ⟨ret_int (HB.out (.inl HL.out)).symm,bel⟩
     ·have hd0:decide ((0:Int) < (k:Int)) = true:=by simp;omega
      cases hdg:isDig s[k]
      ·have HL:=Lib.hid (And.intro hlo hdg)
       go_wp2_with (first | (go_at_call 46;refine (ref_small _ _).mono ?_;rintro e w' ⟨rfl,rfl⟩) | (go_at_call 44;refine (ref_figure _ _).mono ?_;rintro e w' ⟨rfl,rfl⟩))
       go_ret
       refine ⟨ret_int (HB.out (.inr ?_)).symm,bel⟩
       rw [Bool.eq_false_iff]
       intro h
       have:=HS.out.2 h
       simp [isWord,HL.out.1,HL.out.2] at this
      ·have HL:=Lib.hid hdg
       go_wp2_with (first | (go_at_call 46;refine (ref_small _ _).mono ?_;rintro e w' ⟨rfl,rfl⟩) | (go_at_call 44;refine (ref_figure _ _).mono ?_;rintro e w' ⟨rfl,rfl⟩))
       go_round
       case rel => exact ⟨k + 1,by go_num,by omega,fun _ => HA.out.1 hpos,by rw [HS.out.1,List.all_append,HA.out.2];simp [isWord,HL.out]⟩
       case measure => simp [intOf];omega
    ·have HL:=Lib.hid hlo
     go_wp2_with (first | (go_at_call 46;refine (ref_small _ _).mono ?_;rintro e w' ⟨rfl,rfl⟩))
     go_round
     case rel =>
      refine ⟨k + 1,by go_num,by omega,fun _ => ?_,by rw [HS.out.1,List.all_append,HA.out.2];simp [isWord,HL.out]⟩
      rcases Nat.eq_zero_or_pos k with h | hpos
      ·subst h;exact HL.out
      ·exact HA.out.1 hpos
     case measure => simp [intOf];omega
   ·have hke:k = s.size:=by omega
    subst hke
    have h:=HE.out (HA.out.1 h0) (by have:=HA.out.2;rwa [List.take_of_length_le (by simp)] at this)
    have H:=Lib.hid h
    clear h
    go_wp2_with (go_at_call 94;refine (ref_LexKey _ _).mono ?_;rintro e w1 ⟨rfl,hb1⟩)
    all_goals
     go_ret
     refine ⟨ret_int ?_,bel⟩
     rw [H.out]
     simp_all
end Go.Proofs.YtldbpmlgbbomcaaGreatDoor
