/- Names and keywords: lex.Name, lex.Key and the references of the same. -/
import Derived.Test.YtnmodemdfclkpaaDoorTypes
import Derived.Test.YtnmodemdfclkpaaDoorNum
namespace Go.Proofs.YtnmodemdfclkpaaDoor
open Go.RowKit

def isLow (c:UInt8):Bool:=decide (97 ≤ (c.toNat:Int)) && decide ((c.toNat:Int) ≤ 122)
def isDig (c:UInt8):Bool:=decide (48 ≤ (c.toNat:Int)) && decide ((c.toNat:Int) ≤ 57)
def isWord (c:UInt8):Bool:=isLow c || isDig c
def keyWords:List (List UInt8):=[[97,110,100],[111,114],[110,111,116],[116,114,117,101],[102,97,108,115,101],[105,102],[108,101,110]]
def isKey (s:ByteArray):Bool:=keyWords.contains s.toList
def nameOk (s:ByteArray):Bool:=(match s.data.toList with | [] => false | c :: r => isLow c && r.all isWord) && !isKey s
def nameCheck (s:ByteArray):Int:=if s.size < 1 ∨ 10 < s.size then 1 else if nameOk s then 0 else 3
theorem byte_bd (c:UInt8):0 ≤ (c.toNat:Int) ∧ (c.toNat:Int) ≤ 255:=by
 have:=c.toNat_lt;omega

set_option maxHeartbeats 400000 in
theorem lex_letter (c:UInt8) (w:World) :
  Calls Tryd.prog 15 #[.int .u8 (c.toNat:Int)] w fun e w' => e = .returned (.bool (isLow c)) ∧ w = w':=by
 have hb:=byte_bd c
 go_enter Tryd.func15,Tryd.ntmps15
 go_wp2
 all_goals
  go_ret
  exact ⟨ret_bool (by unfold isLow;simp;try omega),rfl⟩
set_option maxHeartbeats 400000 in
theorem lex_digit (c:UInt8) (w:World) :
  Calls Tryd.prog 13 #[.int .u8 (c.toNat:Int)] w fun e w' => e = .returned (.bool (isDig c)) ∧ w = w':=by
 have hb:=byte_bd c
 go_enter Tryd.func13,Tryd.ntmps13
 go_wp2
 all_goals
  go_ret
  exact ⟨ret_bool (by unfold isDig;simp;try omega),rfl⟩
set_option maxHeartbeats 400000 in
theorem ref_small (c:UInt8) (w:World) :
  Calls Tryd.prog 10 #[.int .u8 (c.toNat:Int)] w fun e w' => e = .returned (.bool (isLow c)) ∧ w = w':=by
 have hb:=byte_bd c
 go_enter Tryd.func10,Tryd.ntmps10
 go_wp2
 all_goals
  go_ret
  exact ⟨ret_bool (by unfold isLow;simp;try omega),rfl⟩
set_option maxHeartbeats 400000 in
theorem ref_figure (c:UInt8) (w:World) :
  Calls Tryd.prog 8 #[.int .u8 (c.toNat:Int)] w fun e w' => e = .returned (.bool (isDig c)) ∧ w = w':=by
 have hb:=byte_bd c
 go_enter Tryd.func8,Tryd.ntmps8
 go_wp2
 all_goals
  go_ret
  exact ⟨ret_bool (by unfold isDig;simp;try omega),rfl⟩
def spanLen (p:UInt8 → Bool) (l:List UInt8):Nat:=(l.takeWhile p).length
theorem spanLen_eq (p:UInt8 → Bool) (l:List UInt8) (k:Nat) (h:(l.take k).all p = true) (hk:k ≤ l.length) (hn:∀ c,l[k]? = some c → p c = false):spanLen p l = k:=by
 induction l generalizing k with
 | nil => simp at hk;subst hk;rfl
 | cons a l ih =>
  cases k with
  | zero => simp [spanLen,hn a rfl]
  | succ k =>
   simp only [List.take_succ_cons,List.all_cons,Bool.and_eq_true] at h
   have:=ih k h.2 (by simpa using hk) (fun c hc => hn c (by simpa using hc))
   simp only [spanLen] at this
   simp [spanLen,h.1,this]

set_option maxHeartbeats 400000 in
theorem lex_span (f:FuncId) (p:UInt8 → Bool) (s:ByteArray) (w:World) (hs:s.size ≤ maxLen) (hcf:∀ args w,(callFunc f args).run Tryd.prog w = .ok (.enter f args) w)
  (hf:∀ (c:UInt8) w,Calls Tryd.prog f #[.int .u8 (c.toNat:Int)] w fun e w' => e = .returned (.bool (p c)) ∧ w = w') :
  Calls Tryd.prog 16 #[.string s,.func (.func f) #[] #[]] w fun e w' => e = .returned (.int .i64 (spanLen p s.data.toList)) ∧ w = w':=by
 unfold maxLen at hs
 have HF:=Lib.hid hf
 clear hf
 go_enter Tryd.func16,Tryd.ntmps16
 go_wp2_with fail
 go_loop [5] (fun i => ∃ k:Nat,i = .int .i64 k ∧ k ≤ s.size ∧ (s.data.toList.take k).all p = true) (fun i => s.size - (intOf i).toNat)
 case atStart => exact ⟨0,rfl,by omega,by simp⟩
 case round =>
  obtain ⟨k,rfl,hk,ha⟩:=hrel
  have HA:=Lib.hid ha
  clear ha
  by_cases hlt:k < s.size
  ·have hsn:=take_snoc s k hlt
   have hget:s.data.toList[k]? = some s[k]:=by rw [List.getElem?_eq_getElem (by simpa using hlt)];rfl
   have HS:=Lib.hid hsn
   have HG:=Lib.hid hget
   clear hsn hget
   cases hok:p s[k]
   ·have HK:=Lib.hid hok
    go_wp2_with (refine (HF.out _ _).mono ?_;rintro e w' ⟨rfl,rfl⟩)
    go_ret
    exact ⟨ret_int (by rw [spanLen_eq p _ k HA.out (by simpa using hk) (fun c hc => by rw [HG.out] at hc;cases hc;exact HK.out)]),rfl⟩
   ·have HK:=Lib.hid hok
    go_wp2_with (refine (HF.out _ _).mono ?_;rintro e w' ⟨rfl,rfl⟩)
    go_round
    case rel => exact ⟨k + 1,by go_num,by omega,by rw [HS.out,List.all_append,HA.out];simp [HK.out]⟩
    case measure => simp [intOf];omega
  ·have hke:k = s.size:=by omega
   subst hke
   go_wp2_with fail
   go_ret
   exact ⟨ret_int (by rw [spanLen_eq p _ s.size HA.out (by simp) (fun c hc => by have:=(List.getElem?_eq_some_iff.1 hc).1;simp at this)]),rfl⟩

theorem spanLen_le (p:UInt8 → Bool) (l:List UInt8):spanLen p l ≤ l.length:=by unfold spanLen;exact (List.takeWhile_sublist _).length_le
theorem spanLen_all (p:UInt8 → Bool) (l:List UInt8):l.length ≤ spanLen p l ↔ l.all p = true:=by
 induction l with
 | nil => simp [spanLen]
 | cons a l ih =>
  simp only [spanLen] at ih
  by_cases h:p a = true
  ·simp [spanLen,h,ih]
  ·simp [spanLen,h]
theorem isLow_word {c:UInt8} (h:isLow c = true):isWord c = true:=by simp [isWord,h]
theorem nameOk_iff (s:ByteArray) (h:0 < s.size):nameOk s = true ↔ isLow s[0] = true ∧ s.size ≤ spanLen isWord s.data.toList ∧ isKey s = false:=by
 have hl:s.data.toList.length = s.size:=by simp
 have hall:=spanLen_all isWord s.data.toList
 rw [hl] at hall
 rw [hall]
 have h0:s.data.toList[0]? = some s[0]:=by rw [List.getElem?_eq_getElem (by rw [hl];exact h)];rfl
 unfold nameOk
 generalize s[0] = a at h0
 cases hd:s.data.toList with
 | nil => rw [hd] at hl;simp at hl;omega
 | cons c r =>
  rw [hd] at h0
  simp only [List.getElem?_cons_zero,Option.some.injEq] at h0
  subst h0
  simp only [List.all_cons,Bool.and_eq_true,Bool.not_eq_true']
  constructor
  ·rintro ⟨⟨a,b⟩,c⟩;exact ⟨a,⟨isLow_word a,b⟩,c⟩
  ·rintro ⟨a,⟨_,b⟩,c⟩;exact ⟨⟨a,b⟩,c⟩

end Go.Proofs.YtnmodemdfclkpaaDoor
