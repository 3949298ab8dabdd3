/- Texts merged (mergeh.py): Val LexName. -/
import Derived.Test.YtldhlpjjcnlbcaaGreatTypes
import Derived.Test.YtldhlpjjcnlbcaaGreatNum
import Derived.Deep.QuietTactic
import Derived.BigQuiet
/- Values: value.Check, value.Known, value.Zero and the references of the same. -/
set_option maxRecDepth 100000
set_option maxHeartbeats 8000000
namespace Go.Proofs.YtldhlpjjcnlbcaaGreat
open Go.RowKit
def z77 (c:UInt8):Bool:=decide (32<=(c.toNat:Int))&&decide ((c.toNat:Int)<=126)
def z38 (s:ByteArray):Int:=if 40<s.size then 1 else if s.data.toList.all z77 then 0 else 3
def z1c (s:ByteArray):Int:=if s.toList.isEmpty then 0 else 3
def valCheck (v:Val):Int :=
 if v.k=1 then (if z0o v.n=0 then z1c v.s else 7)
 else if v.k=2 then (if v.n=0\/v.n=1 then z1c v.s else 4)
 else if v.k=3 then (if v.n=0 then z38 v.s else 4)
 else if v.k=4 then (if v.n=0 then z1c v.s else 4)
 else if v.k=5 then (if v.n<1\/15<v.n then 4 else z1c v.s)
 else 2
def z0b (v:Val):Bool:=decide (1<=v.k)&&decide (v.k<=3)&&decide (valCheck v=0)
theorem value_checkText (s:ByteArray)(w:World)(hs:s.size<=maxLen) :
  Calls Tryz.prog 172 #[.string s] w fun e w'=>e=.returned (.int .i64 (z38 s))/\w=w':=by
 unfold maxLen at hs
 by_cases h40:40<s.size
 ·go_enter Tryz.func172,Tryz.ntmps172
  go_wp2
  go_ret
  exact⟨z0n (by simp[z38,h40]),rfl⟩
 have h40':s.size<=40:=by omega
 have hd:decide ((40:Int)<(s.size:Int))=false:=by simp;omega
 have hsp:z38 s=if s.data.toList.all z77 then 0 else 3:=by rw[z38,if_neg h40]
 have HSP:=zh hsp
 clear hsp h40
 go_enter Tryz.func172,Tryz.ntmps172
 go_wp2
 go_loop [9] (fun i=>∃ k:Nat,i=.int .i64 k/\k<=s.size/\(s.data.toList.take k).all z77=true) (fun i=>s.size-(intOf i).toNat)
 case atStart=>exact⟨0,rfl,by omega,by simp⟩
 case round =>
  obtain⟨k,rfl,hk,ha⟩:=hrel
  have HA:=zh ha
  clear ha
  by_cases hlt:k<s.size
  ·have hsn:=zbf s k hlt
   have HS:=zh hsn
   clear hsn
   by_cases hok:z77 s[k]=true
   ·have HK:=zh hok
    have hb:=hok
    simp only[z77,Bool.and_eq_true,decide_eq_true_eq] at hb
    obtain⟨hb1,hb2⟩:=hb
    clear hok
    go_wp2
    go_round
    case rel=>exact⟨k+1,by go_num,by omega,by rw[HS.out,List.all_append,HA.out];simp[HK.out]⟩
    case measure=>simp[intOf];omega
   have HK:=zh hok
   have hb:(s[k].toNat:Int)<32\/126<(s[k].toNat:Int):=by
    have h:=hok
    simp only[z77,Bool.and_eq_true,decide_eq_true_eq] at h
    omega
   have hne:¬ s.data.toList.all z77=true:=by
    intro h
    rw[List.all_eq_true] at h
    exact hok (h s[k] (by rw[ByteArray.getElem_eq_getElem_data];simp))
   have HN:=zh hne
   clear hok hne
   rcases hb with hb | hb
   all_goals
    go_wp2
    go_ret
    exact⟨z0n (by rw[HSP.out,if_neg HN.out]),rfl⟩
  have hke:k=s.size:=by omega
  subst hke
  go_wp2
  go_ret
  exact⟨z0n (by rw[HSP.out,if_pos (by have:=HA.out;rwa [List.take_of_length_le (by simp)] at this)]),rfl⟩
theorem z73 {s:ByteArray}(h:(!s.toList.isEmpty)=true):z1c s=3:=by
 unfold z1c;rw[if_neg (by simpa using h)]
theorem z72 {s:ByteArray}(h:(!s.toList.isEmpty)=false):z1c s=0:=by
 unfold z1c;rw[if_pos (by simpa using h)]
theorem z31 (k n:Int)(s:ByteArray)(w:World)(hs:s.size<=maxLen) :
  Calls Tryz.prog 130 #[.agg #[.int .i64 k,.int .i64 n,.string s]] w fun e w'=>e=.returned (.int .i64 (valCheck ⟨k,n,s⟩))/\Below w.heap.size w w':=by
 go_enter Tryz.func130,Tryz.ntmps130
 go_wp2_with (first | (go_at_call 171;refine (z52 _ _).mono ?_;rintro e w' ⟨rfl,rfl⟩) | (go_at_call 172;refine (value_checkText _ _ hs).mono ?_;rintro e w' ⟨rfl,rfl⟩))
 all_goals
  go_ret
  refine⟨z0n ?_,bel⟩
  first
   | (simp_all [valCheck,z73,z72,z4h];done)
   | (simp_all [valCheck,z73,z72,z4h];omega)
theorem z0q (k n:Int)(s:ByteArray)(w:World)(hs:s.size<=maxLen) :
  Calls Tryz.prog 83 #[.agg #[.int .i64 k,.int .i64 n,.string s]] w fun e w'=>e=.returned (.bool (z0b ⟨k,n,s⟩))/\Below w.heap.size w w':=by
 go_enter Tryz.func83,Tryz.ntmps83
 go_wp2_with (go_at_call 130;refine (z31 _ _ _ _ hs).mono ?_;rintro e w1 ⟨rfl,hb1⟩;refine zb hb1 ?_;rintro ⟨hc1,hf1⟩ hz1 hy1 hx1)
 all_goals
  go_ret
  refine⟨z34 ?_,bel⟩
  first
   | (simp_all [z0b];done)
   | (simp_all [z0b];omega)
   | (simp_all [z0b];rfl)
theorem z35 {v:Val}(h:valCheck v=0):1<=v.k/\v.k<=5:=by
 unfold valCheck at h
 repeat' split at h
 all_goals first | omega | (exfalso;omega)
theorem z5v (v:Val):z0b v=true↔1<=v.k/\v.k<=3/\valCheck v=0:=by simp[z0b,and_assoc]
theorem z23 (v:Val):z0b v=true↔valCheck v=0/\v.k<4:=by
 rw[z5v]
 exact⟨fun ⟨a,b,c⟩=>⟨c,by omega⟩,fun ⟨a,b⟩=>⟨(z35 a).1,by omega,a⟩⟩
def noVal:Val:=⟨0,0,⟨#[]⟩⟩
def z7h (k:Int):Val×Int:=if k<1\/3<k then (noVal,2) else (⟨k,0,⟨#[]⟩⟩,0)
theorem z21 (k n:Int)(s:ByteArray)(w:World)(hs:s.size<=maxLen) :
  Calls Tryz.prog 124 #[.agg #[.int .i64 k,.int .i64 n,.string s]] w fun e w'=>e=.returned (.int .i64 (valCheck ⟨k,n,s⟩))/\Below w.heap.size w w':=by
 by_cases hk1:k=1
 ·subst hk1
  by_cases hn:z0o n=0
  ·go_enter Tryz.func124,Tryz.ntmps124
   go_wp2_with (first | (go_at_call 165;refine (z17 _ _).mono ?_;rintro e w' ⟨rfl,rfl⟩))
   go_quiet (fail)
   go_wp2
   all_goals
    go_ret
    refine⟨z0n ?_,bel⟩
    simp_all [valCheck,z73,z72]
  have hn':(z0o n != 0)=true:=by simpa using hn
  go_enter Tryz.func124,Tryz.ntmps124
  go_wp2_with (first | (go_at_call 165;refine (z17 _ _).mono ?_;rintro e w' ⟨rfl,rfl⟩))
  go_ret
  exact⟨z0n (by simp[valCheck,hn]),bel⟩
 by_cases hk3:k=3
 ·subst hk3
  have hsp:n=0->¬ 40<s.size->valCheck ⟨3,n,s⟩=if s.data.toList.all z77 then 0 else 3:=by
   intro h1 h2
   simp[valCheck,h1,z38,h2]
  have hsq:n=0->40<s.size->valCheck ⟨3,n,s⟩=1:=by
   intro h1 h2
   simp[valCheck,h1,z38,h2]
  by_cases hn:n=0
  case neg =>
   have h:valCheck ⟨3,n,s⟩=4:=by simp[valCheck,hn]
   have H:=zh h
   clear h hsp hsq
   rcases (by omega:n<0\/0<n) with h | h
   all_goals
    clear hn
    go_enter Tryz.func124,Tryz.ntmps124
    go_wp2_with fail
    go_ret
    exact⟨z0n H.out.symm,bel⟩
  subst hn
  unfold maxLen at hs
  by_cases h40:40<s.size
  ·have H:=zh (hsq rfl h40)
   clear hsp hsq
   go_enter Tryz.func124,Tryz.ntmps124
   go_wp2_with fail
   go_ret
   exact⟨z0n H.out.symm,bel⟩
  have h40':s.size<=40:=by omega
  have hd:decide ((40:Int)<(s.size:Int))=false:=by simp;omega
  have HSP:=zh (hsp rfl h40)
  clear hsp hsq h40
  go_enter Tryz.func124,Tryz.ntmps124
  go_wp2_with fail
  go_loop [5] (fun i=>∃ k:Nat,i=.int .i64 k/\k<=s.size/\(s.data.toList.take k).all z77=true) (fun i=>s.size-(intOf i).toNat)
  case atStart=>exact⟨0,rfl,by omega,by simp⟩
  case round =>
   obtain⟨k,rfl,hk,ha⟩:=hrel
   have HA:=zh ha
   clear ha
   by_cases hlt:k<s.size
   ·have hsn:=zbf s k hlt
    have HS:=zh hsn
    clear hsn
    by_cases hok:z77 s[k]=true
    ·have HK:=zh hok
     have hb:=hok
     simp only[z77,Bool.and_eq_true,decide_eq_true_eq] at hb
     obtain⟨hb1,hb2⟩:=hb
     clear hok
     go_wp2
     go_round
     case rel=>exact⟨k+1,by go_num,by omega,by rw[HS.out,List.all_append,HA.out];simp[HK.out]⟩
     case measure=>simp[intOf];omega
    have HK:=zh hok
    have hb:(s[k].toNat:Int)<32\/126<(s[k].toNat:Int):=by
     have h:=hok
     simp only[z77,Bool.and_eq_true,decide_eq_true_eq] at h
     omega
    have hne:¬ s.data.toList.all z77=true:=by
     intro h
     rw[List.all_eq_true] at h
     exact hok (h s[k] (by rw[ByteArray.getElem_eq_getElem_data];simp))
    have HN:=zh hne
    clear hok hne
    rcases hb with hb | hb
    all_goals
     go_wp2
     go_ret
     exact⟨z0n (by rw[HSP.out,if_neg HN.out]),bel⟩
   have hke:k=s.size:=by omega
   subst hke
   go_wp2
   go_ret
   exact⟨z0n (by rw[HSP.out,if_pos (by have:=HA.out;rwa [List.take_of_length_le (by simp)] at this)]),bel⟩
 have hk1':(k==1)=false:=by simpa using hk1
 have hk3':(k==3)=false:=by simpa using hk3
 have hk3'':(k != 3)=true:=by simpa using hk3
 clear hk1 hk3
 go_enter Tryz.func124,Tryz.ntmps124
 go_wp2_with fail
 all_goals
  go_ret
  refine⟨z0n ?_,bel⟩
  first
   | (simp_all [valCheck,z73,z72];done)
   | (simp_all [valCheck,z73,z72];omega)
theorem z1d (k n:Int)(s:ByteArray)(w:World)(hs:s.size<=maxLen) :
  Calls Tryz.prog 74 #[.agg #[.int .i64 k,.int .i64 n,.string s]] w fun e w'=>e=.returned (.bool (z0b ⟨k,n,s⟩))/\Below w.heap.size w w':=by
 go_enter Tryz.func74,Tryz.ntmps74
 go_wp2_with (go_at_call 124;refine (z21 _ _ _ _ hs).mono ?_;rintro e w1 ⟨rfl,hb1⟩;refine zb hb1 ?_;rintro ⟨hc1,hf1⟩ hz1 hy1 hx1)
 all_goals
  go_ret
  refine⟨z34 ?_,bel⟩
  first
   | (rw[eq_comm,Bool.eq_false_iff,Ne,z23];intro hx;simp_all;done)
   | (rw[Bool.eq_iff_iff,z23];simp_all;done)
open Go.RowKit
def isLow (c:UInt8):Bool:=decide (97<=(c.toNat:Int))&&decide ((c.toNat:Int)<=122)
def isDig (c:UInt8):Bool:=decide (48<=(c.toNat:Int))&&decide ((c.toNat:Int)<=57)
def z4s (c:UInt8):Bool:=isLow c||isDig c
def z3l:List (List UInt8):=[[97,110,100],[111,114],[110,111,116],[116,114,117,101],[102,97,108,115,101],[105,102],[108,101,110]]
def isKey (s:ByteArray):Bool:=z3l.contains s.toList
def nameOk (s:ByteArray):Bool:=(match s.data.toList with | []=>false | c::r=>isLow c&&r.all z4s)&&!isKey s
def nameCheck (s:ByteArray):Int:=if s.size<1\/10<s.size then 1 else if nameOk s then 0 else 3
theorem byte_bd (c:UInt8):0<=(c.toNat:Int)/\(c.toNat:Int)<=255:=by
 have:=c.toNat_lt;omega
theorem lex_letter (c:UInt8)(w:World) :
  Calls Tryz.prog 138 #[.int .u8 (c.toNat:Int)] w fun e w'=>e=.returned (.bool (isLow c))/\w=w':=by
 have hb:=byte_bd c
 go_enter Tryz.func138,Tryz.ntmps138
 go_wp2
 all_goals
  go_ret
  exact⟨z34 (by unfold isLow;simp;try omega),rfl⟩
theorem lex_digit (c:UInt8)(w:World) :
  Calls Tryz.prog 141 #[.int .u8 (c.toNat:Int)] w fun e w'=>e=.returned (.bool (isDig c))/\w=w':=by
 have hb:=byte_bd c
 go_enter Tryz.func141,Tryz.ntmps141
 go_wp2
 all_goals
  go_ret
  exact⟨z34 (by unfold isDig;simp;try omega),rfl⟩
theorem zeh (c:UInt8)(w:World) :
  Calls Tryz.prog 151 #[.int .u8 (c.toNat:Int)] w fun e w'=>e=.returned (.bool (isLow c))/\w=w':=by
 have hb:=byte_bd c
 go_enter Tryz.func151,Tryz.ntmps151
 go_wp2
 all_goals
  go_ret
  exact⟨z34 (by unfold isLow;simp;try omega),rfl⟩
theorem zfi (c:UInt8)(w:World) :
  Calls Tryz.prog 152 #[.int .u8 (c.toNat:Int)] w fun e w'=>e=.returned (.bool (isDig c))/\w=w':=by
 have hb:=byte_bd c
 go_enter Tryz.func152,Tryz.ntmps152
 go_wp2
 all_goals
  go_ret
  exact⟨z34 (by unfold isDig;simp;try omega),rfl⟩
theorem lex_Name1 (c:UInt8)(w:World) :
  Calls Tryz.prog 140 #[.int .u8 (c.toNat:Int)] w fun e w'=>e=.returned (.bool (z4s c))/\w=w':=by
 have hb:=byte_bd c
 go_enter Tryz.func140,Tryz.ntmps140
 go_wp2_with (first | (go_at_call 138;refine (lex_letter c _).mono ?_;rintro e w' ⟨rfl,rfl⟩) | (go_at_call 141;refine (lex_digit c _).mono ?_;rintro e w' ⟨rfl,rfl⟩))
 all_goals
  go_ret
  exact⟨z34 (by simp_all [z4s]),rfl⟩
theorem cf_name1 (args:Array Value)(w:World):(callFunc 140 args).run Tryz.prog w=.ok (.enter 140 args) w :=
 cf _ _ Tryz.func140 (by kernel_rfl) (by kernel_rfl) args w
def z4k (p:UInt8->Bool)(l:List UInt8):Nat:=(l.takeWhile p).length
theorem spanLen_eq (p:UInt8->Bool)(l:List UInt8)(k:Nat)(h:(l.take k).all p=true)(hk:k<=l.length)(hn:∀ c,l[k]?=some c->p c=false):z4k p l=k:=by
 induction l generalizing k with
 | nil=>simp at hk;subst hk;rfl
 | cons a l ih =>
  cases k with
  | zero=>simp[z4k,hn a rfl]
  | succ k =>
   simp only[List.take_succ_cons,List.all_cons,Bool.and_eq_true] at h
   have:=ih k h.2 (by simpa using hk) (fun c hc=>hn c (by simpa using hc))
   simp only[z4k] at this
   simp[z4k,h.1,this]
theorem lex_span (f:FuncId)(p:UInt8->Bool)(s:ByteArray)(w:World)(hs:s.size<=maxLen)(hcf:∀ args w,(callFunc f args).run Tryz.prog w=.ok (.enter f args) w)
  (hf:∀ (c:UInt8) w,Calls Tryz.prog f #[.int .u8 (c.toNat:Int)] w fun e w'=>e=.returned (.bool (p c))/\w=w') :
  Calls Tryz.prog 139 #[.string s,.func (.func f) #[] #[]] w fun e w'=>e=.returned (.int .i64 (z4k p s.data.toList))/\w=w':=by
 unfold maxLen at hs
 have HF:=zh hf
 clear hf
 go_enter Tryz.func139,Tryz.ntmps139
 go_wp2_with fail
 go_loop [5] (fun i=>∃ k:Nat,i=.int .i64 k/\k<=s.size/\(s.data.toList.take k).all p=true) (fun i=>s.size-(intOf i).toNat)
 case atStart=>exact⟨0,rfl,by omega,by simp⟩
 case round =>
  obtain⟨k,rfl,hk,ha⟩:=hrel
  have HA:=zh ha
  clear ha
  by_cases hlt:k<s.size
  ·have hsn:=zbf s k hlt
   have hget:s.data.toList[k]?=some s[k]:=by rw[gq (by simpa using hlt)];rfl
   have HS:=zh hsn
   have HG:=zh hget
   clear hsn hget
   cases hok:p s[k]
   ·have HK:=zh hok
    go_wp2_with (refine (HF.out _ _).mono ?_;rintro e w' ⟨rfl,rfl⟩)
    go_ret
    exact⟨z0n (by rw[spanLen_eq p _ k HA.out (by simpa using hk) (fun c hc=>by rw[HG.out] at hc;cases hc;exact HK.out)]),rfl⟩
   have HK:=zh hok
   go_wp2_with (refine (HF.out _ _).mono ?_;rintro e w' ⟨rfl,rfl⟩)
   go_round
   case rel=>exact⟨k+1,by go_num,by omega,by rw[HS.out,List.all_append,HA.out];simp[HK.out]⟩
   case measure=>simp[intOf];omega
  have hke:k=s.size:=by omega
  subst hke
  go_wp2_with fail
  go_ret
  exact⟨z0n (by rw[spanLen_eq p _ s.size HA.out (by simp) (fun c hc=>by have:=(List.getElem?_eq_some_iff.1 hc).1;simp at this)]),rfl⟩
theorem lex_Key (s:ByteArray)(w:World) :
  Calls Tryz.prog 142 #[.string s] w fun e w'=>e=.returned (.bool (isKey s))/\w=w':=by
 go_enter Tryz.func142,Tryz.ntmps142
 go_wp2_with fail
 all_goals
  go_ret
  exact⟨z34 (by simp_all [isKey,z3l]),rfl⟩
theorem spanLen_le (p:UInt8->Bool)(l:List UInt8):z4k p l<=l.length:=by unfold z4k;exact (List.takeWhile_sublist _).length_le
theorem spanLen_all (p:UInt8->Bool)(l:List UInt8):l.length<=z4k p l↔l.all p=true:=by
 induction l with
 | nil=>simp[z4k]
 | cons a l ih =>
  simp only[z4k] at ih
  by_cases h:p a=true
  ·simp[z4k,h,ih]
  simp[z4k,h]
theorem isLow_word {c:UInt8}(h:isLow c=true):z4s c=true:=by simp[z4s,h]
theorem nameOk_iff (s:ByteArray)(h:0<s.size):nameOk s=true↔isLow s[0]=true/\s.size<=z4k z4s s.data.toList/\isKey s=false:=by
 have hl:s.data.toList.length=s.size:=by simp
 have hall:=spanLen_all z4s s.data.toList
 rw[hl] at hall
 rw[hall]
 have h0:s.data.toList[0]?=some s[0]:=by rw[gq (by rw[hl];exact h)];rfl
 unfold nameOk
 generalize s[0]=a at h0
 cases hd:s.data.toList with
 | nil=>rw[hd] at hl;simp at hl;omega
 | cons c r =>
  rw[hd] at h0
  simp only[List.getElem?_cons_zero,Option.some.injEq] at h0
  subst h0
  simp only[List.all_cons,Bool.and_eq_true,Bool.not_eq_true']
  constructor
  ·rintro ⟨⟨a,b⟩,c⟩;exact⟨a,⟨isLow_word a,b⟩,c⟩
  rintro ⟨a,⟨_,b⟩,c⟩;exact⟨⟨a,b⟩,c⟩
theorem zdu (s:ByteArray)(w:World)(hs:s.size<=maxLen) :
  Calls Tryz.prog 95 #[.string s] w fun e w'=>e=.returned (.int .i64 (nameCheck s))/\w=w':=by
 have hs':=hs
 unfold maxLen at hs'
 by_cases h1:s.size<1\/10<s.size
 ·have h:nameCheck s=1:=by rw[nameCheck,if_pos h1]
  have H:=zh h
  clear h
  rcases h1 with h1 | h1
  all_goals
   go_enter Tryz.func95,Tryz.ntmps95
   go_wp2_with fail
   go_ret
   exact⟨z0n H.out.symm,rfl⟩
 have h0:0<s.size:=by omega
 have h10:s.size<=10:=by omega
 have hn:nameCheck s=if nameOk s=true then 0 else 3:=by rw[nameCheck,if_neg h1]
 have hi:=nameOk_iff s h0
 have hsp:=spanLen_le z4s s.data.toList
 have hsp':z4k z4s s.data.toList<=s.size:=by simpa using hsp
 have key:(isLow s[0]=false/\nameCheck s=3)\/(isLow s[0]=true/\z4k z4s s.data.toList<s.size/\nameCheck s=3) \/
   (isLow s[0]=true/\s.size<=z4k z4s s.data.toList/\isKey s=true/\nameCheck s=3)\/(isLow s[0]=true/\s.size<=z4k z4s s.data.toList/\isKey s=false/\nameCheck s=0):=by
  rw[hn]
  cases h1:isLow s[0]
  ·exact .inl ⟨rfl,by rw[if_neg (fun h=>by have:=hi.1 h;simp[h1] at this)]⟩
  by_cases h2:s.size<=z4k z4s s.data.toList
  ·cases h3:isKey s
   ·exact .inr (.inr (.inr ⟨rfl,h2,rfl,by rw[if_pos (hi.2 ⟨h1,h2,h3⟩)]⟩))
   exact .inr (.inr (.inl ⟨rfl,h2,rfl,by rw[if_neg (fun h=>by have:=hi.1 h;simp[h3] at this)]⟩))
  exact .inr (.inl ⟨rfl,by omega,by rw[if_neg (fun h=>h2 (hi.1 h).2.1)]⟩)
 clear hn hi h1 hsp
 rcases key with ⟨k1,H⟩ | ⟨k1,k2,H⟩ | ⟨k1,k2,k3,H⟩ | ⟨k1,k2,k3,H⟩
 all_goals
  have HH:=zh H
  clear H
  go_enter Tryz.func95,Tryz.ntmps95
  go_wp2_with (first | (go_at_call 138;refine (lex_letter _ _).mono ?_;rintro e w' ⟨rfl,rfl⟩) | (go_at_call 142;refine (lex_Key _ _).mono ?_;rintro e w' ⟨rfl,rfl⟩) | (go_at_call 139;refine (lex_span 140 z4s s _ hs cf_name1 lex_Name1).mono ?_;rintro e w' ⟨rfl,rfl⟩))
  go_ret
  exact⟨z0n HH.out.symm,rfl⟩
theorem ref_LexKey (s:ByteArray)(w:World) :
  Calls Tryz.prog 153 #[.string s] w fun e w'=>e=.returned (.bool (isKey s))/\Below w.heap.size w w':=by
 go_enter Tryz.func153,Tryz.ntmps153
 go_wp2_with fail
 go_loop [7] (fun i=>∃ k:Nat,i=.int .i64 k/\k<=7/\(z3l.take k).contains s.toList=false) (fun i=>7-(intOf i).toNat)
 case atStart=>exact⟨0,rfl,by omega,by simp⟩
 case round =>
  obtain⟨k,rfl,hk,ha⟩:=hrel
  have HA:=zh ha
  clear ha
  have hk':k=0\/k=1\/k=2\/k=3\/k=4\/k=5\/k=6\/k=7:=by omega
  rcases hk' with rfl | rfl | rfl | rfl | rfl | rfl | rfl | rfl
  ·go_wp2_with fail
   ·go_ret
    have h:(s.toList==[97,110,100])=true:=by assumption
    exact⟨z34 (by rw[beq_iff_eq] at h;simp[isKey,z3l,h]),bel⟩
   have h:(s.toList==[97,110,100])=false:=by assumption
   have H:=zh h
   clear h
   go_round
   case rel=>exact⟨1,rfl,by omega,by have h1:=HA.out;have h2:=H.out;simp[z3l] at h1 h2 ⊢;simp_all⟩
   case measure=>simp[intOf]
  ·go_wp2_with fail
   ·go_ret
    have h:(s.toList==[111,114])=true:=by assumption
    exact⟨z34 (by rw[beq_iff_eq] at h;simp[isKey,z3l,h]),bel⟩
   have h:(s.toList==[111,114])=false:=by assumption
   have H:=zh h
   clear h
   go_round
   case rel=>exact⟨2,rfl,by omega,by have h1:=HA.out;have h2:=H.out;simp[z3l] at h1 h2 ⊢;simp_all⟩
   case measure=>simp[intOf]
  ·go_wp2_with fail
   ·go_ret
    have h:(s.toList==[110,111,116])=true:=by assumption
    exact⟨z34 (by rw[beq_iff_eq] at h;simp[isKey,z3l,h]),bel⟩
   have h:(s.toList==[110,111,116])=false:=by assumption
   have H:=zh h
   clear h
   go_round
   case rel=>exact⟨3,rfl,by omega,by have h1:=HA.out;have h2:=H.out;simp[z3l] at h1 h2 ⊢;simp_all⟩
   case measure=>simp[intOf]
  ·go_wp2_with fail
   ·go_ret
    have h:(s.toList==[116,114,117,101])=true:=by assumption
    exact⟨z34 (by rw[beq_iff_eq] at h;simp[isKey,z3l,h]),bel⟩
   have h:(s.toList==[116,114,117,101])=false:=by assumption
   have H:=zh h
   clear h
   go_round
   case rel=>exact⟨4,rfl,by omega,by have h1:=HA.out;have h2:=H.out;simp[z3l] at h1 h2 ⊢;simp_all⟩
   case measure=>simp[intOf]
  ·go_wp2_with fail
   ·go_ret
    have h:(s.toList==[102,97,108,115,101])=true:=by assumption
    exact⟨z34 (by rw[beq_iff_eq] at h;simp[isKey,z3l,h]),bel⟩
   have h:(s.toList==[102,97,108,115,101])=false:=by assumption
   have H:=zh h
   clear h
   go_round
   case rel=>exact⟨5,rfl,by omega,by have h1:=HA.out;have h2:=H.out;simp[z3l] at h1 h2 ⊢;simp_all⟩
   case measure=>simp[intOf]
  ·go_wp2_with fail
   ·go_ret
    have h:(s.toList==[105,102])=true:=by assumption
    exact⟨z34 (by rw[beq_iff_eq] at h;simp[isKey,z3l,h]),bel⟩
   have h:(s.toList==[105,102])=false:=by assumption
   have H:=zh h
   clear h
   go_round
   case rel=>exact⟨6,rfl,by omega,by have h1:=HA.out;have h2:=H.out;simp[z3l] at h1 h2 ⊢;simp_all⟩
   case measure=>simp[intOf]
  ·go_wp2_with fail
   ·go_ret
    have h:(s.toList==[108,101,110])=true:=by assumption
    exact⟨z34 (by rw[beq_iff_eq] at h;simp[isKey,z3l,h]),bel⟩
   have h:(s.toList==[108,101,110])=false:=by assumption
   have H:=zh h
   clear h
   go_round
   case rel=>exact⟨7,rfl,by omega,by have h1:=HA.out;have h2:=H.out;simp[z3l] at h1 h2 ⊢;simp_all⟩
   case measure=>simp[intOf]
  go_wp2_with fail
  go_ret
  exact⟨z34 (by have:=HA.out;simpa [isKey,z3l] using this.symm),bel⟩
theorem z8f (s:ByteArray)(w:World)(hs:s.size<=maxLen) :
  Calls Tryz.prog 105 #[.string s] w fun e w'=>e=.returned (.int .i64 (nameCheck s))/\Below w.heap.size w w':=by
 have hs':=hs
 unfold maxLen at hs'
 have htl:s.toList=s.data.toList:=ByteArray.toList_eq s
 by_cases h1:s.size<1\/10<s.size
 ·have h:nameCheck s=1:=by rw[nameCheck,if_pos h1]
  have H:=zh h
  clear h
  by_cases h0:s.size=0
  ·have he:s.toList=[]:=by rw[htl];apply List.eq_nil_of_length_eq_zero;simpa using h0
   clear htl h1 h0
   go_enter Tryz.func105,Tryz.ntmps105
   go_wp2_with fail
   go_ret
   exact⟨z0n H.out.symm,bel⟩
  have hne:s.toList.isEmpty=false:=by
   rw[htl];cases hd:s.data.toList with
   | nil =>
    have:s.data.toList.length=0:=by rw[hd];rfl
    simp at this;exact absurd this (by simpa using h0)
   | cons a l=>rfl
  have h10:10<s.size:=by omega
  clear htl h1 h0
  go_enter Tryz.func105,Tryz.ntmps105
  go_wp2_with fail
  go_ret
  exact⟨z0n H.out.symm,bel⟩
 have h0:0<s.size:=by omega
 have h10:s.size<=10:=by omega
 have hn:nameCheck s=if nameOk s=true then 0 else 3:=by rw[nameCheck,if_neg h1]
 have hi:=nameOk_iff s h0
 have hne:s.toList.isEmpty=false:=by
  rw[htl];cases hd:s.data.toList with
  | nil =>
   have hl:s.data.toList.length=s.size:=by simp
   rw[hd] at hl
   have hl':0=s.size:=hl
   omega
  | cons a l=>rfl
 have hall:=spanLen_all z4s s.data.toList
 rw[show s.data.toList.length=s.size by simp] at hall
 have hbad:(isLow s[0]=false\/s.data.toList.all z4s=false)->nameCheck s=3:=by
  intro h
  rw[hn,if_neg (fun hh=>?_)]
  have h3:=hi.1 hh
  rcases h with h | h
  ·rw[h] at h3;simp at h3
  have:=hall.1 h3.2.1;rw[this] at h;simp at h
 have hend:isLow s[0]=true->s.data.toList.all z4s=true->nameCheck s=if isKey s then 3 else 0:=by
  intro ha hb
  have hl:s.size<=z4k z4s s.data.toList:=hall.2 hb
  rw[hn]
  cases hk:isKey s
  ·rw[if_pos (hi.2 ⟨ha,hl,hk⟩)];rfl
  rw[if_neg (fun hh=>by have:=hi.1 hh;simp[hk] at this)];rfl
 have hd10:decide ((10:Int)<(s.size:Int))=false:=by simp;omega
 have HB:=zh hbad
 have HE:=zh hend
 clear hn hi h1 htl hall hbad hend
 go_enter Tryz.func105,Tryz.ntmps105
 go_wp2_with fail
 go_loop [3] (fun i=>∃ k:Nat,i=.int .i64 k/\k<=s.size/\(0<k->isLow s[0]=true)/\(s.data.toList.take k).all z4s=true) (fun i=>s.size-(intOf i).toNat)
 case atStart=>exact⟨0,rfl,by omega,fun h=>by omega,by simp⟩
 case round =>
  obtain⟨k,rfl,hk,hl,ha⟩:=hrel
  have HA:=zh (ai hl ha)
  clear hl ha
  by_cases hlt:k<s.size
  ·have hsn:=zbf s k hlt
   have hmem:s.data.toList.all z4s=true->z4s s[k]=true:=by
    intro h
    rw[List.all_eq_true] at h
    exact h s[k] (by rw[ByteArray.getElem_eq_getElem_data];simp)
   have HS:=zh (ai hsn hmem)
   clear hsn hmem
   cases hlo:isLow s[k]
   ·rcases Nat.eq_zero_or_pos k with h | hpos
    ·subst h
     have HL:=zh hlo
     go_wp2_with (first | (go_at_call 151;refine (zeh _ _).mono ?_;rintro e w' ⟨rfl,rfl⟩) | (go_at_call 152;refine (zfi _ _).mono ?_;rintro e w' ⟨rfl,rfl⟩))
     go_ret
     exact⟨z0n (HB.out (.inl HL.out)).symm,bel⟩
    have hd0:decide ((0:Int)<(k:Int))=true:=by simp;omega
    cases hdg:isDig s[k]
    ·have HL:=zh (ai hlo hdg)
     go_wp2_with (first | (go_at_call 151;refine (zeh _ _).mono ?_;rintro e w' ⟨rfl,rfl⟩) | (go_at_call 152;refine (zfi _ _).mono ?_;rintro e w' ⟨rfl,rfl⟩))
     go_ret
     refine⟨z0n (HB.out (.inr ?_)).symm,bel⟩
     rw[Bool.eq_false_iff]
     intro h
     have:=HS.out.2 h
     simp[z4s,HL.out.1,HL.out.2] at this
    have HL:=zh hdg
    go_wp2_with (first | (go_at_call 151;refine (zeh _ _).mono ?_;rintro e w' ⟨rfl,rfl⟩) | (go_at_call 152;refine (zfi _ _).mono ?_;rintro e w' ⟨rfl,rfl⟩))
    go_round
    case rel=>exact⟨k+1,by go_num,by omega,fun _=>HA.out.1 hpos,by rw[HS.out.1,List.all_append,HA.out.2];simp[z4s,HL.out]⟩
    case measure=>simp[intOf];omega
   have HL:=zh hlo
   go_wp2_with (first | (go_at_call 151;refine (zeh _ _).mono ?_;rintro e w' ⟨rfl,rfl⟩))
   go_round
   case rel =>
    refine⟨k+1,by go_num,by omega,fun _=>?_,by rw[HS.out.1,List.all_append,HA.out.2];simp[z4s,HL.out]⟩
    rcases Nat.eq_zero_or_pos k with h | hpos
    ·subst h;exact HL.out
    exact HA.out.1 hpos
   case measure=>simp[intOf];omega
  have hke:k=s.size:=by omega
  subst hke
  have h:=HE.out (HA.out.1 h0) (by have:=HA.out.2;rwa [List.take_of_length_le (by simp)] at this)
  have H:=zh h
  clear h
  go_wp2_with (go_at_call 153;refine (ref_LexKey _ _).mono ?_;rintro e w1 ⟨rfl,hb1⟩)
  all_goals
   go_ret
   refine⟨z0n ?_,bel⟩
   rw[H.out]
   simp_all
end Go.Proofs.YtldhlpjjcnlbcaaGreat
