/- The reference LexTokens. (printed by mklx3.py) -/
import Derived.Test.YtldbpmlgbbomcaaGreatDoorLx2
import Derived.Laws.IdiomStrings
import Derived.Deep.CutBlock
import Derived.Deep.DeepCutAuto
import Derived.Lib.AtoiErrMem
namespace Go.Proofs.YtldbpmlgbbomcaaGreatDoor
open Go.RowKit

theorem span_stop (pr:UInt8 → Bool):∀ (l:List UInt8) (c:UInt8),l[spanLen pr l]? = some c → pr c = false
 | [],c,h => by simp at h
 | a :: l,c,h => by
  unfold spanLen at h
  by_cases ha:pr a = true
  ·rw [List.takeWhile_cons_of_pos ha,List.length_cons,List.getElem?_cons_succ] at h
   exact span_stop pr l c h
  ·rw [List.takeWhile_cons_of_neg ha] at h
   simp at h
   subst h
   simpa using ha
theorem drop_get (s:ByteArray) {p q:Nat} (h1:p ≤ q) (hq:q < s.size):(s.data.toList.drop p)[q - p]? = some s[q]:=by
 rw [List.getElem?_drop,show p + (q - p) = q by omega]
 exact get_of s q hq
theorem span_in {pr:UInt8 → Bool} {s:ByteArray} {p q:Nat} (h1:p ≤ q) (h2:q < p + spanLen pr (s.data.toList.drop p)) (hq:q < s.size):pr s[q] = true:=by
 have h:=spanLen_take pr (s.data.toList.drop p)
 rw [List.all_eq_true] at h
 exact h _ (List.mem_of_getElem? (i:=q - p) (by rw [List.getElem?_take_of_lt (by omega)];exact drop_get s h1 hq))
theorem span_out {pr:UInt8 → Bool} {s:ByteArray} {p q:Nat} (h2:q = p + spanLen pr (s.data.toList.drop p)) (hq:q < s.size):pr s[q] = false :=
 span_stop pr (s.data.toList.drop p) _ (by have h:=drop_get s (p:=p) (q:=q) (by omega) hq;rwa [show q - p = spanLen pr (s.data.toList.drop p) by omega] at h)
theorem span_fit (pr:UInt8 → Bool) (s:ByteArray) {p:Nat} (hp:p ≤ s.size):p + spanLen pr (s.data.toList.drop p) ≤ s.size:=by
 have h:=spanLen_le pr (s.data.toList.drop p)
 rw [List.length_drop] at h
 have:s.data.toList.length = s.size:=by simp
 omega
theorem span_one {pr:UInt8 → Bool} {s:ByteArray} {p:Nat} (hp:p < s.size) (h:pr s[p] = true):1 ≤ spanLen pr (s.data.toList.drop p):=by
 have hd:=dropB_at (get_of s p hp)
 rw [hd]
 exact spanLen_pos h
theorem extract_mid (s:ByteArray) (p q:Nat):s.extract p q = ofL ((s.data.toList.drop p).take (q - p)):=by
 apply toList_inj
 rw [ByteArray.toList_eq,ByteArray.toList_eq,Lib.extract_data]
 rfl
theorem oneX_drop (s:ByteArray) {p:Nat} (hp:p < s.size):oneX (s.data.toList.drop p) = if isDig s[p] = true then numX (s.data.toList.drop p) else if isLow s[p] = true then wordX (s.data.toList.drop p) else if s[p] = 34 then quoteX (s.data.toList.drop p) else signX (s.data.toList.drop p):=by
 have hd:=dropB_at (get_of s p hp)
 unfold oneX
 rw [hd]
theorem sign_two {c:UInt8} {t:List UInt8} (h:c = 60 ∨ c = 33):signX (c :: 61 :: t) = (⟨4,0,ofL [c,61],tkVal⟩,0):=by
 rcases h with rfl | rfl <;> rfl
def oneSigns:List UInt8:=[60,61,43,45,42,47,37,38,40,41,44]
theorem sign_one {c:UInt8} {t:List UInt8} (h:¬ (t.head? = some 61 ∧ c = 60)) (hc:oneSigns.contains c = true):signX (c :: t) = (⟨4,0,ofL [c],tkVal⟩,0):=by
 have hm:c ∈ oneSigns:=by simpa using hc
 simp only [oneSigns,List.mem_cons,List.not_mem_nil,or_false] at hm
 rcases hm with rfl | rfl | rfl | rfl | rfl | rfl | rfl | rfl | rfl | rfl | rfl
 ·have:Lib.hasPrefix (60 :: t) [60,61] = false:=by
   cases t with
   | nil => rfl
   | cons d t => simp only [List.head?_cons,Option.some.injEq,and_true] at h;simp only [Lib.hasPrefix,List.isPrefixOf];simp;exact fun e => h (Eq.symm e)
  unfold signX signsX
  rw [List.find?_cons,this]
  rfl
 all_goals rfl
theorem sign_bad {c:UInt8} {t:List UInt8} (h:¬ (t.head? = some 61 ∧ (c = 60 ∨ c = 33))) (hc:c = 33 ∨ oneSigns.contains c = false):signX (c :: t) = (noTk,3):=by
 have hf:signsX.find? (fun g => Lib.hasPrefix (c :: t) g) = none:=by
  rw [List.find?_eq_none]
  intro g hg
  simp only [signsX,List.mem_cons,List.not_mem_nil,or_false] at hg
  rcases hc with rfl | hc
  ·cases t with
   | nil => rcases hg with rfl | rfl | rfl | rfl | rfl | rfl | rfl | rfl | rfl | rfl | rfl | rfl | rfl <;> simp [Lib.hasPrefix]
   | cons d t =>
    have hd:d ≠ 61:=fun e => h ⟨by rw [e];rfl,.inr rfl⟩
    rcases hg with rfl | rfl | rfl | rfl | rfl | rfl | rfl | rfl | rfl | rfl | rfl | rfl | rfl <;> simp [Lib.hasPrefix]
    exact fun e => hd e.symm
  ·by_cases h33:c = 33
   ·subst h33
    cases t with
    | nil => rcases hg with rfl | rfl | rfl | rfl | rfl | rfl | rfl | rfl | rfl | rfl | rfl | rfl | rfl <;> simp [Lib.hasPrefix]
    | cons d t =>
     have hd:d ≠ 61:=fun e => h ⟨by rw [e];rfl,.inr rfl⟩
     rcases hg with rfl | rfl | rfl | rfl | rfl | rfl | rfl | rfl | rfl | rfl | rfl | rfl | rfl <;> simp [Lib.hasPrefix]
     exact fun e => hd e.symm
   ·have hn:c ∉ oneSigns:=by simpa using hc
    simp only [oneSigns,List.mem_cons,List.not_mem_nil,or_false,not_or] at hn
    obtain ⟨n1,n2,n3,n4,n5,n6,n7,n8,n9,n10,n11⟩:=hn
    rcases hg with rfl | rfl | rfl | rfl | rfl | rfl | rfl | rfl | rfl | rfl | rfl | rfl | rfl <;> simp [Lib.hasPrefix,Ne.symm n1,Ne.symm n2,Ne.symm n3,Ne.symm n4,Ne.symm n5,Ne.symm n6,Ne.symm n7,Ne.symm n8,Ne.symm n9,Ne.symm n10,Ne.symm n11,Ne.symm h33]
 rw [signX,hf]
theorem below_app {B:Nat} {w wr W w6:World} (h:Below B w wr) (h6:Below B W w6) (hW:Below wr.heap.size wr W) (hs:B ≤ wr.heap.size):Below B w w6:=below_step (below_step h hW hs) h6 (Nat.le_refl _)
set_option maxHeartbeats 1000000 in
theorem ref_among (c:UInt8) (s:ByteArray) (w:World) (hs:s.size ≤ maxLen) :
  Calls Tryz.prog 47 #[.int .u8 (c.toNat:Int),.string s] w fun e w' => e = .returned (.bool (s.data.toList.contains c)) ∧ w = w':=by
 unfold maxLen at hs
 have hsl:s.data.toList.length = s.size:=by simp
 go_enter Tryz.func47,Tryz.ntmps47
 go_wp2_with fail
 go_loop [5] (fun i => ∃ k:Nat,i = .int .i64 k ∧ k ≤ s.size ∧ Hid ((s.data.toList.take k).contains c = false)) (fun i => s.size - (intOf i).toNat)
 case atStart => exact ⟨0,rfl,by omega,Lib.hid (by simp)⟩
 case round =>
  obtain ⟨k,rfl,hk,ha⟩:=hrel
  by_cases hlt:k < s.size
  ·have hget:=get_of s k hlt
   by_cases hc:s[k] = c
   ·have g1:((s[k].toNat:Int) == (c.toNat:Int)) = true:=by rw [hc];simp
    have hx:s.data.toList.contains c = true:=by simp only [List.contains_iff_mem];exact List.mem_of_getElem? (hc ▸ hget)
    have HX:=Lib.hid hx
    clear hx hget hc
    go_wp2_with fail
    go_ret
    exact ⟨ret_bool (by have h:=HX.out;simp at h;simp [h]),rfl⟩
   ·have g1:((s[k].toNat:Int) == (c.toNat:Int)) = false:=by
     simp only [beq_eq_false_iff_ne,ne_eq,Int.natCast_inj]
     exact fun e => hc (UInt8.toNat_inj.1 e)
    have hx:(s.data.toList.take (k + 1)).contains c = false:=by
     have h:=ha.out
     rw [List.take_add_one,hget]
     simp only [Option.toList_some]
     simp only [List.contains_eq_mem,decide_eq_false_iff_not,List.mem_append,List.mem_singleton,not_or] at h ⊢
     exact ⟨h,fun e => hc e.symm⟩
    have HX:=Lib.hid hx
    clear hx hget hc
    go_wp2_with fail
    go_round
    case rel => exact ⟨k + 1,by go_num,by omega,HX⟩
    case measure => simp [intOf];omega
  ·have hke:k = s.size:=by omega
   have hx:s.data.toList.contains c = false:=by have h:=ha.out;rwa [List.take_of_length_le (by omega)] at h
   have HX:=Lib.hid hx
   clear hx
   subst hke
   go_wp2_with fail
   go_ret
   exact ⟨ret_bool (by have h:=HX.out;simp at h;simp [h]),rfl⟩
def TBOX (w:World) (B p:Nat) (x:List UInt8):Prop :=
 w.cell? ⟨B,0,none⟩ = some (.int .i64 3) ∧ w.cell? ⟨B,1,none⟩ = some (.int .i64 p) ∧ w.cell? ⟨B,2,none⟩ = some (.string ⟨#[]⟩) ∧ w.cell? ⟨B,3,none⟩ = some (.int .i64 3) ∧ w.cell? ⟨B,4,none⟩ = some (.int .i64 0) ∧ w.cell? ⟨B,5,none⟩ = some (.string (ofL x)) ∧ w.frozen? ⟨B,2,none⟩ = false ∧ w.frozen? ⟨B,5,none⟩ = false
theorem ofL_app (x:List UInt8) (s:ByteArray) (q:Nat) (hq:q < s.size):ofL x ++ s.extract q (q + 1) = ofL (x ++ [s[q]]):=by
 apply toList_inj
 rw [extract_mid,ByteArray.toList_eq,ByteArray.toList_eq,dropB_at (get_of s q hq),Nat.add_sub_cancel_left]
 simp [ofL]
def SWB (w:World) (B p:Nat) (k:Int) (v:Val):Prop :=
 w.cell? ⟨B,0,none⟩ = some (.int .i64 k) ∧ w.cell? ⟨B,1,none⟩ = some (.int .i64 p) ∧ w.cell? ⟨B,2,none⟩ = some (.string ⟨#[]⟩) ∧ w.cell? ⟨B,3,none⟩ = some (.int .i64 v.k) ∧ w.cell? ⟨B,4,none⟩ = some (.int .i64 v.n) ∧ w.cell? ⟨B,5,none⟩ = some (.string v.s) ∧ w.frozen? ⟨B,2,none⟩ = false
theorem two_toList (s:ByteArray) (p:Nat) (h:p + 1 < s.size):(s.extract p (p + 1 + 1)).toList = [s[p],s[p + 1]]:=by
 rw [ByteArray.toList_eq,extract_mid,dropB_at (get_of s p (by omega)),dropB_at (get_of s (p + 1) h),show p + 1 + 1 - p = 2 by omega]
 simp [ofL]
theorem two_is (s:ByteArray) (p:Nat) (h:p + 1 < s.size) (a b:UInt8) (hab:s[p] = a ∧ s[p + 1] = b):((s.extract p (p + 1 + 1)).toList == [a,b]) = true:=by
 rw [two_toList s p h,hab.1,hab.2]
 simp
theorem two_not (s:ByteArray) (p:Nat) (h:p + 1 < s.size) (a b:UInt8) (hab:¬ (s[p] = a ∧ s[p + 1] = b)):((s.extract p (p + 1 + 1)).toList == [a,b]) = false:=by
 rw [two_toList s p h]
 simpa using hab
theorem among_is (c:UInt8) (w:World) (b:Bool) (h:oneSigns.contains c = b):Calls Tryz.prog 47 #[.int .u8 (c.toNat:Int),.string ⟨#[60,61,43,45,42,47,37,38,40,41,44]⟩] w fun e w' => e = .returned (.bool b) ∧ w = w':=by
 have h1:=ref_among c ⟨#[60,61,43,45,42,47,37,38,40,41,44]⟩ w (by unfold maxLen;decide)
 rw [← h]
 exact h1
def GdR (w:World):Prop:=∃ v,w.cell? ⟨2,0,none⟩ = some v ∧ (v = .nilIface ∨ ∃ te pe,v = .iface te pe)
theorem GdR.keep {w w':World} (h:GdR w) (hb:Below w.heap.size w w'):GdR w':=by
 obtain ⟨v,hv,k⟩:=h
 exact ⟨v,cell_keep hv hb,k⟩
theorem atoi_big (s:ByteArray) (hl:s.data.toList.all isDig = true) (h0:s.data.toList ≠ []) (hsz:s.size ≤ 160) :
  (∀ w,GdR w → Calls Tryz.prog 45 #[.string s] w fun e w' => e = .returned (.tuple #[.int .i64 (digV s.data.toList),.nilIface]) ∧ Below w.heap.size w w') ∨
   (1099511627776 < digV s.data.toList ∧ ∀ w,GdR w → Calls Tryz.prog 45 #[.string s] w fun e w' => ∃ (v:Int) (te:TypeId) (pe:Value),e = .returned (.tuple #[.int .i64 v,.iface te pe]) ∧ Below w.heap.size w w'):=by
 rcases atoi_digs hl h0 with ⟨h,_⟩ | ⟨h,hv⟩
 ·refine .inl fun w _ => ?_
  refine (Tryz.strconv_Atoi_ok s (by omega) _ h w).mono ?_
  rintro e w' ⟨rfl,h2⟩
  refine ⟨rfl,?_⟩
  rcases h2 with rfl | ⟨t,rfl⟩
  ·exact Below.refl _ _
  ·exact Lib.bytesWorld_below _ _ _
 ·refine .inr ⟨by omega,?_⟩
  rintro w ⟨v',hv',k'⟩
  refine (Tryz.strconv_Atoi_range s (by omega) h v' w hv' k').mono ?_
  rintro e w' ⟨N,rfl,_,_,hb⟩
  exact ⟨_,_,_,rfl,hb⟩
theorem atoi_any (s:ByteArray) (w:World) (hg:GdR w) (hl:s.data.toList.all isDig = true) (h0:s.data.toList ≠ []) (hsz:s.size ≤ 160) :
  Calls Tryz.prog 45 #[.string s] w fun e w' => ∃ (v:Int) (er:Value),e = .returned (.tuple #[.int .i64 v,er]) ∧ Below w.heap.size w w':=by
 rcases atoi_big s hl h0 hsz with h | ⟨_,h⟩
 ·refine (h w hg).mono ?_
  rintro e w' ⟨rfl,hb⟩
  exact ⟨_,_,rfl,hb⟩
 ·refine (h w hg).mono ?_
  rintro e w' ⟨v,te,pe,rfl,hb⟩
  exact ⟨_,_,rfl,hb⟩
set_option maxRecDepth 100000 in
set_option maxHeartbeats 8000000 in
theorem ref_LexTokens (s:ByteArray) (w:World) (hs:s.size ≤ maxLen) (hg:GdR w):Calls Tryz.prog 20 #[.string s] w (RetTk w (lexX s.data.toList)):=by
 have hsl:s.data.toList.length = s.size:=by simp
 obtain ⟨R,hR⟩:∃ R,R = lexX s.data.toList:=⟨_,rfl⟩
 rw [← hR]
 unfold lexX at hR
 rw [hsl] at hR
 unfold maxLen at hs
 have HSL:=Lib.hid hsl
 have HG:=Lib.hid hg
 clear hsl hg
 by_cases h160:160 < s.size
 ·rw [if_pos h160] at hR
  have h160':(160:Int) < (s.size:Int):=by omega
  have HR:=Lib.hid hR
  clear hR
  go_enter Tryz.func20,Tryz.ntmps20
  go_wp2_with fail
  go_ret3
  exact RetTk.nil HR.out rfl bel
 rw [if_neg h160] at hR
 have h160':¬ (160:Int) < (s.size:Int):=by omega
 have hR':R = lexF s.data.toList (s.data.toList.length + 1) 0:=by rw [HSL.out];exact hR
 have HR:=Lib.hid hR'
 clear hR hR'
 obtain ⟨i0,ei,ez0,ez1,ez2⟩:=info_parts Tryz.infoTkn
 go_enter Tryz.func20,Tryz.ntmps20
 go_wp2_with fail
 go_loopw [5,6] (fun v i wr => ∃ (p f:Nat) (out:List Tkn),p ≤ s.size ∧ s.size + 1 ≤ f + p ∧ i = .int .i64 p ∧ Hid (wr.ownsRow w.heap.size 60 6 v out.length (out.flatMap Tkn.cs)) ∧ Hid (lexAt s.data.toList f p out) ∧ out.length ≤ p ∧ Below w.heap.size w wr) (fun _ i _ => s.size + 1 - (intOf i).toNat)
 case atStart => exact ⟨0,s.size + 1,[],by omega,by omega,rfl,Lib.hid (World.ownsRow_nil _ _ _ _),Lib.hid (by have:=lexAt_start s.data.toList;rwa [HSL.out] at this),by simp,Below.refl _ _⟩
 case round =>
  obtain ⟨p,f,out,hp,hf,rfl,hown,hat,hlo,hb⟩:=hrel
  obtain ⟨f,rfl⟩:∃ f',f = f' + 1:=⟨f - 1,by omega⟩
  by_cases hlt:p < s.size
  ·have hget:=get_of s p hlt
   have hdr:=dropB_at hget
   by_cases hbl:s[p] = 32
   ·have g1:((s[p].toNat:Int) == 32) = true:=by rw [hbl];rfl
    have hn:=lexAt_blank hat.out (by rw [hget,hbl])
    have HN:=Lib.hid hn
    clear hn hget hbl hdr
    go_wp2_with fail
    go_roundw
    case rel => exact ⟨p + 1,f,out,by omega,by omega,by go_num,Lib.hid (ownsRow_keep hown.out (show Below wr.heap.size wr _ from bel)),HN,by omega,below_step hb (show Below wr.heap.size wr _ from bel) hb.size⟩
    case measure => simp [intOf];omega
   ·have g1:((s[p].toNat:Int) == 32) = false:=byte_ne (b:=32) hbl
    have hne:s.data.toList[p]? ≠ some 32:=by rw [hget];intro h;exact hbl (Option.some.inj h)
    have hlt':p < s.data.toList.length:=by rw [HSL.out];exact hlt
    have KOK:Hid (∀ t,oneX (s.data.toList.drop p) = (t,0) → lexAt s.data.toList f (p + t.s.size) (out ++ [⟨t.kind,p,t.s,t.v⟩])):=Lib.hid fun t h => by
     have h1:=lexAt_next hat.out hlt' hne (by rw [h])
     rwa [h] at h1
    have KBAD:Hid (∀ t c,oneX (s.data.toList.drop p) = (t,c) → c ≠ 0 → R = ([],(p:Int),c)):=Lib.hid fun t c h hc => by
     have h1:=lexAt_bad hat.out hlt' hne (by rw [h];exact hc)
     rw [h] at h1
     rw [HR.out];exact h1
    have HDR:=Lib.hid hdr
    have HG0:=Lib.hid (HG.out.keep hb)
    clear hget hne hlt' hbl hdr hat
    go_upto_block 2 with fail
    go_cut [6,8,10] (fun s6 s8 s10 wx => ∃ (q:Nat) (cd k:Int) (v:Val),s6 = .int .i64 p ∧ s8 = .int .i64 q ∧ s10 = .int .i64 cd ∧ p + 1 ≤ q ∧ q ≤ s.size ∧ SWB wx wr.heap.size p k v ∧ Below wr.heap.size wr wx ∧ Hid ((cd ≠ 0 ∧ ∃ t,oneX (s.data.toList.drop p) = (t,cd)) ∨ (cd = 0 ∧ oneX (s.data.toList.drop p) = (⟨k,0,s.extract p q,v⟩,0))))
    case rest =>
     obtain ⟨q,cd,k,⟨vk,vn,vs⟩,rfl,rfl,rfl,hq1,hq2,⟨x0,x1,x2,x3,x4,x5,f2⟩,hbq,hh⟩:=hcut
     dsimp only at x3 x4 x5
     have hB:wr.heap.size < wc.heap.size:=block_lt_of_cell x0
     have hqz:(q:Int) ≤ (s.size:Int):=by omega
     rcases hh.out with ⟨hc,t,ht⟩ | ⟨rfl,ht⟩
     ·have HX:=Lib.hid (KBAD.out _ _ ht hc)
      have hc':(cd != 0) = true:=by simpa using hc
      clear hh ht hc
      go_wp2_with fail
      go_ret3
      exact RetTk.nil HX.out rfl (below_step hb hbq hb.size)
     ·have hn:=KOK.out _ ht
      have hmz:(s.extract p q).size = q - p:=by rw [ByteArray.size_extract];omega
      dsimp only at hn
      rw [hmz] at hn
      have HN:=Lib.hid hn
      clear hh ht hn
      go_wp2_with (at_builtin;refine wpList_append1 rfl _ _ 42 rfl w.heap.size 60 i0 _ 6 64 Tryz.underlying42 ei ez0 ez1 ez2 rfl (by decide) _ out.length _ rfl (ownsRow_keep hown.out (show Below wr.heap.size wr _ from bel)) (Tkn.mk k p (s.extract p q) ⟨vk,vn,vs⟩).cs 60 rfl _ rfl (by first | rfl | simp) rfl (by simp [Value.oneCell']) (by omega) (by unfold maxLen;omega) (by have:=hb.size;first | omega | (simp;omega)) ?_;intro v6 w6 hown6 hb6 hz6 _)
      go_roundw
      case rel => exact ⟨q,f,out ++ [⟨k,p,s.extract p q,⟨vk,vn,vs⟩⟩],by omega,by omega,by go_num,Lib.hid (by rw [List.flatMap_append,List.length_append];simpa using hown6),by have h:=HN.out;rwa [show p + (q - p) = q from by omega] at h,by simp;omega,below_app hb hb6 bel hb.size⟩
      case measure => simp [intOf];omega
    case first =>
     clear KOK KBAD hb hown HR hlo hf
     have hget:=get_of s p hlt
     have hone:=oneX_drop s hlt
     have hdr:=HDR.out
     clear hget
     by_cases d1:isDig s[p] = true
     ·rw [if_pos d1] at hone
      as_aux_lemma =>
      have hn1:=span_one hlt d1
      have hnf:=span_fit isDig s (Nat.le_of_lt hlt)
      have HIN:=Lib.hid (fun q h1 h2 hq => span_in (pr:=isDig) (s:=s) (p:=p) (q:=q) h1 h2 hq)
      have HOUT:=Lib.hid (fun q h2 hq => span_out (pr:=isDig) (s:=s) (p:=p) (q:=q) h2 hq)
      have hall:=spanLen_take isDig (s.data.toList.drop p)
      have hnx:numX (s.data.toList.drop p) = if 1 < spanLen isDig (s.data.toList.drop p) ∧ s[p] = 48 then (noTk,3) else if 1099511627776 < digV ((s.data.toList.drop p).take (spanLen isDig (s.data.toList.drop p))) then (noTk,7)
        else (⟨1,0,ofL ((s.data.toList.drop p).take (spanLen isDig (s.data.toList.drop p))),⟨1,digV ((s.data.toList.drop p).take (spanLen isDig (s.data.toList.drop p))),⟨#[]⟩⟩⟩,0):=by
       unfold numX
       rw [show (s.data.toList.drop p)[0]? = some s[p] by rw [hdr];rfl]
       simp only [Option.some.injEq]
      rw [hnx] at hone
      have hx0:(s.data.toList.drop p).take (spanLen isDig (s.data.toList.drop p)) ≠ []:=by
       rw [hdr] at hn1 ⊢
       intro h
       have:=congrArg List.length h
       rw [List.length_take] at this
       simp only [List.length_cons,List.length_nil] at this
       omega
      clear hnx
      generalize spanLen isDig (s.data.toList.drop p) = n at hone hn1 hnf HIN HOUT hall hx0
      obtain ⟨m,hm⟩:∃ m,m = p + n:=⟨_,rfl⟩
      have hnm:n = m - p:=by omega
      subst hnm
      rw [← hm] at hnf HIN HOUT
      have hpm:p + 1 ≤ m:=by omega
      clear hm hn1
      have hmid:=extract_mid s p m
      have hmd:(s.extract p m).data.toList = (s.data.toList.drop p).take (m - p):=by rw [hmid];simp [ofL]
      have hmz:(s.extract p m).size = m - p:=by rw [ByteArray.size_extract];omega
      rw [← hmd] at hone hall hx0
      have ha1:=fun w h => atoi_any (s.extract p m) w h hall hx0 (by omega)
      have ha3:=atoi_big (s.extract p m) hall hx0 (by omega)
      rw [show ofL (s.extract p m).data.toList = s.extract p m from by rw [hmd];exact hmid.symm] at hone
      generalize hdv:digV (s.extract p m).data.toList = dv at hone ha3
      have HA:=Lib.hid (And.intro ha1 ha3)
      have HON:=Lib.hid hone
      clear hone ha1 ha3 hall hx0 hmd hmid hdv
      go_wp2_with (go_at_call 44;refine (ref_figure _ _).mono ?_;rintro e w' ⟨rfl,rfl⟩)
      go_loop [8] (fun i => ∃ q:Nat,i = .int .i64 q ∧ p + 1 ≤ q ∧ q ≤ m) (fun i => m - (intOf i).toNat)
      case atStart => exact ⟨p + 1,by go_num,by omega,by omega⟩
      case round =>
       obtain ⟨q,rfl,hq1,hq2⟩:=hrel
       by_cases hqm:q < m
       ·have hqs:q < s.size:=by omega
        have hd:=HIN.out q (by omega) hqm hqs
        go_wp2_with (go_at_call 44;refine (ref_figure _ _).mono ?_;rintro e w' ⟨rfl,rfl⟩)
        go_round
        case rel => exact ⟨q + 1,by go_num,by omega,by omega⟩
        case measure => simp [intOf];omega
       ·have hqe:q = m:=by omega
        subst hqe
        have hend:s.size ≤ q ∨ (∃ h:q < s.size,isDig s[q] = false):=by
         by_cases h:q < s.size
         ·exact .inr ⟨h,HOUT.out q rfl h⟩
         ·exact .inl (by omega)
        have hpq:(p:Int) ≤ (q:Int):=by omega
        have hqz:(q:Int) ≤ (s.size:Int):=by omega
        by_cases hfm:1 < q - p ∧ s[p] = 48
        ·have g2:((s[p].toNat:Int) == 48) = true:=by rw [hfm.2];rfl
         have g3:(p:Int) + 1 < (q:Int):=by omega
         have hx:=HON.out
         rw [if_pos hfm] at hx
         have HX:=Lib.hid hx
         clear hx hfm
         rcases hend with hend | ⟨hend,hd⟩
         all_goals
          go_wp2_with (first
           | (go_at_call 44;refine (ref_figure _ _).mono ?_;rintro e w' ⟨rfl,rfl⟩)
           | (go_at_call 45;refine (HA.out.1 _ (HG0.out.keep bel)).mono ?_;rintro e w1 ⟨va,er,rfl,hb1⟩;obtain ⟨hc1,hf1⟩:=bcell hb1;(try simp only [bqh,bqc,bqf] at hc1 hf1);have hz1:=hb1.size;(try simp at hz1);(try have hy1:=nl1 hz1);(try have hx1:=nl2 hy1);refine szz w1 wr ?_;intros))
          go_meet
          exact ⟨q,_,1,⟨1,va,⟨#[]⟩⟩,rfl,by go_num,rfl,by omega,by omega,by unfold SWB;and_intros <;> first | (go_simp;done) | (go_simp;rfl),bel,Lib.hid (.inl ⟨by decide,_,HX.out⟩)⟩
        ·have g2:(((s[p].toNat:Int) == 48) = true ∧ ¬ (p:Int) + 1 < (q:Int)) ∨ ((s[p].toNat:Int) == 48) = false:=by
          by_cases h48:s[p] = 48
          ·exact .inl ⟨by rw [h48];rfl,by have h:¬ 1 < q - p:=fun h => hfm ⟨h,h48⟩;omega⟩
          ·exact .inr (byte_ne (b:=48) h48)
         have hx:=HON.out
         rw [if_neg hfm] at hx
         rcases HA.out.2 with ha | ⟨hov,ha⟩
         ·have HA2:=Lib.hid ha
          by_cases hov:1099511627776 < dv
          ·have hov':(1099511627776:Int) < (dv:Int):=by omega
           rw [if_pos hov] at hx
           have HX:=Lib.hid hx
           clear hx hfm ha hov
           rcases hend with hend | ⟨hend,hd⟩ <;> rcases g2 with ⟨g2,g3⟩ | g2
           all_goals
            go_wp2_with (first
             | (go_at_call 44;refine (ref_figure _ _).mono ?_;rintro e w' ⟨rfl,rfl⟩)
             | (go_at_call 45;refine (HA2.out _ (HG0.out.keep bel)).mono ?_;rintro e w1 ⟨rfl,hb1⟩;obtain ⟨hc1,hf1⟩:=bcell hb1;(try simp only [bqh,bqc,bqf] at hc1 hf1);have hz1:=hb1.size;(try simp at hz1);(try have hy1:=nl1 hz1);(try have hx1:=nl2 hy1);refine szz w1 wr ?_;intros))
            go_meet
            exact ⟨q,_,1,⟨1,dv,⟨#[]⟩⟩,rfl,by go_num,rfl,by omega,by omega,by unfold SWB;and_intros <;> first | (go_simp;done) | (go_simp;rfl),bel,Lib.hid (.inl ⟨by decide,_,HX.out⟩)⟩
          ·have hov':¬ (1099511627776:Int) < (dv:Int):=by omega
           rw [if_neg hov] at hx
           have HX:=Lib.hid hx
           clear hx hfm ha hov
           rcases hend with hend | ⟨hend,hd⟩ <;> rcases g2 with ⟨g2,g3⟩ | g2
           all_goals
            go_wp2_with (first
             | (go_at_call 44;refine (ref_figure _ _).mono ?_;rintro e w' ⟨rfl,rfl⟩)
             | (go_at_call 45;refine (HA2.out _ (HG0.out.keep bel)).mono ?_;rintro e w1 ⟨rfl,hb1⟩;obtain ⟨hc1,hf1⟩:=bcell hb1;(try simp only [bqh,bqc,bqf] at hc1 hf1);have hz1:=hb1.size;(try simp at hz1);(try have hy1:=nl1 hz1);(try have hx1:=nl2 hy1);refine szz w1 wr ?_;intros))
            go_meet
            exact ⟨q,0,1,⟨1,dv,⟨#[]⟩⟩,rfl,by go_num,rfl,by omega,by omega,by unfold SWB;and_intros <;> first | (go_simp;done) | (go_simp;rfl),bel,Lib.hid (.inr ⟨rfl,HX.out⟩)⟩
         ·have HA2:=Lib.hid ha
          rw [if_pos hov] at hx
          have HX:=Lib.hid hx
          clear hx hfm ha hov
          rcases hend with hend | ⟨hend,hd⟩ <;> rcases g2 with ⟨g2,g3⟩ | g2
          all_goals
           go_wp2_with (first
            | (go_at_call 44;refine (ref_figure _ _).mono ?_;rintro e w' ⟨rfl,rfl⟩)
            | (go_at_call 45;refine (HA2.out _ (HG0.out.keep bel)).mono ?_;rintro e w1 ⟨va,te,pe,rfl,hb1⟩;obtain ⟨hc1,hf1⟩:=bcell hb1;(try simp only [bqh,bqc,bqf] at hc1 hf1);have hz1:=hb1.size;(try simp at hz1);(try have hy1:=nl1 hz1);(try have hx1:=nl2 hy1);refine szz w1 wr ?_;intros))
           go_meet
           exact ⟨q,_,1,⟨1,va,⟨#[]⟩⟩,rfl,by go_num,rfl,by omega,by omega,by unfold SWB;and_intros <;> first | (go_simp;done) | (go_simp;rfl),bel,Lib.hid (.inl ⟨by decide,_,HX.out⟩)⟩
     rw [if_neg d1] at hone
     have e1:isDig s[p] = false:=by simpa using d1
     by_cases d2:isLow s[p] = true
     ·rw [if_pos d2] at hone
      as_aux_lemma =>
      have hn1:=span_one hlt (isLow_word d2)
      have hnf:=span_fit isWord s (Nat.le_of_lt hlt)
      have HIN:=Lib.hid (fun q h1 h2 hq => span_in (pr:=isWord) (s:=s) (p:=p) (q:=q) h1 h2 hq)
      have HOUT:=Lib.hid (fun q h2 hq => span_out (pr:=isWord) (s:=s) (p:=p) (q:=q) h2 hq)
      unfold wordX at hone
      clear d1
      generalize spanLen isWord (s.data.toList.drop p) = n at hone hn1 hnf HIN HOUT
      obtain ⟨m,hm⟩:∃ m,m = p + n:=⟨_,rfl⟩
      have hnm:n = m - p:=by omega
      subst hnm
      rw [← hm] at hnf HIN HOUT
      have hpm:p + 1 ≤ m:=by omega
      clear hm hn1
      have hmid:=extract_mid s p m
      have hmz:(s.extract p m).size = m - p:=by rw [ByteArray.size_extract];omega
      rw [← hmid] at hone
      have HON:=Lib.hid hone
      clear hone hmid
      go_wp2_with (first | (go_at_call 44;refine (ref_figure _ _).mono ?_;rintro e w' ⟨rfl,rfl⟩) | (go_at_call 46;refine (ref_small _ _).mono ?_;rintro e w' ⟨rfl,rfl⟩))
      go_loop [8] (fun i => ∃ q:Nat,i = .int .i64 q ∧ p + 1 ≤ q ∧ q ≤ m) (fun i => m - (intOf i).toNat)
      case atStart => exact ⟨p + 1,by go_num,by omega,by omega⟩
      case round =>
       obtain ⟨q,rfl,hq1,hq2⟩:=hrel
       by_cases hqm:q < m
       ·have hqs:q < s.size:=by omega
        have hd:=HIN.out q (by omega) hqm hqs
        unfold isWord at hd
        rw [Bool.or_eq_true] at hd
        rcases (by cases h:isLow s[q] with
         | true => exact .inl rfl
         | false => rw [h] at hd;exact .inr ⟨rfl,by simpa using hd⟩:isLow s[q] = true ∨ (isLow s[q] = false ∧ isDig s[q] = true)) with hd | ⟨hd,hd2⟩
        all_goals
         go_wp2_with (first | (go_at_call 44;refine (ref_figure _ _).mono ?_;rintro e w' ⟨rfl,rfl⟩) | (go_at_call 46;refine (ref_small _ _).mono ?_;rintro e w' ⟨rfl,rfl⟩))
         go_round
         case rel => exact ⟨q + 1,by go_num,by omega,by omega⟩
         case measure => simp [intOf];omega
       ·have hqe:q = m:=by omega
        subst hqe
        have hend:s.size ≤ q ∨ (∃ h:q < s.size,isLow s[q] = false ∧ isDig s[q] = false):=by
         by_cases h:q < s.size
         ·have h2:=HOUT.out q rfl h
          unfold isWord at h2
          rw [Bool.or_eq_false_iff] at h2
          exact .inr ⟨h,h2⟩
         ·exact .inl (by omega)
        have hqz:(q:Int) ≤ (s.size:Int):=by omega
        have hx:=HON.out
        by_cases h10:10 < q - p
        ·have h10':(10:Int) < (q:Int) - (p:Int):=by omega
         rw [if_pos h10] at hx
         have HX:=Lib.hid hx
         clear hx
         rcases hend with hend | ⟨hend,hd,hd2⟩
         all_goals
          go_wp2_with (first | (go_at_call 44;refine (ref_figure _ _).mono ?_;rintro e w' ⟨rfl,rfl⟩) | (go_at_call 46;refine (ref_small _ _).mono ?_;rintro e w' ⟨rfl,rfl⟩))
          go_meet
          exact ⟨q,_,2,tkVal,rfl,by go_num,rfl,by omega,by omega,by unfold SWB;and_intros <;> first | (go_simp;done) | (go_simp;rfl),bel,Lib.hid (.inl ⟨by decide,_,HX.out⟩)⟩
        ·have h10':¬ (10:Int) < (q:Int) - (p:Int):=by omega
         rw [if_neg h10] at hx
         have HX:=Lib.hid hx
         clear hx
         rcases hend with hend | ⟨hend,hd,hd2⟩
         all_goals
          go_wp2_with (first
           | (go_at_call 44;refine (ref_figure _ _).mono ?_;rintro e w' ⟨rfl,rfl⟩)
           | (go_at_call 46;refine (ref_small _ _).mono ?_;rintro e w' ⟨rfl,rfl⟩))
          go_meet
          exact ⟨q,0,2,⟨0,0,⟨#[]⟩⟩,rfl,by go_num,rfl,by omega,by omega,by unfold SWB;and_intros <;> first | (go_simp;done) | (go_simp;rfl),bel,Lib.hid (.inr ⟨rfl,HX.out⟩)⟩
     rw [if_neg d2] at hone
     have e2:isLow s[p] = false:=by simpa using d2
     by_cases d3:s[p] = 34
     ·rw [if_pos d3] at hone
      have g3:((s[p].toNat:Int) == 34) = true:=by rw [d3];rfl
      have hrl:(s.data.toList.drop p).length = s.size - p:=by rw [List.length_drop,HSL.out]
      have HRL:=Lib.hid hrl
      have HON:=Lib.hid hone
      have HDG:=Lib.hid (fun q h1 hq => drop_get s (p:=p) (q:=q) h1 hq)
      clear hone hrl d1 d2 d3
      go_wp2_with (first | (go_at_call 44;refine (ref_figure _ _).mono ?_;rintro e w' ⟨rfl,rfl⟩) | (go_at_call 46;refine (ref_small _ _).mono ?_;rintro e w' ⟨rfl,rfl⟩))
      generalize hwq:wr = W0 at *
      clear hwq
      go_loopw [8,10] (fun i e wq => ∃ (q:Nat) (x:List UInt8),i = .int .i64 q ∧ p + 1 ≤ q ∧ q ≤ s.size ∧ TBOX wq W0.heap.size p x ∧ Below W0.heap.size W0 wq ∧ ((e = .int .i64 3 ∧ Hid (qtAt (s.data.toList.drop p) (q - p) x)) ∨ (e = .int .i64 0 ∧ Hid (quoteX (s.data.toList.drop p) = if 40 < x.length then (noTk,1) else (⟨3,0,s.extract p q,⟨3,0,ofL x⟩⟩,0)))) ∧ x.length ≤ q) (fun i e _ => 2 * (s.size + 1 - (intOf i).toNat) + (intOf e).toNat)
      case atStart => exact ⟨p + 1,[],by go_num,by omega,by omega,by unfold TBOX;and_intros <;> first | (go_simp;done) | (go_simp;rfl),by exact bel,.inl ⟨rfl,Lib.hid (by rw [Nat.add_sub_cancel_left];exact qtAt_start _)⟩,by simp⟩
      case round =>
       obtain ⟨q,x,rfl,hq1,hq2,⟨x0,x1,x2,x3,x4,x5,f2,f5⟩,hbq,hm,hxl⟩:=hrel
       have hB:W0.heap.size < wr.heap.size:=block_lt_of_cell x0
       have hqz:(q:Int) ≤ (s.size:Int):=by omega
       rcases hm with ⟨rfl,hqt⟩ | ⟨rfl,hfin⟩
       ·by_cases hlq:q < s.size
        ·have hget:=HDG.out q (by omega) hlq
         by_cases hq:s[q] = 34
         ·have g4:((s[q].toNat:Int) == 34) = true:=by rw [hq];rfl
          have hcl:=qtAt_close hqt.out (by omega) (by rw [hget,hq])
          have hex:=extract_mid s p (q + 1)
          rw [show q + 1 - p = q - p + 1 by omega] at hex
          rw [← hex] at hcl
          have HCL:=Lib.hid hcl
          clear hcl hex hget hq
          as_aux_lemma =>
          go_wp2_with fail
          go_roundw
          case rel => exact ⟨q + 1,x,by go_num,by omega,by omega,⟨x0,x1,x2,x3,x4,x5,f2,f5⟩,hbq,.inr ⟨rfl,HCL⟩,by omega⟩
          case measure => simp [intOf];omega
         ·have g4:((s[q].toNat:Int) == 34) = false:=byte_ne (b:=34) hq
          by_cases he:s[q] = 92
          ·have g5:((s[q].toNat:Int) == 92) = true:=by rw [he];rfl
           by_cases hk:q + 1 < s.size
           ·have hki:((q:Int) + 1 == (s.size:Int)) = false:=by simp only [beq_eq_false_iff_ne,ne_eq];omega
            have hki2:(q:Int) + 1 < (s.size:Int):=by omega
            have hki3:(q:Int) + 1 + 1 ≤ (s.size:Int):=by omega
            have hget2:=HDG.out (q + 1) (by omega) hk
            rw [show q + 1 - p = q - p + 1 by omega] at hget2
            have hap:=ofL_app x s (q + 1) hk
            have hox:(ofL x).size ≤ 160:=by rw [ofL_size];omega
            have hoe:(s.extract (q + 1) (q + 1 + 1)).size ≤ 160:=by rw [ByteArray.size_extract];omega
            have hwr:IntKind.i64.wrap ((q:Int) + 1 + 1) = (q:Int) + 1 + 1:=IntWalk.i64_in _ (by omega)
            have htn:((q:Int) + 1 + 1).toNat = q + 1 + 1:=by omega
            have hki4:0 ≤ (q:Int) + 1 + 1:=by omega
            have hki5:(q:Int) + 1 ≤ (q:Int) + 1 + 1:=by omega
            rcases byte3 s[q + 1] with hd | hd | ⟨hd,hd'⟩
            ·have g6:((s[q + 1].toNat:Int) == 34) = true:=by rw [hd];rfl
             have g8:((s[q + 1].toNat:Int) != 34) = false:=by rw [bne,g6];rfl
             have hy:=qtAt_esc hqt.out (by omega) (by rw [hget,he]) hget2 (.inl hd)
             rw [show q - p + 2 = q + 2 - p by omega] at hy
             have HY:=Lib.hid hy
             have HAP:=Lib.hid hap
             clear hy hap hget hget2 he hq hd
             as_aux_lemma =>
             go_wp2_with fail
             have hS0:wr.drew.cell? ⟨W0.heap.size,5,none⟩ = some (.string (ofL x)):=by simpa using x5
             refine wp_region_T (fun w' => w'.cell? ⟨W0.heap.size,5,none⟩ = some (.string (ofL x))) 11 (by kernel_rfl) ?_
             refine wpAnyT_take (i:=0) (oi:=_) (v:=?_) rfl (by kernel_rfl) (fun _ _ _ h => h) hS0 (by rfl) ?_ ?_
             rotate_left
             ·intro w' hS';(try dsimp only at hS');(try go_split_ands);go_simp;(try rw [if_neg (by omega)]);try with_reducible rfl
             simp only [Act.put,List.setIfInBounds_toArray,List.set_cons_zero,List.set_cons_succ]
             refine wpAnyT_take (i:=1) (oi:=_) (v:=?_) rfl (by kernel_rfl) (fun _ _ _ h => h) hS0 (by rfl) ?_ ?_
             rotate_left
             ·intro w' hS';(try dsimp only at hS');(try go_split_ands);go_simp;(try rw [if_neg (by omega)]);try with_reducible rfl
             simp only [Act.put,List.setIfInBounds_toArray,List.set_cons_zero,List.set_cons_succ]
             refine wpAnyT_take (i:=2) (oi:=_) (v:=?_) rfl (by kernel_rfl) (fun _ _ _ h => h) hS0 (by rfl) ?_ ?_
             rotate_left
             ·intro w' hS';(try dsimp only at hS');(try go_split_ands);go_simp;(try rw [if_neg (by omega)]);try with_reducible rfl
             simp only [Act.put,List.setIfInBounds_toArray,List.set_cons_zero,List.set_cons_succ]
             refine wpAnyT_take (i:=3) (oi:=_) (v:=?_) rfl (by kernel_rfl) (fun _ _ _ h => h) hS0 (by rfl) ?_ ?_
             rotate_left
             ·intro w' hS';(try dsimp only at hS');(try go_split_ands);go_simp;(try rw [if_neg (by omega)]);try with_reducible rfl
             simp only [Act.put,List.setIfInBounds_toArray,List.set_cons_zero,List.set_cons_succ]
             refine wpAnyT_take (i:=4) (oi:=_) (v:=?_) rfl (by kernel_rfl) (fun _ _ _ h => h) hS0 (by rfl) ?_ ?_
             rotate_left
             ·intro w' hS';(try dsimp only at hS');(try go_split_ands);go_simp;(try rw [if_neg (by omega)]);try with_reducible rfl
             simp only [Act.put,List.setIfInBounds_toArray,List.set_cons_zero,List.set_cons_succ]
             refine wpAnyT_take (i:=5) (oi:=_) (v:=?_) rfl (by kernel_rfl) (fun _ _ _ h => h) hS0 (by rfl) ?_ ?_
             rotate_left
             ·intro w' hS';(try dsimp only at hS');(try go_split_ands);go_simp;(try rw [if_neg (by omega)]);try with_reducible rfl
             simp only [Act.put,List.setIfInBounds_toArray,List.set_cons_zero,List.set_cons_succ]
             refine wpAnyT_take (i:=6) (oi:=_) (v:=?_) rfl (by kernel_rfl) (fun _ _ _ h => h) hS0 (by rfl) ?_ ?_
             rotate_left
             ·intro w' hS';(try dsimp only at hS');(try go_split_ands);go_simp;(try rw [if_neg (by omega)]);try with_reducible rfl
             simp only [Act.put,List.setIfInBounds_toArray,List.set_cons_zero,List.set_cons_succ]
             refine wpAnyT_take (i:=7) (oi:=_) (v:=?_) rfl (by kernel_rfl) (fun _ _ _ h => h) hS0 (by rfl) ?_ ?_
             rotate_left
             ·intro w' hS';(try dsimp only at hS');(try go_split_ands);go_simp;(try rw [if_neg (by omega)]);try with_reducible rfl
             simp only [Act.put,List.setIfInBounds_toArray,List.set_cons_zero,List.set_cons_succ]
             refine wpAnyT_take (i:=8) (oi:=_) (v:=?_) rfl (by kernel_rfl) (fun _ _ _ h => h) hS0 (by rfl) ?_ ?_
             rotate_left
             ·intro w' hS';(try dsimp only at hS');(try go_split_ands);go_simp;(try rw [if_neg (by omega)]);try with_reducible rfl
             simp only [Act.put,List.setIfInBounds_toArray,List.set_cons_zero,List.set_cons_succ]
             refine wpAnyT_take (i:=9) (oi:=_) (v:=?_) rfl (by kernel_rfl) (fun _ _ _ h => h) hS0 (by rfl) ?_ ?_
             rotate_left
             ·intro w' hS';(try dsimp only at hS');(try go_split_ands);go_simp;(try rw [if_neg (by omega)]);try with_reducible rfl
             simp only [Act.put,List.setIfInBounds_toArray,List.set_cons_zero,List.set_cons_succ]
             refine wpAnyT_take (i:=10) (oi:=_) (v:=?_) rfl (by kernel_rfl) (fun _ _ _ h => h) hS0 (by rfl) ?_ ?_
             rotate_left
             ·intro w' hS';(try dsimp only at hS');(try go_split_ands);go_simp;(try rw [if_neg (by omega)]);try with_reducible rfl
             simp only [Act.put,List.setIfInBounds_toArray,List.set_cons_zero,List.set_cons_succ]
             refine wpAnyT_one (i:=11) (o:=_) rfl (by kernel_rfl) (fun K hK => ?_)
             go_simp
             refine hK.out _ _ (fun h => absurd h (by decide)) ?_
             clear hK K
             refine wpAnyT_done (by kernel_rfl) ?_ _
             go_wp2_with fail
             go_roundw
             case rel => exact ⟨q + 2,x ++ [s[q + 1]],by go_num,by omega,by omega,by unfold TBOX;rw [← HAP.out];and_intros <;> first | (go_simp;done) | (go_simp;rfl),by exact bel,.inl ⟨rfl,HY⟩,by simp;omega⟩
             case measure => simp [intOf];omega
            ·have g6:((s[q + 1].toNat:Int) == 34) = false:=by rw [hd];rfl
             have g7:((s[q + 1].toNat:Int) == 92) = true:=by rw [hd];rfl
             have g8:((s[q + 1].toNat:Int) != 34) = true:=by rw [bne,g6];rfl
             have g9:((s[q + 1].toNat:Int) != 92) = false:=by rw [bne,g7];rfl
             have g10:¬ (s[q + 1].toNat:Int) = 34:=by simpa using g6
             have hy:=qtAt_esc hqt.out (by omega) (by rw [hget,he]) hget2 (.inr hd)
             rw [show q - p + 2 = q + 2 - p by omega] at hy
             have HY:=Lib.hid hy
             have HAP:=Lib.hid hap
             clear hy hap hget hget2 he hq hd
             as_aux_lemma =>
             go_wp2_with fail
             have hS0:wr.drew.cell? ⟨W0.heap.size,5,none⟩ = some (.string (ofL x)):=by simpa using x5
             refine wp_region_T (fun w' => w'.cell? ⟨W0.heap.size,5,none⟩ = some (.string (ofL x))) 11 (by kernel_rfl) ?_
             refine wpAnyT_take (i:=0) (oi:=_) (v:=?_) rfl (by kernel_rfl) (fun _ _ _ h => h) hS0 (by rfl) ?_ ?_
             rotate_left
             ·intro w' hS';(try dsimp only at hS');(try go_split_ands);go_simp;(try rw [if_neg (by omega)]);try with_reducible rfl
             simp only [Act.put,List.setIfInBounds_toArray,List.set_cons_zero,List.set_cons_succ]
             refine wpAnyT_take (i:=1) (oi:=_) (v:=?_) rfl (by kernel_rfl) (fun _ _ _ h => h) hS0 (by rfl) ?_ ?_
             rotate_left
             ·intro w' hS';(try dsimp only at hS');(try go_split_ands);go_simp;(try rw [if_neg (by omega)]);try with_reducible rfl
             simp only [Act.put,List.setIfInBounds_toArray,List.set_cons_zero,List.set_cons_succ]
             refine wpAnyT_take (i:=2) (oi:=_) (v:=?_) rfl (by kernel_rfl) (fun _ _ _ h => h) hS0 (by rfl) ?_ ?_
             rotate_left
             ·intro w' hS';(try dsimp only at hS');(try go_split_ands);go_simp;(try rw [if_neg (by omega)]);try with_reducible rfl
             simp only [Act.put,List.setIfInBounds_toArray,List.set_cons_zero,List.set_cons_succ]
             refine wpAnyT_take (i:=3) (oi:=_) (v:=?_) rfl (by kernel_rfl) (fun _ _ _ h => h) hS0 (by rfl) ?_ ?_
             rotate_left
             ·intro w' hS';(try dsimp only at hS');(try go_split_ands);go_simp;(try rw [if_neg (by omega)]);try with_reducible rfl
             simp only [Act.put,List.setIfInBounds_toArray,List.set_cons_zero,List.set_cons_succ]
             refine wpAnyT_take (i:=4) (oi:=_) (v:=?_) rfl (by kernel_rfl) (fun _ _ _ h => h) hS0 (by rfl) ?_ ?_
             rotate_left
             ·intro w' hS';(try dsimp only at hS');(try go_split_ands);go_simp;(try rw [if_neg (by omega)]);try with_reducible rfl
             simp only [Act.put,List.setIfInBounds_toArray,List.set_cons_zero,List.set_cons_succ]
             refine wpAnyT_take (i:=5) (oi:=_) (v:=?_) rfl (by kernel_rfl) (fun _ _ _ h => h) hS0 (by rfl) ?_ ?_
             rotate_left
             ·intro w' hS';(try dsimp only at hS');(try go_split_ands);go_simp;(try rw [if_neg (by omega)]);try with_reducible rfl
             simp only [Act.put,List.setIfInBounds_toArray,List.set_cons_zero,List.set_cons_succ]
             refine wpAnyT_take (i:=6) (oi:=_) (v:=?_) rfl (by kernel_rfl) (fun _ _ _ h => h) hS0 (by rfl) ?_ ?_
             rotate_left
             ·intro w' hS';(try dsimp only at hS');(try go_split_ands);go_simp;(try rw [if_neg (by omega)]);try with_reducible rfl
             simp only [Act.put,List.setIfInBounds_toArray,List.set_cons_zero,List.set_cons_succ]
             refine wpAnyT_take (i:=7) (oi:=_) (v:=?_) rfl (by kernel_rfl) (fun _ _ _ h => h) hS0 (by rfl) ?_ ?_
             rotate_left
             ·intro w' hS';(try dsimp only at hS');(try go_split_ands);go_simp;(try rw [if_neg (by omega)]);try with_reducible rfl
             simp only [Act.put,List.setIfInBounds_toArray,List.set_cons_zero,List.set_cons_succ]
             refine wpAnyT_take (i:=8) (oi:=_) (v:=?_) rfl (by kernel_rfl) (fun _ _ _ h => h) hS0 (by rfl) ?_ ?_
             rotate_left
             ·intro w' hS';(try dsimp only at hS');(try go_split_ands);go_simp;(try rw [if_neg (by omega)]);try with_reducible rfl
             simp only [Act.put,List.setIfInBounds_toArray,List.set_cons_zero,List.set_cons_succ]
             refine wpAnyT_take (i:=9) (oi:=_) (v:=?_) rfl (by kernel_rfl) (fun _ _ _ h => h) hS0 (by rfl) ?_ ?_
             rotate_left
             ·intro w' hS';(try dsimp only at hS');(try go_split_ands);go_simp;(try rw [if_neg (by omega)]);try with_reducible rfl
             simp only [Act.put,List.setIfInBounds_toArray,List.set_cons_zero,List.set_cons_succ]
             refine wpAnyT_take (i:=10) (oi:=_) (v:=?_) rfl (by kernel_rfl) (fun _ _ _ h => h) hS0 (by rfl) ?_ ?_
             rotate_left
             ·intro w' hS';(try dsimp only at hS');(try go_split_ands);go_simp;(try rw [if_neg (by omega)]);try with_reducible rfl
             simp only [Act.put,List.setIfInBounds_toArray,List.set_cons_zero,List.set_cons_succ]
             refine wpAnyT_one (i:=11) (o:=_) rfl (by kernel_rfl) (fun K hK => ?_)
             go_simp
             refine hK.out _ _ (fun h => absurd h (by decide)) ?_
             clear hK K
             refine wpAnyT_done (by kernel_rfl) ?_ _
             go_wp2_with fail
             go_roundw
             case rel => exact ⟨q + 2,x ++ [s[q + 1]],by go_num,by omega,by omega,by unfold TBOX;rw [← HAP.out];and_intros <;> first | (go_simp;done) | (go_simp;rfl),by exact bel,.inl ⟨rfl,HY⟩,by simp;omega⟩
             case measure => simp [intOf];omega
            ·have g6:((s[q + 1].toNat:Int) == 34) = false:=byte_ne (b:=34) hd
             have g7:((s[q + 1].toNat:Int) == 92) = false:=byte_ne (b:=92) hd'
             have g8:((s[q + 1].toNat:Int) != 34) = true:=by rw [bne,g6];rfl
             have g9:((s[q + 1].toNat:Int) != 92) = true:=by rw [bne,g7];rfl
             have g10:¬ (s[q + 1].toNat:Int) = 34:=by simpa using g6
             have g11:¬ (s[q + 1].toNat:Int) = 92:=by simpa using g7
             have hx:=qtAt_bad hqt.out hget hq (.inl ⟨he,fun d h => by rw [hget2] at h;cases h;exact ⟨hd,hd'⟩⟩)
             have HX:=Lib.hid (HON.out.trans hx)
             clear hx hget hget2 he hq hd hd' hap
             as_aux_lemma =>
             go_wp2_with fail
             go_meet
             exact ⟨q,_,3,⟨3,0,ofL x⟩,rfl,by go_num,rfl,by omega,by omega,by unfold SWB;and_intros <;> first | (go_simp;done) | (go_simp;rfl),bel,Lib.hid (.inl ⟨by decide,_,HX.out⟩)⟩
           ·have hki:((q:Int) + 1 == (s.size:Int)) = true:=by simp only [beq_iff_eq];omega
            have hx:=qtAt_bad hqt.out hget hq (.inl ⟨he,fun d h => by have:=(List.getElem?_eq_some_iff.1 h).1;rw [HRL.out] at this;omega⟩)
            have HX:=Lib.hid (HON.out.trans hx)
            clear hx hget he hq
            as_aux_lemma =>
            go_wp2_with fail
            go_meet
            exact ⟨q,_,3,⟨3,0,ofL x⟩,rfl,by go_num,rfl,by omega,by omega,by unfold SWB;and_intros <;> first | (go_simp;done) | (go_simp;rfl),bel,Lib.hid (.inl ⟨by decide,_,HX.out⟩)⟩
          ·have g5:((s[q].toNat:Int) == 92) = false:=byte_ne (b:=92) he
           by_cases hlo:s[q].toNat < 32
           ·have g6:(s[q].toNat:Int) < 32:=by omega
            have hx:=qtAt_bad hqt.out hget hq (.inr ⟨he,.inl hlo⟩)
            have HX:=Lib.hid (HON.out.trans hx)
            clear hx hget he hq hlo
            as_aux_lemma =>
            go_wp2_with fail
            go_meet
            exact ⟨q,_,3,⟨3,0,ofL x⟩,rfl,by go_num,rfl,by omega,by omega,by unfold SWB;and_intros <;> first | (go_simp;done) | (go_simp;rfl),bel,Lib.hid (.inl ⟨by decide,_,HX.out⟩)⟩
           ·have g6:¬ (s[q].toNat:Int) < 32:=by omega
            by_cases hhi:126 < s[q].toNat
            ·have g7:(126:Int) < (s[q].toNat:Int):=by omega
             have hx:=qtAt_bad hqt.out hget hq (.inr ⟨he,.inr hhi⟩)
             have HX:=Lib.hid (HON.out.trans hx)
             clear hx hget he hq hlo hhi
             as_aux_lemma =>
             go_wp2_with fail
             go_meet
             exact ⟨q,_,3,⟨3,0,ofL x⟩,rfl,by go_num,rfl,by omega,by omega,by unfold SWB;and_intros <;> first | (go_simp;done) | (go_simp;rfl),bel,Lib.hid (.inl ⟨by decide,_,HX.out⟩)⟩
            ·have g7:¬ (126:Int) < (s[q].toNat:Int):=by omega
             have hy:=qtAt_char hqt.out (by omega) hget hq he (by omega)
             rw [show q - p + 1 = q + 1 - p by omega] at hy
             have hap:=ofL_app x s q hlq
             have hox:(ofL x).size ≤ 160:=by rw [ofL_size];omega
             have hoe:(s.extract q (q + 1)).size ≤ 160:=by rw [ByteArray.size_extract];omega
             have hwr:IntKind.i64.wrap ((q:Int) + 1) = (q:Int) + 1:=IntWalk.i64_in _ (by omega)
             have htn:((q:Int) + 1).toNat = q + 1:=by omega
             have hki4:0 ≤ (q:Int) + 1:=by omega
             have hki5:(q:Int) ≤ (q:Int) + 1:=by omega
             have hki3:(q:Int) + 1 ≤ (s.size:Int):=by omega
             have HY:=Lib.hid hy
             have HAP:=Lib.hid hap
             clear hy hap hget he hq hlo hhi
             as_aux_lemma =>
             go_wp2_with fail
             have hS0:wr.drew.cell? ⟨W0.heap.size,5,none⟩ = some (.string (ofL x)):=by simpa using x5
             refine wp_region_T (fun w' => w'.cell? ⟨W0.heap.size,5,none⟩ = some (.string (ofL x))) 11 (by kernel_rfl) ?_
             refine wpAnyT_take (i:=0) (oi:=_) (v:=?_) rfl (by kernel_rfl) (fun _ _ _ h => h) hS0 (by rfl) ?_ ?_
             rotate_left
             ·intro w' hS';(try dsimp only at hS');(try go_split_ands);go_simp;(try rw [if_neg (by omega)]);try with_reducible rfl
             simp only [Act.put,List.setIfInBounds_toArray,List.set_cons_zero,List.set_cons_succ]
             refine wpAnyT_take (i:=1) (oi:=_) (v:=?_) rfl (by kernel_rfl) (fun _ _ _ h => h) hS0 (by rfl) ?_ ?_
             rotate_left
             ·intro w' hS';(try dsimp only at hS');(try go_split_ands);go_simp;(try rw [if_neg (by omega)]);try with_reducible rfl
             simp only [Act.put,List.setIfInBounds_toArray,List.set_cons_zero,List.set_cons_succ]
             refine wpAnyT_take (i:=2) (oi:=_) (v:=?_) rfl (by kernel_rfl) (fun _ _ _ h => h) hS0 (by rfl) ?_ ?_
             rotate_left
             ·intro w' hS';(try dsimp only at hS');(try go_split_ands);go_simp;(try rw [if_neg (by omega)]);try with_reducible rfl
             simp only [Act.put,List.setIfInBounds_toArray,List.set_cons_zero,List.set_cons_succ]
             refine wpAnyT_take (i:=3) (oi:=_) (v:=?_) rfl (by kernel_rfl) (fun _ _ _ h => h) hS0 (by rfl) ?_ ?_
             rotate_left
             ·intro w' hS';(try dsimp only at hS');(try go_split_ands);go_simp;(try rw [if_neg (by omega)]);try with_reducible rfl
             simp only [Act.put,List.setIfInBounds_toArray,List.set_cons_zero,List.set_cons_succ]
             refine wpAnyT_take (i:=4) (oi:=_) (v:=?_) rfl (by kernel_rfl) (fun _ _ _ h => h) hS0 (by rfl) ?_ ?_
             rotate_left
             ·intro w' hS';(try dsimp only at hS');(try go_split_ands);go_simp;(try rw [if_neg (by omega)]);try with_reducible rfl
             simp only [Act.put,List.setIfInBounds_toArray,List.set_cons_zero,List.set_cons_succ]
             refine wpAnyT_take (i:=5) (oi:=_) (v:=?_) rfl (by kernel_rfl) (fun _ _ _ h => h) hS0 (by rfl) ?_ ?_
             rotate_left
             ·intro w' hS';(try dsimp only at hS');(try go_split_ands);go_simp;(try rw [if_neg (by omega)]);try with_reducible rfl
             simp only [Act.put,List.setIfInBounds_toArray,List.set_cons_zero,List.set_cons_succ]
             refine wpAnyT_take (i:=6) (oi:=_) (v:=?_) rfl (by kernel_rfl) (fun _ _ _ h => h) hS0 (by rfl) ?_ ?_
             rotate_left
             ·intro w' hS';(try dsimp only at hS');(try go_split_ands);go_simp;(try rw [if_neg (by omega)]);try with_reducible rfl
             simp only [Act.put,List.setIfInBounds_toArray,List.set_cons_zero,List.set_cons_succ]
             refine wpAnyT_take (i:=7) (oi:=_) (v:=?_) rfl (by kernel_rfl) (fun _ _ _ h => h) hS0 (by rfl) ?_ ?_
             rotate_left
             ·intro w' hS';(try dsimp only at hS');(try go_split_ands);go_simp;(try rw [if_neg (by omega)]);try with_reducible rfl
             simp only [Act.put,List.setIfInBounds_toArray,List.set_cons_zero,List.set_cons_succ]
             refine wpAnyT_take (i:=8) (oi:=_) (v:=?_) rfl (by kernel_rfl) (fun _ _ _ h => h) hS0 (by rfl) ?_ ?_
             rotate_left
             ·intro w' hS';(try dsimp only at hS');(try go_split_ands);go_simp;(try rw [if_neg (by omega)]);try with_reducible rfl
             simp only [Act.put,List.setIfInBounds_toArray,List.set_cons_zero,List.set_cons_succ]
             refine wpAnyT_take (i:=9) (oi:=_) (v:=?_) rfl (by kernel_rfl) (fun _ _ _ h => h) hS0 (by rfl) ?_ ?_
             rotate_left
             ·intro w' hS';(try dsimp only at hS');(try go_split_ands);go_simp;(try rw [if_neg (by omega)]);try with_reducible rfl
             simp only [Act.put,List.setIfInBounds_toArray,List.set_cons_zero,List.set_cons_succ]
             refine wpAnyT_take (i:=10) (oi:=_) (v:=?_) rfl (by kernel_rfl) (fun _ _ _ h => h) hS0 (by rfl) ?_ ?_
             rotate_left
             ·intro w' hS';(try dsimp only at hS');(try go_split_ands);go_simp;(try rw [if_neg (by omega)]);try with_reducible rfl
             simp only [Act.put,List.setIfInBounds_toArray,List.set_cons_zero,List.set_cons_succ]
             refine wpAnyT_one (i:=11) (o:=_) rfl (by kernel_rfl) (fun K hK => ?_)
             go_simp
             refine hK.out _ _ (fun h => absurd h (by decide)) ?_
             clear hK K
             refine wpAnyT_done (by kernel_rfl) ?_ _
             go_wp2_with fail
             go_roundw
             case rel => exact ⟨q + 1,x ++ [s[q]],by go_num,by omega,by omega,by unfold TBOX;rw [← HAP.out];and_intros <;> first | (go_simp;done) | (go_simp;rfl),by exact bel,.inl ⟨rfl,HY⟩,by simp;omega⟩
             case measure => simp [intOf];omega
        ·have hx:=qtAt_end hqt.out (by rw [HRL.out];omega)
         rw [← HON.out] at hx
         have HX:=Lib.hid hx
         clear hx
         as_aux_lemma =>
         go_wp2_with fail
         go_meet
         exact ⟨q,_,3,⟨3,0,ofL x⟩,rfl,by go_num,rfl,by omega,by omega,by unfold SWB;and_intros <;> first | (go_simp;done) | (go_simp;rfl),bel,Lib.hid (.inl ⟨by decide,_,HX.out⟩)⟩
       ·skip
        as_aux_lemma =>
        have hx:=hfin.out
        rw [← HON.out] at hx
        have hmz:(s.extract p q).size = q - p:=by rw [ByteArray.size_extract];omega
        have hox:(ofL x).size = x.length:=ofL_size x
        by_cases h40:40 < x.length
        ·have h40':(40:Int) < (x.length:Int):=by omega
         rw [if_pos h40] at hx
         have HX:=Lib.hid hx
         clear hx
         by_cases hlq:q < s.size
         all_goals
          go_wp2_with fail
          go_meet
          exact ⟨q,_,3,⟨3,0,ofL x⟩,rfl,by go_num,rfl,by omega,by omega,by unfold SWB;and_intros <;> first | (go_simp;done) | (go_simp;rfl),bel,Lib.hid (.inl ⟨by decide,_,HX.out⟩)⟩
        ·have h40':¬ (40:Int) < (x.length:Int):=by omega
         rw [if_neg h40] at hx
         have HX:=Lib.hid hx
         clear hx
         by_cases hlq:q < s.size
         all_goals
          go_wp2_with fail
          go_meet
          exact ⟨q,0,3,⟨3,0,(ofL x)⟩,rfl,by go_num,rfl,by omega,by omega,by unfold SWB;and_intros <;> first | (go_simp;done) | (go_simp;rfl),bel,Lib.hid (.inr ⟨rfl,HX.out⟩)⟩
     ·rw [if_neg d3] at hone
      as_aux_lemma =>
      have g3:((s[p].toNat:Int) == 34) = false:=byte_ne (b:=34) d3
      replace hone:=hone.trans (congrArg signX hdr)
      have hh:(s.data.toList.drop (p + 1)).head? = s.data.toList[p + 1]?:=by rw [List.head?_drop]
      clear d1 d2 d3
      by_cases h2:∃ h:p + 1 < s.size,s[p + 1] = 61 ∧ (s[p] = 60 ∨ s[p] = 33)
      ·obtain ⟨hk,h61,hc⟩:=h2
       have hdr2:=dropB_at (get_of s (p + 1) hk)
       rw [hdr2,h61,sign_two hc] at hone
       have hmz:(s.extract p (p + 1 + 1)).size = p + 2 - p:=by rw [ByteArray.size_extract];omega
       have hst:ofL [s[p],61] = s.extract p (p + 1 + 1):=by apply toList_inj;rw [two_toList s p hk,h61,ByteArray.toList_eq];rfl
       rw [hst] at hone
       have HX:=Lib.hid hone
       have hki:(p:Int) + 1 < (s.size:Int):=by omega
       have hki3:(p:Int) + 1 + 1 ≤ (s.size:Int):=by omega
       have hj:((s.extract p (p + 1 + 1)).toList == [60,61]) = true ∨ (((s.extract p (p + 1 + 1)).toList == [60,61]) = false ∧ ((s.extract p (p + 1 + 1)).toList == [33,61]) = true):=by
        rcases hc with hc | hc
        ·exact .inl (two_is s p hk 60 61 ⟨hc,h61⟩)
        ·exact .inr ⟨two_not s p hk 60 61 (fun h => by rw [hc] at h;exact absurd h.1 (by decide)),two_is s p hk 33 61 ⟨hc,h61⟩⟩
       rcases hj with j1 | ⟨j1,j2⟩
       all_goals
        clear hone hc hst h61 hdr2 hh
        go_wp2_with (first
         | (go_at_call 44;refine (ref_figure _ _).mono ?_;rintro e w' ⟨rfl,rfl⟩)
         | (go_at_call 46;refine (ref_small _ _).mono ?_;rintro e w' ⟨rfl,rfl⟩))
        go_meet
        exact ⟨(p + 2),0,4,⟨0,0,⟨#[]⟩⟩,rfl,by go_num,rfl,by omega,by omega,by unfold SWB;and_intros <;> first | (go_simp;done) | (go_simp;rfl),bel,Lib.hid (.inr ⟨rfl,HX.out⟩)⟩
      ·have hnt:¬ ((s.data.toList.drop (p + 1)).head? = some 61 ∧ (s[p] = 60 ∨ s[p] = 33)):=by
        rintro ⟨h1,h3⟩
        rw [hh] at h1
        have hl:=(List.getElem?_eq_some_iff.1 h1).1
        rw [HSL.out] at hl
        rw [get_of s (p + 1) hl] at h1
        exact h2 ⟨hl,Option.some.inj h1,h3⟩
       have hend:s.size ≤ p + 1 ∨ (p + 1 < s.size ∧ ((s.extract p (p + 1 + 1)).toList == [60,61]) = false ∧ ((s.extract p (p + 1 + 1)).toList == [33,61]) = false):=by
        by_cases hk:p + 1 < s.size
        ·exact .inr ⟨hk,two_not s p hk 60 61 (fun h => h2 ⟨hk,h.2,.inl h.1⟩),two_not s p hk 33 61 (fun h => h2 ⟨hk,h.2,.inr h.1⟩)⟩
        ·exact .inl (by omega)
       have hki3:(p:Int) + 1 ≤ (s.size:Int):=by omega
       by_cases hbd:s[p] = 33 ∨ oneSigns.contains s[p] = false
       ·rw [sign_bad hnt hbd] at hone
        have HX:=Lib.hid hone
        have hset:((s[p].toNat:Int) == 33) = true ∨ (((s[p].toNat:Int) == 33) = false ∧ oneSigns.contains s[p] = false):=by
         by_cases h33:s[p] = 33
         ·exact .inl (by rw [h33];rfl)
         ·exact .inr ⟨byte_ne (b:=33) h33,hbd.resolve_left h33⟩
        clear hone hnt hh h2 hbd
        rcases hend with hend | ⟨hend,j1,j2⟩ <;> rcases hset with g4 | ⟨g4,g5⟩
        any_goals have HAM:=Lib.hid (fun w => among_is s[p] w _ g5)
        all_goals
         try clear g5
         go_wp2_with (first | (go_at_call 44;refine (ref_figure _ _).mono ?_;rintro e w' ⟨rfl,rfl⟩) | (go_at_call 46;refine (ref_small _ _).mono ?_;rintro e w' ⟨rfl,rfl⟩) | (go_at_call 47;refine (HAM.out _).mono ?_;rintro e w3 ⟨rfl,rfl⟩))
         go_meet
         exact ⟨(p + 1),_,4,tkVal,rfl,by go_num,rfl,by omega,by omega,by unfold SWB;and_intros <;> first | (go_simp;done) | (go_simp;rfl),bel,Lib.hid (.inl ⟨by decide,_,HX.out⟩)⟩
       ·rw [not_or] at hbd
        have hcn:oneSigns.contains s[p] = true:=by simpa using hbd.2
        rw [sign_one (fun h => hnt ⟨h.1,.inl h.2⟩) hcn] at hone
        have g4:((s[p].toNat:Int) == 33) = false:=byte_ne (b:=33) hbd.1
        have HAM:=Lib.hid (fun w => among_is s[p] w _ hcn)
        have hmz:(s.extract p (p + 1)).size = p + 1 - p:=by rw [ByteArray.size_extract];omega
        have hst:ofL [s[p]] = s.extract p (p + 1):=by
         rw [extract_mid,dropB_at (get_of s p hlt),show p + 1 - p = 1 by omega]
         rfl
        rw [hst] at hone
        have HX:=Lib.hid hone
        clear hone hnt hh h2 hbd hcn hst
        rcases hend with hend | ⟨hend,j1,j2⟩
        all_goals
         go_wp2_with (first
          | (go_at_call 44;refine (ref_figure _ _).mono ?_;rintro e w' ⟨rfl,rfl⟩)
          | (go_at_call 46;refine (ref_small _ _).mono ?_;rintro e w' ⟨rfl,rfl⟩)
          | (go_at_call 47;refine (HAM.out _).mono ?_;rintro e w3 ⟨rfl,rfl⟩))
         go_meet
         exact ⟨(p + 1),0,4,⟨0,0,⟨#[]⟩⟩,rfl,by go_num,rfl,by omega,by omega,by unfold SWB;and_intros <;> first | (go_simp;done) | (go_simp;rfl),bel,Lib.hid (.inr ⟨rfl,HX.out⟩)⟩
  ·have hx:=lexAt_end hat.out (by rw [HSL.out];omega)
   rw [← HR.out] at hx
   have HX:=Lib.hid hx
   clear hx
   have hpe:p = s.size:=by omega
   go_wp2_with fail
   go_ret3
   rw [HX.out]
   exact ⟨_,rfl,hown.out,hb⟩
end Go.Proofs.YtldbpmlgbbomcaaGreatDoor
