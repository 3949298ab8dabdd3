/- Texts merged: Facts Ask. -/
import Derived.Test.YtbhkpepinogigaaGreatFld1
/- sheet.Facts and the reference FactsFault. -/
--TRYSZ (some lists of worlds name one that is not there)
namespace Go.Proofs.YtbhkpepinogigaaGreat
open Go.RowKit

set_option maxHeartbeats 1000000 in
theorem facts_IndexFunc (p:Fct → Bool) (f:FuncId) (cp:Value) (A:Option Addr) (n c:Nat) (l:List Fct) (w:World) (hn:inL n) (h:Sl w (old w) 7 RFct A n l) (hcf:∀ args w,(callFunc f args).run Tryz.prog w = .ok (.enter f args) w)
  (hcall:∀ (wr:World) (k:Nat) (x:Fct),Below w.heap.size w wr → l[k]? = some x → x.wf → Calls Tryz.prog f #[.agg #[.string x.name,.int .i64 x.key.k,.int .i64 x.key.n,.string x.key.s,.int .i64 x.has.k,.int .i64 x.has.n,.string x.has.s],cp] wr fun e w' => e = .returned (.bool (p x)) ∧ Below wr.heap.size wr w') :
  Calls Tryz.prog 109 #[.slice A n c,.func (.func f) #[] #[cp]] w fun e w' => e = .returned (.int .i64 (idxOf p l)) ∧ Below w.heap.size w w':=by
 unfold inL at hn
 have HH:=Lib.hid h
 have HC:=Lib.hid hcall
 clear h hcall
 go_enter Tryz.func109,Tryz.ntmps109
 go_wp2_with fail
 go_loopw [8] (fun i wr => ∃ k:Nat,k ≤ n ∧ i = .int .i64 k ∧ (l.take k).any p = false ∧ Below w.heap.size w wr) (fun i _ => n - (intOf i).toNat)
 case atStart => exact ⟨0,by omega,rfl,by simp,Below.refl _ _⟩
 case round =>
  obtain ⟨k,hk,rfl,hv,hb⟩:=hrel
  by_cases hlt:k < n
  ·obtain ⟨b,o,x,rfl,_,hl,hrep,h0,h1,h2,h3,h4,h5,h6⟩:=Fct_at (HH.out.now hb) hlt
   have HL:=Lib.hid (And.intro hl (And.intro hv hrep))
   clear hl hv hrep
   cases hp:p x
   ·have HP:=Lib.hid hp
    have hcl:=HC.out wr k x hb HL.out.1 HL.out.2.2
    rw [HP.out] at hcl
    clear hp
    go_wp2_with (refine hcl.mono ?_;rintro e w1 ⟨rfl,hb1⟩)
    clear hcl
    go_roundw
    case rel =>
     refine ⟨k + 1,by omega,by go_num,?_,bel⟩
     rw [List.take_add_one,HL.out.1,List.any_append,HL.out.2.1]
     simp [HP.out]
    case measure => simp [intOf];omega
   ·have HP:=Lib.hid hp
    have hcl:=HC.out wr k x hb HL.out.1 HL.out.2.2
    rw [HP.out] at hcl
    clear hp
    go_wp2_with (refine hcl.mono ?_;rintro e w1 ⟨rfl,hb1⟩)
    clear hcl
    go_ret
    refine ⟨ret_int ?_,bel⟩
    have e1:=firstAt_hit p l k x HL.out.1 HP.out HL.out.2.1
    have e2:l.any p = true:=by
     rw [List.any_eq_true]
     exact ⟨x,List.mem_of_getElem? HL.out.1,HP.out⟩
    rw [idxOf,if_pos e2,e1]
  ·have hke:k = n:=by omega
   subst hke
   have hl:l.take k = l:=by rw [List.take_of_length_le (by rw [HH.out.len];exact Nat.le_refl _)]
   rw [hl] at hv
   have HV:=Lib.hid hv
   clear hl hv
   go_wp2_with fail
   go_ret
   exact ⟨ret_int (by rw [idxOf,HV.out];rfl),hb⟩
theorem Sl.take {α:Type} {w:World} {S:Nat → Prop} {size:Nat} {R:List Value → α → Prop} {A:Option Addr} {n k:Nat} {l:List α} (h:Sl w S size R A n l) (hk:k ≤ n):Sl w S size R A k (l.take k):=by
 refine ⟨by rw [List.length_take,h.1];omega,fun h0 => ?_⟩
 obtain ⟨b,o,e,hs,hc⟩:=h.2 (by omega)
 refine ⟨b,o,e,hs,fun i v hv => ?_⟩
 have hi:i < k:=by
  have:=(List.getElem?_eq_some_iff.1 hv).1
  rw [List.length_take] at this
  omega
 rw [List.getElem?_take_of_lt hi] at hv
 exact hc i v hv
def sameName (name:ByteArray) (y:Fct):Bool:=y.name.toList == name.toList
def factStep (F:List Fld) (l:List Fct) (i:Nat):Int:=match l[i]? with
 | none => 0
 | some x => if fieldTold F x.name x.has = 0 then if valEq x.key ⟨0,0,⟨#[]⟩⟩ then (if (l.take i).any (sameName x.name) then 6 else 0) else 3 else fieldTold F x.name x.has
def factsCheck (F:List Fld) (l:List Fct):Int:=firstErr (factStep F l) l.length

set_option maxHeartbeats 400000 in
theorem facts_1 (name:ByteArray) (g:Nat) (x:Fct) (w:World) (h:w.cell? ⟨g,0,none⟩ = some (.string name)) :
  Calls Tryz.prog 139 #[.agg #[.string x.name,.int .i64 x.key.k,.int .i64 x.key.n,.string x.key.s,.int .i64 x.has.k,.int .i64 x.has.n,.string x.has.s],.pointer (some ⟨g,0,none⟩)] w
   fun e w' => e = .returned (.bool (sameName name x)) ∧ Below w.heap.size w w':=by
 have hg:=block_lt_of_cell h
 simp only at hg
 go_enter Tryz.func139,Tryz.ntmps139
 go_wp2
 go_ret
 exact ⟨rfl,bel⟩
theorem cf_facts1 (args:Array Value) (w:World):(callFunc 139 args).run Tryz.prog w = .ok (.enter 139 args) w :=
 cf _ _ Tryz.func139 (by kernel_rfl) (by kernel_rfl) args w
set_option maxHeartbeats 400000 in
theorem facts_ContainsFunc (name:ByteArray) (g:Nat) (A:Option Addr) (n c:Nat) (l:List Fct) (w:World) (hn:inL n) (hg:w.cell? ⟨g,0,none⟩ = some (.string name)) (h:Sl w (old w) 7 RFct A n l) :
  Calls Tryz.prog 138 #[.slice A n c,.func (.func 139) #[] #[.pointer (some ⟨g,0,none⟩)]] w fun e w' => e = .returned (.bool (l.any (sameName name))) ∧ Below w.heap.size w w':=by
 have hcl:=facts_IndexFunc (sameName name) 139 (.pointer (some ⟨g,0,none⟩)) A n c l w hn h cf_facts1 (fun wr k x hb _ _ => facts_1 name g x wr (cell_keep hg hb))
 have hlen:=h.len
 clear h
 cases ha:l.any (sameName name)
 ·have h1:idxOf (sameName name) l = -1:=by rw [idxOf,ha];rfl
  rw [h1] at hcl
  clear ha h1
  go_enter Tryz.func138,Tryz.ntmps138
  go_wp2_with (refine hcl.mono ?_;rintro e w1 ⟨rfl,hb1⟩)
  go_ret
  exact ⟨rfl,bel⟩
 ·have h1:idxOf (sameName name) l = (firstAt (sameName name) l:Int):=by rw [idxOf,ha];rfl
  rw [h1] at hcl
  have hlt:=firstAt_le (sameName name) l
  unfold inL at hn
  clear ha h1
  go_enter Tryz.func138,Tryz.ntmps138
  go_wp2_with (refine hcl.mono ?_;rintro e w1 ⟨rfl,hb1⟩)
  go_ret
  exact ⟨rfl,bel⟩
theorem factStep_cases {F:List Fld} {l:List Fct} {k:Nat} {x:Fct} (h:l[k]? = some x) :
  ((fieldTold F x.name x.has != 0) = true ∧ factStep F l k = fieldTold F x.name x.has ∧ factStep F l k ≠ 0) ∨
  ((fieldTold F x.name x.has != 0) = false ∧ valEq ⟨x.key.k,x.key.n,x.key.s⟩ ⟨0,0,⟨#[]⟩⟩ = false ∧ factStep F l k = 3) ∨
  ((fieldTold F x.name x.has != 0) = false ∧ valEq ⟨x.key.k,x.key.n,x.key.s⟩ ⟨0,0,⟨#[]⟩⟩ = true ∧ (l.take k).any (sameName x.name) = true ∧ factStep F l k = 6) ∨
  ((fieldTold F x.name x.has != 0) = false ∧ valEq ⟨x.key.k,x.key.n,x.key.s⟩ ⟨0,0,⟨#[]⟩⟩ = true ∧ (l.take k).any (sameName x.name) = false ∧ factStep F l k = 0):=by
 unfold factStep
 rw [h]
 by_cases h1:fieldTold F x.name x.has = 0
 ·cases h2:valEq ⟨x.key.k,x.key.n,x.key.s⟩ ⟨0,0,⟨#[]⟩⟩ <;> cases h3:(l.take k).any (sameName x.name) <;> simp_all
 ·left;simp [h1]
set_option maxRecDepth 100000 in
set_option maxHeartbeats 2000000 in
theorem sheet_Facts (A:Option Addr) (n c:Nat) (F:List Fld) (A2:Option Addr) (n2 c2:Nat) (A1:Option Addr) (n1 c1:Nat) (l:List Fct) (w:World) (hn:inL n) (hn1:inL n1) (hc1:n1 ≤ c1)
  (h:Sl w (old w) 9 (RFld w (old w)) A n F) (h1:Sl w (old w) 7 RFct A1 n1 l) :
  Calls Tryz.prog 79 #[.agg #[.slice A n c,.slice A2 n2 c2],.slice A1 n1 c1] w (RetI w (factsCheck F l)):=by
 unfold inL at hn1
 have HH:=Lib.hid (And.intro h h1)
 have hn':=hn
 unfold inL at hn'
 have HC:=Lib.hid hc1
 clear h h1 hc1
 go_enter Tryz.func79,Tryz.ntmps79
 go_wp2_with fail
 go_loopw [10] (fun i wr => ∃ k:Nat,k ≤ n1 ∧ i = .int .i64 k ∧ firstErr (factStep F l) k = 0 ∧ Below (w.alloc (.cells #[.slice A n c,.slice A2 n2 c2] 32)).heap.size (w.alloc (.cells #[.slice A n c,.slice A2 n2 c2] 32)) wr) (fun i _ => n1 - (intOf i).toNat)
 case atStart => exact ⟨0,by omega,rfl,rfl,Below.refl _ _⟩
 case round =>
  obtain ⟨k,hk,rfl,hv,hbr⟩:=hrel
  have hbw:Below w.heap.size w wr:=alloc_below (o:=.cells #[.slice A n c,.slice A2 n2 c2] 32) (by simpa using hbr)
  obtain ⟨hcr,hfr⟩:=bcell hbr;(try simp only [bqh,bqc,bqf] at hcr hfr);have hzr:=hbr.size;(try simp at hzr);(try have hyr:=nl1 hzr);(try have hxr:=nl2 hyr);(try refine szz wr w ?_);intros
  by_cases hlt:k < n1
  ·obtain ⟨b,o,x,rfl,hbl,hl,hwf,x0,x1,x2,x3,x4,x5,x6⟩:=Fct_at (HH.out.2.now hbw) hlt
   have hss:x.has.s.size ≤ maxLen:=inS_max hwf.2.2.2.2
   have hbl':b < wr.heap.size:=hbl
   have hst:=factStep_cases (F:=F) hl
   have HL:=Lib.hid (And.intro hv hl)
   clear hv hl hwf hbl
   have hneq:=fun w => run_neq_Val w x.key.k x.key.n 0 0 x.key.s ⟨#[]⟩
   rcases hst with ⟨t1,t2,t3⟩ | ⟨t1,t2,t3⟩ | ⟨t1,t2,t3,t4⟩ | ⟨t1,t2,t3,t4⟩
   ·have HT:=Lib.hid (And.intro t2 t3)
    clear t2 t3
    go_wp2_with (go_at_call 108;refine (field_Told A n c F _ _ _ _ _ hn (HH.out.1.nowN keeps_Fld bel) hss).mono ?_;rintro e w1 ⟨rfl,hb1⟩;obtain ⟨hc1,hf1⟩:=bcell hb1;(try simp only [bqh,bqc,bqf] at hc1 hf1);have hz1:=hb1.size;(try simp at hz1);(try have hy1:=nl1 hz1);(try have hx1:=nl2 hy1);(try refine szz w1 w ?_);intros;(try refine szz w1 wr ?_);intros)
    go_ret
    refine ⟨ret_int ?_,bel⟩
    have:=firstErr_hit HL.out.1 HT.out.2 l.length (by rw [HH.out.2.len];exact hlt)
    unfold factsCheck
    rw [this,HT.out.1]
   ·have HT:=Lib.hid t3
    clear t3
    go_wp2_with (go_at_call 108;refine (field_Told A n c F _ _ _ _ _ hn (HH.out.1.nowN keeps_Fld bel) hss).mono ?_;rintro e w1 ⟨rfl,hb1⟩;obtain ⟨hc1,hf1⟩:=bcell hb1;(try simp only [bqh,bqc,bqf] at hc1 hf1);have hz1:=hb1.size;(try simp at hz1);(try have hy1:=nl1 hz1);(try have hx1:=nl2 hy1);(try refine szz w1 w ?_);intros;(try refine szz w1 wr ?_);intros)
    go_ret
    refine ⟨ret_int ?_,bel⟩
    have:=firstErr_hit HL.out.1 (by rw [HT.out];decide) l.length (by rw [HH.out.2.len];exact hlt)
    unfold factsCheck
    rw [this,HT.out]
   ·have HT:=Lib.hid (And.intro t3 t4)
    have hcc:=HC.out
    clear t3 t4
    go_wp2_with (first | (go_at_call 108;refine (field_Told A n c F _ _ _ _ _ hn (HH.out.1.nowN keeps_Fld bel) hss).mono ?_;rintro e w1 ⟨rfl,hb1⟩;obtain ⟨hc1,hf1⟩:=bcell hb1;(try simp only [bqh,bqc,bqf] at hc1 hf1);have hz1:=hb1.size;(try simp at hz1);(try have hy1:=nl1 hz1);(try have hx1:=nl2 hy1);(try refine szz w1 w ?_);intros;(try refine szz w1 wr ?_);intros) | (go_at_call 138;refine (facts_ContainsFunc x.name _ _ k _ (l.take k) _ (by unfold inL;omega) ?hg ((HH.out.2.now bel).take hk)).mono ?_;(case hg => go_simp);rw [HT.out.1];rintro e w2 ⟨rfl,hb2⟩;obtain ⟨hc2,hf2⟩:=bcell hb2;(try simp only [bqh,bqc,bqf] at hc2 hf2);have hz2:=hb2.size;(try simp at hz2);(try have hy2:=nl1 hz2);(try have hx2:=nl2 hy2);(try refine szz w2 w ?_);intros;(try refine szz w2 wr ?_);intros;(try refine szz w2 w1 ?_);intros))
    go_ret
    refine ⟨ret_int ?_,bel⟩
    have:=firstErr_hit HL.out.1 (by rw [HT.out.2];decide) l.length (by rw [HH.out.2.len];exact hlt)
    unfold factsCheck
    rw [this,HT.out.2]
   ·have HT:=Lib.hid (And.intro t3 t4)
    have hcc:=HC.out
    clear t3 t4
    go_wp2_with (first | (go_at_call 108;refine (field_Told A n c F _ _ _ _ _ hn (HH.out.1.nowN keeps_Fld bel) hss).mono ?_;rintro e w1 ⟨rfl,hb1⟩;obtain ⟨hc1,hf1⟩:=bcell hb1;(try simp only [bqh,bqc,bqf] at hc1 hf1);have hz1:=hb1.size;(try simp at hz1);(try have hy1:=nl1 hz1);(try have hx1:=nl2 hy1);(try refine szz w1 w ?_);intros;(try refine szz w1 wr ?_);intros) | (go_at_call 138;refine (facts_ContainsFunc x.name _ _ k _ (l.take k) _ (by unfold inL;omega) ?hg ((HH.out.2.now bel).take hk)).mono ?_;(case hg => go_simp);rw [HT.out.1];rintro e w2 ⟨rfl,hb2⟩;obtain ⟨hc2,hf2⟩:=bcell hb2;(try simp only [bqh,bqc,bqf] at hc2 hf2);have hz2:=hb2.size;(try simp at hz2);(try have hy2:=nl1 hz2);(try have hx2:=nl2 hy2);(try refine szz w2 w ?_);intros;(try refine szz w2 wr ?_);intros;(try refine szz w2 w1 ?_);intros))
    go_roundw
    case rel => exact ⟨k + 1,by omega,by go_num,firstErr_next HL.out.1 HT.out.2,bel⟩
    case measure => simp [intOf];omega
  ·have hke:k = n1:=by omega
   subst hke
   have HV:=Lib.hid hv
   clear hv
   go_wp2_with fail
   go_ret
   refine ⟨ret_int ?_,hbw⟩
   unfold factsCheck
   rw [HH.out.2.len,HV.out]
theorem key_cases (v:Val):(valEq ⟨v.k,v.n,v.s⟩ ⟨0,0,⟨#[]⟩⟩ = true ∧ (v.k != 0) = false ∧ (v.n != 0) = false ∧ (!v.s.toList.isEmpty) = false) ∨ (valEq ⟨v.k,v.n,v.s⟩ ⟨0,0,⟨#[]⟩⟩ = false ∧ ((v.k != 0) = true ∨ ((v.k != 0) = false ∧ (v.n != 0) = true) ∨ ((v.k != 0) = false ∧ (v.n != 0) = false ∧ (!v.s.toList.isEmpty) = true))):=by
 unfold valEq
 have e:(⟨#[]⟩:ByteArray).toList = []:=by rw [ByteArray.toList_eq]
 by_cases h1:v.k = 0 <;> by_cases h2:v.n = 0 <;> by_cases h3:v.s.toList = [] <;> simp [h1,h2,h3,e]
set_option maxRecDepth 100000 in
set_option maxHeartbeats 4000000 in
theorem ref_FactsFault (A:Option Addr) (n c:Nat) (F:List Fld) (A2:Option Addr) (n2 c2:Nat) (A1:Option Addr) (n1 c1:Nat) (l:List Fct) (w:World) (hn:inL n) (hn1:inL n1)
  (h:Sl w (old w) 9 (RFld w (old w)) A n F) (h1:Sl w (old w) 7 RFct A1 n1 l) :
  Calls Tryz.prog 82 #[.agg #[.slice A n c,.slice A2 n2 c2],.slice A1 n1 c1] w (RetI w (factsCheck F l)):=by
 unfold inL at hn1
 have HH:=Lib.hid (And.intro h h1)
 have hn':=hn
 unfold inL at hn'
 clear h h1
 go_enter Tryz.func82,Tryz.ntmps82
 go_wp2_with fail
 go_loopw [11] (fun i wr => ∃ k:Nat,k ≤ n1 ∧ i = .int .i64 k ∧ firstErr (factStep F l) k = 0 ∧ Below (w.alloc (.cells #[.slice A n c,.slice A2 n2 c2] 32)).heap.size (w.alloc (.cells #[.slice A n c,.slice A2 n2 c2] 32)) wr) (fun i _ => n1 - (intOf i).toNat)
 case atStart => exact ⟨0,by omega,rfl,rfl,Below.refl _ _⟩
 case round =>
  obtain ⟨wo,rfl⟩:∃ wo:World,wo = wr:=⟨_,rfl⟩
  obtain ⟨k,hk,rfl,hv,hbr⟩:=hrel
  have hbw:Below w.heap.size w wo:=alloc_below (o:=.cells #[.slice A n c,.slice A2 n2 c2] 32) (by simpa using hbr)
  obtain ⟨hcr,hfr⟩:=bcell hbr;(try simp only [bqh,bqc,bqf] at hcr hfr);have hzr:=hbr.size;(try simp at hzr);(try have hyr:=nl1 hzr);(try have hxr:=nl2 hyr);(try refine szz wr w ?_);intros
  by_cases hlt:k < n1
  ·obtain ⟨b,o,x,rfl,hbl,hl,hwf,x0,x1,x2,x3,x4,x5,x6⟩:=Fct_at (HH.out.2.now hbw) hlt
   have hss:x.has.s.size ≤ maxLen:=inS_max hwf.2.2.2.2
   have hbl':b < wo.heap.size:=hbl
   have hst:=factStep_cases (F:=F) hl
   have hky:=key_cases x.key
   have HL:=Lib.hid (And.intro hv hl)
   clear hv hl hwf hbl
   by_cases t1:(fieldTold F x.name x.has != 0) = true
   ·have hst':factStep F l k = fieldTold F x.name x.has ∧ factStep F l k ≠ 0:=by
     rcases hst with ⟨_,h1,h2⟩ | ⟨h0,_⟩ | ⟨h0,_⟩ | ⟨h0,_⟩
     ·exact ⟨h1,h2⟩
     all_goals (rw [h0] at t1;cases t1)
    have HT:=Lib.hid hst'
    clear hst hst' hky
    go_wp2_with (go_at_call 111;refine (ref_FieldTold A n c F _ _ _ _ _ hn (HH.out.1.nowN keeps_Fld bel) hss).mono ?_;rintro e w1 ⟨rfl,hb1⟩;obtain ⟨hc1,hf1⟩:=bcell hb1;(try simp only [bqh,bqc,bqf] at hc1 hf1);have hz1:=hb1.size;(try simp at hz1);(try have hy1:=nl1 hz1);(try have hx1:=nl2 hy1);(try refine szz w1 w ?_);intros;(try refine szz w1 wo ?_);intros)
    go_ret
    refine ⟨ret_int ?_,bel⟩
    have:=firstErr_hit HL.out.1 HT.out.2 l.length (by rw [HH.out.2.len];exact hlt)
    unfold factsCheck
    rw [this,HT.out.1]
   ·replace t1:(fieldTold F x.name x.has != 0) = false:=by simpa using t1
    rcases hky with ⟨ke,k1,k2,k3⟩ | ⟨ke,hky⟩
    ·have hst':((l.take k).any (sameName x.name) = true ∧ factStep F l k = 6) ∨ ((l.take k).any (sameName x.name) = false ∧ factStep F l k = 0):=by
      rcases hst with ⟨h0,_⟩ | ⟨_,h0,_⟩ | ⟨_,_,h1,h2⟩ | ⟨_,_,h1,h2⟩
      ·rw [h0] at t1;cases t1
      ·rw [ke] at h0;cases h0
      ·exact .inl ⟨h1,h2⟩
      ·exact .inr ⟨h1,h2⟩
     have HT:=Lib.hid hst'
     clear hst hst' ke
     go_wp2_with (go_at_call 111;refine (ref_FieldTold A n c F _ _ _ _ _ hn (HH.out.1.nowN keeps_Fld bel) hss).mono ?_;rintro e w1 ⟨rfl,hb1⟩;obtain ⟨hc1,hf1⟩:=bcell hb1;(try simp only [bqh,bqc,bqf] at hc1 hf1);have hz1:=hb1.size;(try simp at hz1);(try have hy1:=nl1 hz1);(try have hx1:=nl2 hy1);(try refine szz w1 w ?_);intros;(try refine szz w1 wo ?_);intros)
     go_loopw [8] (fun i wq => ∃ j:Nat,j ≤ k ∧ i = .int .i64 j ∧ (l.take j).any (sameName x.name) = false ∧ Below w1.heap.size w1 wq) (fun i _ => k - (intOf i).toNat)
     case atStart => exact ⟨0,by omega,rfl,by simp,Below.refl _ _⟩
     case round =>
      obtain ⟨j,hj,rfl,hvj,hbq⟩:=hrel
      have HBO:=Lib.hid (show Below w.heap.size w wr from bel)
      obtain ⟨hcq,hfq⟩:=bcell hbq;(try simp only [bqh,bqc,bqf] at hcq hfq);have hzq:=hbq.size;(try simp at hzq);(try have hyq:=nl1 hzq);(try have hxq:=nl2 hyq);(try refine szz wq w ?_);intros;(try refine szz wq wo ?_);intros;(try refine szz wq w1 ?_);intros
      by_cases hjl:j < k
      ·obtain ⟨b',o',y,hbb,_,hly,_,y0,_,_,_,_,_,_⟩:=Fct_at (HH.out.2.now HBO.out) (show j < n1 by omega)
       cases hbb
       have HY:=Lib.hid (And.intro hly hvj)
       have hjn:j < n1:=by omega
       clear hly hvj
       cases hp:y.name.toList == x.name.toList
       ·have hp':sameName x.name y = false:=hp
        have HP:=Lib.hid hp'
        clear hp'
        go_wp2_with fail
        go_quiet (fail)
        go_wp2_with fail
        go_roundw
        case rel =>
         refine ⟨j + 1,by omega,by go_num,?_,bel⟩
         rw [List.take_add_one,HY.out.1,List.any_append,HY.out.2]
         simp [HP.out]
        case measure => simp [intOf];omega
       ·have hp':sameName x.name y = true:=hp
        have HP:=Lib.hid hp'
        clear hp'
        go_wp2_with fail
        go_quiet (fail)
        go_wp2_with fail
        go_ret
        refine ⟨ret_int ?_,bel⟩
        have ha:(l.take k).any (sameName x.name) = true:=by
         rw [List.any_eq_true]
         refine ⟨y,List.mem_of_getElem? (i:=j) ?_,HP.out⟩
         rw [List.getElem?_take_of_lt hjl]
         exact HY.out.1
        have h6:factStep F l k = 6:=by
         rcases HT.out with ⟨_,h6⟩ | ⟨h0,_⟩
         ·exact h6
         ·rw [ha] at h0;cases h0
        have:=firstErr_hit HL.out.1 (by rw [h6];decide) l.length (by rw [HH.out.2.len];exact hlt)
        unfold factsCheck
        rw [this,h6]
      ·have hke:j = k:=by omega
       subst hke
       have HV:=Lib.hid hvj
       clear hvj
       go_wp2_with fail
       go_roundw
       case rel =>
        have h6:factStep F l j = 0:=by
         rcases HT.out with ⟨h0,_⟩ | ⟨_,h6⟩
         ·rw [HV.out] at h0;cases h0
         ·exact h6
        exact ⟨j + 1,by omega,by go_num,firstErr_next HL.out.1 h6,bel⟩
       case measure => simp [intOf];omega
    ·have hst':factStep F l k = 3:=by
      rcases hst with ⟨h0,_⟩ | ⟨_,_,h0⟩ | ⟨_,h0,_⟩ | ⟨_,h0,_⟩
      ·rw [h0] at t1;cases t1
      ·exact h0
      all_goals (rw [ke] at h0;cases h0)
     have HT:=Lib.hid hst'
     clear hst hst' ke
     rcases hky with k1 | ⟨k1,k2⟩ | ⟨k1,k2,k3⟩
     all_goals
      go_wp2_with (go_at_call 111;refine (ref_FieldTold A n c F _ _ _ _ _ hn (HH.out.1.nowN keeps_Fld bel) hss).mono ?_;rintro e w1 ⟨rfl,hb1⟩;obtain ⟨hc1,hf1⟩:=bcell hb1;(try simp only [bqh,bqc,bqf] at hc1 hf1);have hz1:=hb1.size;(try simp at hz1);(try have hy1:=nl1 hz1);(try have hx1:=nl2 hy1);(try refine szz w1 w ?_);intros;(try refine szz w1 wo ?_);intros)
      go_ret
      refine ⟨ret_int ?_,bel⟩
      have:=firstErr_hit HL.out.1 (by rw [HT.out];decide) l.length (by rw [HH.out.2.len];exact hlt)
      unfold factsCheck
      rw [this,HT.out]
  ·have hke:k = n1:=by omega
   subst hke
   have HV:=Lib.hid hv
   clear hv
   go_wp2_with fail
   go_ret
   refine ⟨ret_int ?_,hbw⟩
   unfold factsCheck
   rw [HH.out.2.len,HV.out]
end Go.Proofs.YtbhkpepinogigaaGreat
/- whole.Asked and the reference AskedOf. -/
namespace Go.Proofs.YtbhkpepinogigaaGreat
open Go.RowKit

def RetV (w:World) (v:Val) (e:Ending) (w':World):Prop:=e = .returned (.agg #[.int .i64 v.k,.int .i64 v.n,.string v.s]) ∧ Below w.heap.size w w'
def askHit (nm:ByteArray) (key:Val) (x:Fct):Bool:=x.name.toList == nm.toList && valEq x.key key
def pendV:Val:=⟨4,0,⟨#[]⟩⟩
def askL (l:List Fct) (nm:ByteArray) (key:Val):Val:=((l.find? (askHit nm key)).map (·.has)).getD pendV
def askV (l:List Fct) (nm:ByteArray) (key:Val):Val:=bif valKnown key then askL l nm key else key
theorem find_at0 {α:Type} {p:α → Bool} {l:List α} {k:Nat} {x:α} (h0:(l.take k).any p = false) (h1:l[k]? = some x) (h2:p x = true):l.find? p = some x:=by
 have hk:k < l.length:=(List.getElem?_eq_some_iff.1 h1).1
 have hf:l[k] = x:=by rw [List.getElem?_eq_getElem hk] at h1;exact Option.some.inj h1
 have e1:l = l.take k ++ x :: l.drop (k + 1):=by rw [← hf,← List.drop_eq_getElem_cons hk,List.take_append_drop]
 rw [e1,List.find?_append,find_none _ _ h0]
 simp [h2]
theorem any_next {α:Type} {p:α → Bool} {l:List α} {k:Nat} {x:α} (h0:(l.take k).any p = false) (h1:l[k]? = some x) (h2:p x = false):(l.take (k + 1)).any p = false:=by
 rw [List.take_add_one,h1,List.any_append,h0];simp [h2]
theorem drop_at {α:Type} {l:List α} {k:Nat} {x:α} (h:l[k]? = some x):l.drop k = x :: l.drop (k + 1):=by
 have hk:k < l.length:=(List.getElem?_eq_some_iff.1 h).1
 have hf:l[k] = x:=by rw [List.getElem?_eq_getElem hk] at h;exact Option.some.inj h
 rw [← hf,← List.drop_eq_getElem_cons hk]

set_option maxRecDepth 100000 in
set_option maxHeartbeats 2000000 in
theorem whole_Asked (A:Option Addr) (n c:Nat) (l:List Fct) (nm:ByteArray) (key:Val) (w:World) (hn:inL n) (hk:key.s.size ≤ maxLen) (h:Sl w (old w) 7 RFct A n l) :
  Calls Tryz.prog 142 #[.slice A n c,.string nm,.agg #[.int .i64 key.k,.int .i64 key.n,.string key.s]] w (RetV w (askV l nm key)):=by
 have hkn:=fun w => value_Known key.k key.n key.s w hk
 rw [show (⟨key.k,key.n,key.s⟩:Val) = key from rfl] at hkn
 unfold askV
 unfold inL at hn
 cases hkk:valKnown key
 ·rw [hkk] at hkn
  simp only [cond_false]
  go_enter Tryz.func142,Tryz.ntmps142
  go_wp2_with (go_at_call 69;refine (hkn _).mono ?_;rintro e w1 ⟨rfl,hb1⟩;obtain ⟨hc1,hf1⟩:=bcell hb1;(try simp only [bqh,bqc,bqf] at hc1 hf1);have hz1:=hb1.size;(try simp at hz1);(try have hy1:=nl1 hz1);(try have hx1:=nl2 hy1))
  exact bodyPost_ret (v:=.agg #[.int .i64 key.k,.int .i64 key.n,.string key.s]) (by first | (simp [results,Tryz.results142,go_sem];done) | (simp [results,Tryz.results142,go_sem, *];done)) rfl ⟨rfl,bel⟩
 ·rw [hkk] at hkn
  simp only [cond_true]
  have HH:=Lib.hid (And.intro h h.len)
  obtain ⟨out,hout⟩:∃ v,askL l nm key = v:=⟨_,rfl⟩
  have HO:=Lib.hid hout
  rw [hout]
  clear h hout hkk
  go_enter Tryz.func142,Tryz.ntmps142
  go_wp2_with (go_at_call 69;refine (hkn _).mono ?_;rintro e w1 ⟨rfl,hb1⟩;obtain ⟨hc1,hf1⟩:=bcell hb1;(try simp only [bqh,bqc,bqf] at hc1 hf1);have hz1:=hb1.size;(try simp at hz1);(try have hy1:=nl1 hz1);(try have hx1:=nl2 hy1))
  have HB1:=Lib.hid (show Below w.heap.size w w1 from bel)
  go_loopw [15] (fun i wr => ∃ k:Nat,k ≤ n ∧ i = .int .i64 k ∧ Hid ((l.take k).any (askHit nm key) = false) ∧ Below w1.heap.size w1 wr) (fun i _ => n - (intOf i).toNat)
  case atStart => exact ⟨0,by omega,rfl,Lib.hid (by simp),Below.refl _ _⟩
  case round =>
   obtain ⟨k,hk',rfl,hz,hbr⟩:=hrel
   have HBO:=Lib.hid (show Below w.heap.size w wr from below_chain HB1.out hbr)
   obtain ⟨hcr,hfr⟩:=bcell hbr;(try simp only [bqh,bqc,bqf] at hcr hfr);have hzr:=hbr.size;(try simp at hzr);(try have hyr:=nl1 hzr);(try have hxr:=nl2 hyr);(try refine szz wr w ?_);intros;(try refine szz wr w1 ?_);intros
   by_cases hlt:k < n
   ·obtain ⟨b,o,x,rfl,hbl,hl,hwf,x0,x1,x2,x3,x4,x5,x6⟩:=Fct_at (HH.out.1.now HBO.out) hlt
    have hbl':b < wr.heap.size:=hbl
    have hq:=fun w => run_eql_Val w x.key.k x.key.n key.k key.n x.key.s key.s
    rw [show (⟨x.key.k,x.key.n,x.key.s⟩:Val) = x.key from rfl,show (⟨key.k,key.n,key.s⟩:Val) = key from rfl] at hq
    have HL:=Lib.hid hl
    have hsk:askHit nm key x = (x.name.toList == nm.toList && valEq x.key key):=rfl
    clear hl hwf hbl
    cases hp:(x.name.toList == nm.toList)
    ·have HP:=Lib.hid (show askHit nm key x = false by rw [hsk,hp];rfl)
     clear hsk hq
     go_wp2_with fail
     go_roundw
     case rel => exact ⟨k + 1,by omega,by go_num,Lib.hid (any_next hz.out HL.out HP.out),bel⟩
     case measure => simp [intOf];omega
    ·cases hp2:valEq x.key key
     ·have HP:=Lib.hid (show askHit nm key x = false by rw [hsk,hp2];simp)
      rw [hp2] at hq
      clear hsk hp2
      go_wp2_with fail
      go_roundw
      case rel => exact ⟨k + 1,by omega,by go_num,Lib.hid (any_next hz.out HL.out HP.out),bel⟩
      case measure => simp [intOf];omega
     ·have hP:askHit nm key x = true:=by rw [hsk,hp,hp2];rfl
      have hfd:x.has = out:=by rw [← HO.out];unfold askL;rw [find_at0 hz.out HL.out hP];rfl
      rw [hp2] at hq
      rw [hfd] at x4 x5 x6
      clear hsk hp2 hP hfd
      go_wp2_with fail
      exact bodyPost_ret (v:=.agg #[.int .i64 out.k,.int .i64 out.n,.string out.s]) (by first | (simp [results,Tryz.results142,go_sem];done) | (simp [results,Tryz.results142,go_sem, *];done)) rfl ⟨rfl,bel⟩
   ·have hke:k = n:=by omega
    subst hke
    have ho:out = pendV:=by
     rw [← HO.out];unfold askL
     rw [find_none _ _ (by have:=hz.out;rwa [List.take_of_length_le (by rw [HH.out.2];exact Nat.le_refl _)] at this)];rfl
    have HE:=Lib.hid ho
    clear HO ho
    go_wp2_with fail
    exact bodyPost_ret (v:=.agg #[.int .i64 4,.int .i64 0,.string ⟨#[]⟩]) (by first | (simp [results,Tryz.results142,go_sem];done) | (simp [results,Tryz.results142,go_sem, *];done)) rfl ⟨by rw [HE.out];rfl,bel⟩
def askD (l:List Fct) (nm:ByteArray) (key:Val) (k:Nat):Val:=askL (l.drop k) nm key
theorem askD_hit {l:List Fct} {nm:ByteArray} {key:Val} {k:Nat} {x:Fct} (h:l[k]? = some x) (hx:askHit nm key x = true):askD l nm key k = x.has:=by
 unfold askD askL;rw [drop_at h,List.find?_cons_of_pos hx];rfl
theorem askD_miss {l:List Fct} {nm:ByteArray} {key:Val} {k:Nat} {x:Fct} (h:l[k]? = some x) (hx:askHit nm key x = false):askD l nm key k = askD l nm key (k + 1):=by
 unfold askD askL;rw [drop_at h,List.find?_cons_of_neg (by simp [hx])]
set_option maxRecDepth 100000 in
set_option maxHeartbeats 2000000 in
theorem ref_AskedOf (A:Option Addr) (n c:Nat) (l:List Fct) (nm:ByteArray) (key:Val) (w:World) (hn:inL n) (hk:key.s.size ≤ maxLen) (h:Sl w (old w) 7 RFct A n l) :
  Calls Tryz.prog 145 #[.slice A n c,.string nm,.agg #[.int .i64 key.k,.int .i64 key.n,.string key.s]] w (RetV w (askV l nm key)):=by
 have hkn:=fun w => ref_Known key.k key.n key.s w hk
 rw [show (⟨key.k,key.n,key.s⟩:Val) = key from rfl] at hkn
 unfold askV
 unfold inL at hn
 cases hkk:valKnown key
 ·rw [hkk] at hkn
  simp only [cond_false]
  go_enter Tryz.func145,Tryz.ntmps145
  go_wp2_with (go_at_call 144;refine (hkn _).mono ?_;rintro e w1 ⟨rfl,hb1⟩;obtain ⟨hc1,hf1⟩:=bcell hb1;(try simp only [bqh,bqc,bqf] at hc1 hf1);have hz1:=hb1.size;(try simp at hz1);(try have hy1:=nl1 hz1);(try have hx1:=nl2 hy1))
  exact bodyPost_ret (v:=.agg #[.int .i64 key.k,.int .i64 key.n,.string key.s]) (by first | (simp [results,Tryz.results145,go_sem];done) | (simp [results,Tryz.results145,go_sem, *];done)) rfl ⟨rfl,bel⟩
 ·rw [hkk] at hkn
  simp only [cond_true]
  have HH:=Lib.hid (And.intro h h.len)
  obtain ⟨out,hout⟩:∃ v,askL l nm key = v:=⟨_,rfl⟩
  have HO:=Lib.hid hout
  rw [hout]
  clear h hout hkk
  go_enter Tryz.func145,Tryz.ntmps145
  go_wp2_with (go_at_call 144;refine (hkn _).mono ?_;rintro e w1 ⟨rfl,hb1⟩;obtain ⟨hc1,hf1⟩:=bcell hb1;(try simp only [bqh,bqc,bqf] at hc1 hf1);have hz1:=hb1.size;(try simp at hz1);(try have hy1:=nl1 hz1);(try have hx1:=nl2 hy1))
  have HB1:=Lib.hid (show Below w.heap.size w w1 from bel)
  go_loopw [8] (fun i wr => ∃ (k:Nat) (v:Val),k ≤ n ∧ i = .int .i64 ((k:Int) - 1) ∧ Hid (askD l nm key k = v) ∧ wr.cell? ⟨w1.heap.size,0,none⟩ = some (.int .i64 v.k) ∧ wr.cell? ⟨w1.heap.size,1,none⟩ = some (.int .i64 v.n) ∧ wr.cell? ⟨w1.heap.size,2,none⟩ = some (.string v.s) ∧ (wr.frozen? ⟨w1.heap.size,0,none⟩ = false ∧ wr.frozen? ⟨w1.heap.size,1,none⟩ = false ∧ wr.frozen? ⟨w1.heap.size,2,none⟩ = false) ∧ Below w1.heap.size w1 wr ∧ w1.heap.size < wr.heap.size) (fun i _ => (intOf i + 1).toNat)
  case atStart => exact ⟨n,pendV,Nat.le_refl _,rfl,Lib.hid (by unfold askD askL;rw [List.drop_of_length_le (by rw [HH.out.2];exact Nat.le_refl _)];rfl),by go_simp;rfl,by go_simp;rfl,by go_simp;rfl,by go_simp,bel,by simp⟩
  case round =>
   obtain ⟨k,v,hk',hi,hz,v0,v1,v2,⟨u0,u1,u2⟩,hbr,hsz⟩:=hrel
   have HBO:=Lib.hid (show Below w.heap.size w wr from below_chain HB1.out hbr)
   obtain ⟨hcr,hfr⟩:=bcell hbr;(try simp only [bqh,bqc,bqf] at hcr hfr);have hzr:=hbr.size;(try simp at hzr);(try have hyr:=nl1 hzr);(try have hxr:=nl2 hyr);(try refine szz wr w ?_);intros;(try refine szz wr w1 ?_);intros
   rcases k with _ | m
   ·have hi':=hi.trans (congrArg (Value.int .i64) (by omega:((0:Nat):Int) - 1 = -1))
    clear hi
    subst hi'
    have HE:=Lib.hid (show v = out by rw [← hz.out,← HO.out];rfl)
    go_wp2_with fail
    exact bodyPost_ret (v:=.agg #[.int .i64 v.k,.int .i64 v.n,.string v.s]) (by first | (simp [results,Tryz.results145,go_sem];done) | (simp [results,Tryz.results145,go_sem, *];done)) rfl ⟨by rw [HE.out],bel⟩
   ·have hi':=hi.trans (congrArg (Value.int .i64) (by omega:((m + 1:Nat):Int) - 1 = (m:Int)))
    clear hi
    subst hi'
    obtain ⟨b,o,x,rfl,hbl,hl,hwf,x0,x1,x2,x3,x4,x5,x6⟩:=Fct_at (HH.out.1.now HBO.out) (show m < n by omega)
    have hbl':b < wr.heap.size:=hbl
    have hq:=fun w => run_eql_Val w x.key.k x.key.n key.k key.n x.key.s key.s
    rw [show (⟨x.key.k,x.key.n,x.key.s⟩:Val) = x.key from rfl,show (⟨key.k,key.n,key.s⟩:Val) = key from rfl] at hq
    have HL:=Lib.hid hl
    have hsk:askHit nm key x = (x.name.toList == nm.toList && valEq x.key key):=rfl
    clear hl hwf hbl
    cases hp:(x.name.toList == nm.toList)
    ·have HP:=Lib.hid (show askD l nm key m = v by rw [askD_miss HL.out (by rw [hsk,hp];rfl)];exact hz.out)
     clear hsk hq
     go_wp2_with fail
     go_quiet (fail)
     go_wp2_with fail
     go_roundw
     case rel => exact ⟨m,v,by omega,by go_num,HP,by go_simp,by go_simp,by go_simp,by go_simp,bel,by go_simp⟩
     case measure => first | (simp [intOf];done) | (simp [intOf];omega)
    ·cases hp2:valEq x.key key
     ·have HP:=Lib.hid (show askD l nm key m = v by rw [askD_miss HL.out (by rw [hsk,hp2];simp)];exact hz.out)
      rw [hp2] at hq
      clear hsk hp2
      go_wp2_with fail
      go_quiet (fail)
      go_wp2_with fail
      go_roundw
      case rel => exact ⟨m,v,by omega,by go_num,HP,by go_simp,by go_simp,by go_simp,by go_simp,bel,by go_simp⟩
      case measure => first | (simp [intOf];done) | (simp [intOf];omega)
     ·have HP:=Lib.hid (show askD l nm key m = x.has by rw [askD_hit HL.out (by rw [hsk,hp,hp2];rfl)])
      rw [hp2] at hq
      clear hsk hp2
      go_wp2_with fail
      go_quiet (fail)
      go_wp2_with fail
      go_roundw
      case rel => exact ⟨m,x.has,by omega,by go_num,HP,by go_simp,by go_simp,by go_simp,by go_simp,bel,by go_simp⟩
      case measure => first | (simp [intOf];done) | (simp [intOf];omega)
end Go.Proofs.YtbhkpepinogigaaGreat
