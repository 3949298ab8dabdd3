/- Texts merged (mergeh.py): Ask. -/
import Derived.Test.YtldhlpjjcnlbcaaGreatPrt4
/- Texts merged: Facts Ask. -/
set_option maxRecDepth 100000
set_option maxHeartbeats 8000000
/- sheet.Facts and the reference FactsFault. -/
--TRYSZ (some lists of worlds name one that is not there)
namespace Go.Proofs.YtldhlpjjcnlbcaaGreat
open Go.RowKit
theorem facts_IndexFunc (p:Fct->Bool)(f:FuncId)(cp:Value)(A:Option Addr)(n c:Nat)(l:List Fct)(w:World)(hn:inL n)(h:Sl w (old w) 7 RFct A n l)(hcf:∀ args w,(callFunc f args).run Tryz.prog w=.ok (.enter f args) w)
  (hcall:∀ (wr:World)(k:Nat)(x:Fct),Below w.heap.size w wr->l[k]?=some x->x.wf->Calls Tryz.prog f #[.agg #[.string x.name,.int .i64 x.key.k,.int .i64 x.key.n,.string x.key.s,.int .i64 x.has.k,.int .i64 x.has.n,.string x.has.s],cp] wr fun e w'=>e=.returned (.bool (p x))/\Below wr.heap.size wr w') :
  Calls Tryz.prog 48 #[.slice A n c,.func (.func f) #[] #[cp]] w fun e w'=>e=.returned (.int .i64 (idxOf p l))/\Below w.heap.size w w':=by
 unfold inL at hn
 have HH:=zh h
 have HC:=zh hcall
 clear h hcall
 go_enter Tryz.func48,Tryz.ntmps48
 go_wp2_with fail
 go_loopw [8] (fun i wr=>∃ k:Nat,k<=n/\i=.int .i64 k/\(l.take k).any p=false/\Below w.heap.size w wr) (fun i _=>n-(intOf i).toNat)
 case atStart=>exact⟨0,by omega,rfl,by simp,Below.refl _ _⟩
 case round =>
  obtain⟨k,hk,rfl,hv,hb⟩:=hrel
  by_cases hlt:k<n
  ·obtain⟨b,o,x,rfl,_,hl,hrep,h0,h1,h2,h3,h4,h5,h6⟩:=z7i (HH.out.now hb) hlt
   have HL:=zh (ai hl (ai hv hrep))
   clear hl hv hrep
   cases hp:p x
   ·have HP:=zh hp
    have hcl:=HC.out wr k x hb HL.out.1 HL.out.2.2
    rw[HP.out] at hcl
    clear hp
    go_wp2_with (refine hcl.mono ?_;rintro e w1 ⟨rfl,hb1⟩)
    clear hcl
    go_roundw
    case rel =>
     refine⟨k+1,by omega,by go_num,?_,bel⟩
     rw[List.take_add_one,HL.out.1,List.any_append,HL.out.2.1]
     simp[HP.out]
    case measure=>simp[intOf];omega
   have HP:=zh hp
   have hcl:=HC.out wr k x hb HL.out.1 HL.out.2.2
   rw[HP.out] at hcl
   clear hp
   go_wp2_with (refine hcl.mono ?_;rintro e w1 ⟨rfl,hb1⟩)
   clear hcl
   go_ret
   refine⟨z0n ?_,bel⟩
   have e1:=z1x p l k x HL.out.1 HP.out HL.out.2.1
   have e2:l.any p=true:=by
    rw[List.any_eq_true]
    exact⟨x,List.mem_of_getElem? HL.out.1,HP.out⟩
   rw[idxOf,if_pos e2,e1]
  have hke:k=n:=by omega
  subst hke
  have hl:l.take k=l:=by rw[List.take_of_length_le (by rw[HH.out.len];exact nr _)]
  rw[hl] at hv
  have HV:=zh hv
  clear hl hv
  go_wp2_with fail
  go_ret
  exact⟨z0n (by rw[idxOf,HV.out];rfl),hb⟩
theorem Sl.take {α:Type}{w:World}{S:Nat -> Prop}{size:Nat}{R:List Value->α->Prop}{A:Option Addr}{n k:Nat}{l:List α}(h:Sl w S size R A n l)(hk:k<=n):Sl w S size R A k (l.take k):=by
 refine⟨by rw[List.length_take,h.1];omega,fun h0=>?_⟩
 obtain⟨b,o,e,hs,hc⟩:=h.2 (by omega)
 refine⟨b,o,e,hs,fun i v hv=>?_⟩
 have hi:i<k:=by
  have:=(List.getElem?_eq_some_iff.1 hv).1
  rw[List.length_take] at this
  omega
 rw[List.getElem?_take_of_lt hi] at hv
 exact hc i v hv
def z0y (name:ByteArray)(y:Fct):Bool:=y.name.toList==name.toList
def z3k (F:List Fld)(l:List Fct)(i:Nat):Int:=match l[i]? with
 | none=>0
 | some x=>if z19 F x.name x.has=0 then if valEq x.key ⟨0,0,⟨#[]⟩⟩ then (if (l.take i).any (z0y x.name) then 6 else 0) else 3 else z19 F x.name x.has
def factsCheck (F:List Fld)(l:List Fct):Int:=z0g (z3k F l) l.length
theorem facts_1 (name:ByteArray)(g:Nat)(x:Fct)(w:World)(h:w.cell? ⟨g,0,none⟩=some (.string name)) :
  Calls Tryz.prog 68 #[.agg #[.string x.name,.int .i64 x.key.k,.int .i64 x.key.n,.string x.key.s,.int .i64 x.has.k,.int .i64 x.has.n,.string x.has.s],.pointer (some ⟨g,0,none⟩)] w
   fun e w'=>e=.returned (.bool (z0y name x))/\Below w.heap.size w w':=by
 have hg:=block_lt_of_cell h
 simp only at hg
 go_enter Tryz.func68,Tryz.ntmps68
 go_wp2
 go_ret
 exact⟨rfl,bel⟩
theorem cf_facts1 (args:Array Value)(w:World):(callFunc 68 args).run Tryz.prog w=.ok (.enter 68 args) w :=
 cf _ _ Tryz.func68 (by kernel_rfl) (by kernel_rfl) args w
theorem z8p (name:ByteArray)(g:Nat)(A:Option Addr)(n c:Nat)(l:List Fct)(w:World)(hn:inL n)(hg:w.cell? ⟨g,0,none⟩=some (.string name))(h:Sl w (old w) 7 RFct A n l) :
  Calls Tryz.prog 67 #[.slice A n c,.func (.func 68) #[] #[.pointer (some ⟨g,0,none⟩)]] w fun e w'=>e=.returned (.bool (l.any (z0y name)))/\Below w.heap.size w w':=by
 have hcl:=facts_IndexFunc (z0y name) 68 (.pointer (some ⟨g,0,none⟩)) A n c l w hn h cf_facts1 (fun wr k x hb _ _=>facts_1 name g x wr (z00 hg hb))
 have hlen:=h.len
 clear h
 cases ha:l.any (z0y name)
 ·have h1:idxOf (z0y name) l=-1:=by rw[idxOf,ha];rfl
  rw[h1] at hcl
  clear ha h1
  go_enter Tryz.func67,Tryz.ntmps67
  go_wp2_with (refine hcl.mono ?_;rintro e w1 ⟨rfl,hb1⟩)
  go_ret
  exact⟨rfl,bel⟩
 have h1:idxOf (z0y name) l=(firstAt (z0y name) l:Int):=by rw[idxOf,ha];rfl
 rw[h1] at hcl
 have hlt:=z2b (z0y name) l
 unfold inL at hn
 clear ha h1
 go_enter Tryz.func67,Tryz.ntmps67
 go_wp2_with (refine hcl.mono ?_;rintro e w1 ⟨rfl,hb1⟩)
 go_ret
 exact⟨rfl,bel⟩
theorem zc9 {F:List Fld}{l:List Fct}{k:Nat}{x:Fct}(h:l[k]?=some x) :
  ((z19 F x.name x.has != 0)=true/\z3k F l k=z19 F x.name x.has/\z3k F l k≠0) \/
  ((z19 F x.name x.has != 0)=false/\valEq ⟨x.key.k,x.key.n,x.key.s⟩ ⟨0,0,⟨#[]⟩⟩=false/\z3k F l k=3) \/
  ((z19 F x.name x.has != 0)=false/\valEq ⟨x.key.k,x.key.n,x.key.s⟩ ⟨0,0,⟨#[]⟩⟩=true/\(l.take k).any (z0y x.name)=true/\z3k F l k=6) \/
  ((z19 F x.name x.has != 0)=false/\valEq ⟨x.key.k,x.key.n,x.key.s⟩ ⟨0,0,⟨#[]⟩⟩=true/\(l.take k).any (z0y x.name)=false/\z3k F l k=0):=by
 unfold z3k
 rw[h]
 by_cases h1:z19 F x.name x.has=0
 ·cases h2:valEq ⟨x.key.k,x.key.n,x.key.s⟩ ⟨0,0,⟨#[]⟩⟩<;>cases h3:(l.take k).any (z0y x.name)<;>simp_all
 left;simp[h1]
theorem zde (A:Option Addr)(n c:Nat)(F:List Fld)(A2:Option Addr)(n2 c2:Nat)(A1:Option Addr)(n1 c1:Nat)(l:List Fct)(w:World)(hn:inL n)(hn1:inL n1)(hc1:n1<=c1)
  (h:Sl w (old w) 9 (RFld w (old w)) A n F)(h1:Sl w (old w) 7 RFct A1 n1 l) :
  Calls Tryz.prog 34 #[.agg #[.slice A n c,.slice A2 n2 c2],.slice A1 n1 c1] w (RetI w (factsCheck F l)):=by
 unfold inL at hn1
 have HH:=zh (ai h h1)
 have hn':=hn
 unfold inL at hn'
 have HC:=zh hc1
 clear h h1 hc1
 go_enter Tryz.func34,Tryz.ntmps34
 go_wp2_with fail
 go_loopw [10] (fun i wr=>∃ k:Nat,k<=n1/\i=.int .i64 k/\z0g (z3k F l) k=0/\Below (w.alloc (.cells #[.slice A n c,.slice A2 n2 c2] 25)).heap.size (w.alloc (.cells #[.slice A n c,.slice A2 n2 c2] 25)) wr) (fun i _=>n1-(intOf i).toNat)
 case atStart=>exact⟨0,by omega,rfl,rfl,Below.refl _ _⟩
 case round =>
  obtain⟨k,hk,rfl,hv,hbr⟩:=hrel
  have hbw:Below w.heap.size w wr:=z14 (o:=.cells #[.slice A n c,.slice A2 n2 c2] 25) (by simpa using hbr)
  refine zb hbr ?_;rintro ⟨hcr,hfr⟩ hzr hyr hxr;(try refine szz wr w ?_);intros
  by_cases hlt:k<n1
  ·obtain⟨b,o,x,rfl,hbl,hl,hwf,x0,x1,x2,x3,x4,x5,x6⟩:=z7i (HH.out.2.now hbw) hlt
   have hss:x.has.s.size<=maxLen:=z0s hwf.2.2.2.2
   have hbl':b<wr.heap.size:=hbl
   have hst:=zc9 (F:=F) hl
   have HL:=zh (ai hv hl)
   clear hv hl hwf hbl
   have hneq:=fun w=>z24 w x.key.k x.key.n 0 0 x.key.s ⟨#[]⟩
   rcases hst with ⟨t1,t2,t3⟩ | ⟨t1,t2,t3⟩ | ⟨t1,t2,t3,t4⟩ | ⟨t1,t2,t3,t4⟩
   ·have HT:=zh (ai t2 t3)
    clear t2 t3
    go_wp2_with (go_at_call 47;refine (z98 A n c F _ _ _ _ _ hn (HH.out.1.nowN z02 bel) hss).mono ?_;rintro e w1 ⟨rfl,hb1⟩;refine zb hb1 ?_;rintro ⟨hc1,hf1⟩ hz1 hy1 hx1;(try refine szz w1 w ?_);intros;(try refine szz w1 wr ?_);intros)
    go_ret
    refine⟨z0n ?_,bel⟩
    have:=z0j HL.out.1 HT.out.2 l.length (by rw[HH.out.2.len];exact hlt)
    unfold factsCheck
    rw[this,HT.out.1]
   ·have HT:=zh t3
    clear t3
    go_wp2_with (go_at_call 47;refine (z98 A n c F _ _ _ _ _ hn (HH.out.1.nowN z02 bel) hss).mono ?_;rintro e w1 ⟨rfl,hb1⟩;refine zb hb1 ?_;rintro ⟨hc1,hf1⟩ hz1 hy1 hx1;(try refine szz w1 w ?_);intros;(try refine szz w1 wr ?_);intros)
    go_ret
    refine⟨z0n ?_,bel⟩
    have:=z0j HL.out.1 (by rw[HT.out];decide) l.length (by rw[HH.out.2.len];exact hlt)
    unfold factsCheck
    rw[this,HT.out]
   ·have HT:=zh (ai t3 t4)
    have hcc:=HC.out
    clear t3 t4
    go_wp2_with (first | (go_at_call 47;refine (z98 A n c F _ _ _ _ _ hn (HH.out.1.nowN z02 bel) hss).mono ?_;rintro e w1 ⟨rfl,hb1⟩;refine zb hb1 ?_;rintro ⟨hc1,hf1⟩ hz1 hy1 hx1;(try refine szz w1 w ?_);intros;(try refine szz w1 wr ?_);intros) | (go_at_call 67;refine (z8p x.name _ _ k _ (l.take k) _ (by unfold inL;omega) ?hg ((HH.out.2.now bel).take hk)).mono ?_;(case hg=>go_simp);rw[HT.out.1];rintro e w2 ⟨rfl,hb2⟩;refine zb hb2 ?_;rintro ⟨hc2,hf2⟩ hz2 hy2 hx2;(try refine szz w2 w ?_);intros;(try refine szz w2 wr ?_);intros;(try refine szz w2 w1 ?_);intros))
    go_ret
    refine⟨z0n ?_,bel⟩
    have:=z0j HL.out.1 (by rw[HT.out.2];decide) l.length (by rw[HH.out.2.len];exact hlt)
    unfold factsCheck
    rw[this,HT.out.2]
   have HT:=zh (ai t3 t4)
   have hcc:=HC.out
   clear t3 t4
   go_wp2_with (first | (go_at_call 47;refine (z98 A n c F _ _ _ _ _ hn (HH.out.1.nowN z02 bel) hss).mono ?_;rintro e w1 ⟨rfl,hb1⟩;refine zb hb1 ?_;rintro ⟨hc1,hf1⟩ hz1 hy1 hx1;(try refine szz w1 w ?_);intros;(try refine szz w1 wr ?_);intros) | (go_at_call 67;refine (z8p x.name _ _ k _ (l.take k) _ (by unfold inL;omega) ?hg ((HH.out.2.now bel).take hk)).mono ?_;(case hg=>go_simp);rw[HT.out.1];rintro e w2 ⟨rfl,hb2⟩;refine zb hb2 ?_;rintro ⟨hc2,hf2⟩ hz2 hy2 hx2;(try refine szz w2 w ?_);intros;(try refine szz w2 wr ?_);intros;(try refine szz w2 w1 ?_);intros))
   go_roundw
   case rel=>exact⟨k+1,by omega,by go_num,z0i HL.out.1 HT.out.2,bel⟩
   case measure=>simp[intOf];omega
  have hke:k=n1:=by omega
  subst hke
  have HV:=zh hv
  clear hv
  go_wp2_with fail
  go_ret
  refine⟨z0n ?_,hbw⟩
  unfold factsCheck
  rw[HH.out.2.len,HV.out]
theorem key_cases (v:Val):(valEq ⟨v.k,v.n,v.s⟩ ⟨0,0,⟨#[]⟩⟩=true/\(v.k != 0)=false/\(v.n != 0)=false/\(!v.s.toList.isEmpty)=false)\/(valEq ⟨v.k,v.n,v.s⟩ ⟨0,0,⟨#[]⟩⟩=false/\((v.k != 0)=true\/((v.k != 0)=false/\(v.n != 0)=true)\/((v.k != 0)=false/\(v.n != 0)=false/\(!v.s.toList.isEmpty)=true))):=by
 unfold valEq
 have e:(⟨#[]⟩:ByteArray).toList=[]:=by rw[ByteArray.toList_eq]
 by_cases h1:v.k=0<;>by_cases h2:v.n=0<;>by_cases h3:v.s.toList=[]<;>simp[h1,h2,h3,e]
theorem z8z (A:Option Addr)(n c:Nat)(F:List Fld)(A2:Option Addr)(n2 c2:Nat)(A1:Option Addr)(n1 c1:Nat)(l:List Fct)(w:World)(hn:inL n)(hn1:inL n1)
  (h:Sl w (old w) 9 (RFld w (old w)) A n F)(h1:Sl w (old w) 7 RFct A1 n1 l) :
  Calls Tryz.prog 42 #[.agg #[.slice A n c,.slice A2 n2 c2],.slice A1 n1 c1] w (RetI w (factsCheck F l)):=by
 unfold inL at hn1
 have HH:=zh (ai h h1)
 have hn':=hn
 unfold inL at hn'
 clear h h1
 go_enter Tryz.func42,Tryz.ntmps42
 go_wp2_with fail
 go_loopw [11] (fun i wr=>∃ k:Nat,k<=n1/\i=.int .i64 k/\z0g (z3k F l) k=0/\Below (w.alloc (.cells #[.slice A n c,.slice A2 n2 c2] 25)).heap.size (w.alloc (.cells #[.slice A n c,.slice A2 n2 c2] 25)) wr) (fun i _=>n1-(intOf i).toNat)
 case atStart=>exact⟨0,by omega,rfl,rfl,Below.refl _ _⟩
 case round =>
  obtain⟨wo,rfl⟩:∃ wo:World,wo=wr:=⟨_,rfl⟩
  obtain⟨k,hk,rfl,hv,hbr⟩:=hrel
  have hbw:Below w.heap.size w wo:=z14 (o:=.cells #[.slice A n c,.slice A2 n2 c2] 25) (by simpa using hbr)
  refine zb hbr ?_;rintro ⟨hcr,hfr⟩ hzr hyr hxr;(try refine szz wr w ?_);intros
  by_cases hlt:k<n1
  ·obtain⟨b,o,x,rfl,hbl,hl,hwf,x0,x1,x2,x3,x4,x5,x6⟩:=z7i (HH.out.2.now hbw) hlt
   have hss:x.has.s.size<=maxLen:=z0s hwf.2.2.2.2
   have hbl':b<wo.heap.size:=hbl
   have hst:=zc9 (F:=F) hl
   have hky:=key_cases x.key
   have HL:=zh (ai hv hl)
   clear hv hl hwf hbl
   by_cases t1:(z19 F x.name x.has != 0)=true
   ·have hst':z3k F l k=z19 F x.name x.has/\z3k F l k≠0:=by
     rcases hst with ⟨_,h1,h2⟩ | ⟨h0,_⟩ | ⟨h0,_⟩ | ⟨h0,_⟩
     ·exact⟨h1,h2⟩
     all_goals (rw[h0] at t1;cases t1)
    have HT:=zh hst'
    clear hst hst' hky
    go_wp2_with (go_at_call 50;refine (z7u A n c F _ _ _ _ _ hn (HH.out.1.nowN z02 bel) hss).mono ?_;rintro e w1 ⟨rfl,hb1⟩;refine zb hb1 ?_;rintro ⟨hc1,hf1⟩ hz1 hy1 hx1;(try refine szz w1 w ?_);intros;(try refine szz w1 wo ?_);intros)
    go_ret
    refine⟨z0n ?_,bel⟩
    have:=z0j HL.out.1 HT.out.2 l.length (by rw[HH.out.2.len];exact hlt)
    unfold factsCheck
    rw[this,HT.out.1]
   replace t1:(z19 F x.name x.has != 0)=false:=by simpa using t1
   rcases hky with ⟨ke,k1,k2,k3⟩ | ⟨ke,hky⟩
   ·have hst':((l.take k).any (z0y x.name)=true/\z3k F l k=6)\/((l.take k).any (z0y x.name)=false/\z3k F l k=0):=by
     rcases hst with ⟨h0,_⟩ | ⟨_,h0,_⟩ | ⟨_,_,h1,h2⟩ | ⟨_,_,h1,h2⟩
     ·rw[h0] at t1;cases t1
     ·rw[ke] at h0;cases h0
     ·exact .inl ⟨h1,h2⟩
     exact .inr ⟨h1,h2⟩
    have HT:=zh hst'
    clear hst hst' ke
    go_wp2_with (go_at_call 50;refine (z7u A n c F _ _ _ _ _ hn (HH.out.1.nowN z02 bel) hss).mono ?_;rintro e w1 ⟨rfl,hb1⟩;refine zb hb1 ?_;rintro ⟨hc1,hf1⟩ hz1 hy1 hx1;(try refine szz w1 w ?_);intros;(try refine szz w1 wo ?_);intros)
    go_loopw [8] (fun i wq=>∃ j:Nat,j<=k/\i=.int .i64 j/\(l.take j).any (z0y x.name)=false/\Below w1.heap.size w1 wq) (fun i _=>k-(intOf i).toNat)
    case atStart=>exact⟨0,by omega,rfl,by simp,Below.refl _ _⟩
    case round =>
     obtain⟨j,hj,rfl,hvj,hbq⟩:=hrel
     have HBO:=zh (show Below w.heap.size w wr from bel)
     refine zb hbq ?_;rintro ⟨hcq,hfq⟩ hzq hyq hxq;(try refine szz wq w ?_);intros;(try refine szz wq wo ?_);intros;(try refine szz wq w1 ?_);intros
     by_cases hjl:j<k
     ·obtain⟨b',o',y,hbb,_,hly,_,y0,_,_,_,_,_,_⟩:=z7i (HH.out.2.now HBO.out) (show j<n1 by omega)
      cases hbb
      have HY:=zh (ai hly hvj)
      have hjn:j<n1:=by omega
      clear hly hvj
      cases hp:y.name.toList==x.name.toList
      ·have hp':z0y x.name y=false:=hp
       have HP:=zh hp'
       clear hp'
       go_wp2_with fail
       go_quiet (fail)
       go_wp2_with fail
       go_roundw
       case rel =>
        refine⟨j+1,by omega,by go_num,?_,bel⟩
        rw[List.take_add_one,HY.out.1,List.any_append,HY.out.2]
        simp[HP.out]
       case measure=>simp[intOf];omega
      have hp':z0y x.name y=true:=hp
      have HP:=zh hp'
      clear hp'
      go_wp2_with fail
      go_quiet (fail)
      go_wp2_with fail
      go_ret
      refine⟨z0n ?_,bel⟩
      have ha:(l.take k).any (z0y x.name)=true:=by
       rw[List.any_eq_true]
       refine⟨y,List.mem_of_getElem? (i:=j) ?_,HP.out⟩
       rw[List.getElem?_take_of_lt hjl]
       exact HY.out.1
      have h6:z3k F l k=6:=by
       rcases HT.out with ⟨_,h6⟩ | ⟨h0,_⟩
       ·exact h6
       rw[ha] at h0;cases h0
      have:=z0j HL.out.1 (by rw[h6];decide) l.length (by rw[HH.out.2.len];exact hlt)
      unfold factsCheck
      rw[this,h6]
     have hke:j=k:=by omega
     subst hke
     have HV:=zh hvj
     clear hvj
     go_wp2_with fail
     go_roundw
     case rel =>
      have h6:z3k F l j=0:=by
       rcases HT.out with ⟨h0,_⟩ | ⟨_,h6⟩
       ·rw[HV.out] at h0;cases h0
       exact h6
      exact⟨j+1,by omega,by go_num,z0i HL.out.1 h6,bel⟩
     case measure=>simp[intOf];omega
   have hst':z3k F l k=3:=by
    rcases hst with ⟨h0,_⟩ | ⟨_,_,h0⟩ | ⟨_,h0,_⟩ | ⟨_,h0,_⟩
    ·rw[h0] at t1;cases t1
    ·exact h0
    all_goals (rw[ke] at h0;cases h0)
   have HT:=zh hst'
   clear hst hst' ke
   rcases hky with k1 | ⟨k1,k2⟩ | ⟨k1,k2,k3⟩
   all_goals
    go_wp2_with (go_at_call 50;refine (z7u A n c F _ _ _ _ _ hn (HH.out.1.nowN z02 bel) hss).mono ?_;rintro e w1 ⟨rfl,hb1⟩;refine zb hb1 ?_;rintro ⟨hc1,hf1⟩ hz1 hy1 hx1;(try refine szz w1 w ?_);intros;(try refine szz w1 wo ?_);intros)
    go_ret
    refine⟨z0n ?_,bel⟩
    have:=z0j HL.out.1 (by rw[HT.out];decide) l.length (by rw[HH.out.2.len];exact hlt)
    unfold factsCheck
    rw[this,HT.out]
  have hke:k=n1:=by omega
  subst hke
  have HV:=zh hv
  clear hv
  go_wp2_with fail
  go_ret
  refine⟨z0n ?_,hbw⟩
  unfold factsCheck
  rw[HH.out.2.len,HV.out]
end Go.Proofs.YtldhlpjjcnlbcaaGreat
/- whole.Asked and the reference AskedOf. -/
namespace Go.Proofs.YtldhlpjjcnlbcaaGreat
open Go.RowKit
def RetV (w:World)(v:Val)(e:Ending)(w':World):Prop:=e=.returned (.agg #[.int .i64 v.k,.int .i64 v.n,.string v.s])/\Below w.heap.size w w'
def zc3 (nm:ByteArray)(key:Val)(x:Fct):Bool:=x.name.toList==nm.toList&&valEq x.key key
def pendV:Val:=⟨4,0,⟨#[]⟩⟩
def askL (l:List Fct)(nm:ByteArray)(key:Val):Val:=((l.find? (zc3 nm key)).map (·.has)).getD pendV
def askV (l:List Fct)(nm:ByteArray)(key:Val):Val:=bif z0b key then askL l nm key else key
theorem zbn {α:Type}{p:α->Bool}{l:List α}{k:Nat}{x:α}(h0:(l.take k).any p=false)(h1:l[k]?=some x)(h2:p x=true):l.find? p=some x:=by
 have hk:k<l.length:=(List.getElem?_eq_some_iff.1 h1).1
 have hf:l[k]=x:=by rw[gq hk] at h1;exact Option.some.inj h1
 have e1:l=l.take k++x::l.drop (k+1):=by rw[<-hf,<-List.drop_eq_getElem_cons hk,List.take_append_drop]
 rw[e1,List.find?_append,z5e _ _ h0]
 simp[h2]
theorem z4e {α:Type}{p:α->Bool}{l:List α}{k:Nat}{x:α}(h0:(l.take k).any p=false)(h1:l[k]?=some x)(h2:p x=false):(l.take (k+1)).any p=false:=by
 rw[List.take_add_one,h1,List.any_append,h0];simp[h2]
theorem drop_at {α:Type}{l:List α}{k:Nat}{x:α}(h:l[k]?=some x):l.drop k=x::l.drop (k+1):=by
 have hk:k<l.length:=(List.getElem?_eq_some_iff.1 h).1
 have hf:l[k]=x:=by rw[gq hk] at h;exact Option.some.inj h
 rw[<-hf,<-List.drop_eq_getElem_cons hk]
theorem whole_Asked (A:Option Addr)(n c:Nat)(l:List Fct)(nm:ByteArray)(key:Val)(w:World)(hn:inL n)(hk:key.s.size<=maxLen)(h:Sl w (old w) 7 RFct A n l) :
  Calls Tryz.prog 123 #[.slice A n c,.string nm,.agg #[.int .i64 key.k,.int .i64 key.n,.string key.s]] w (RetV w (askV l nm key)):=by
 have hkn:=fun w=>z0q key.k key.n key.s w hk
 rw[show (⟨key.k,key.n,key.s⟩:Val)=key from rfl] at hkn
 unfold askV
 unfold inL at hn
 cases hkk:z0b key
 ·rw[hkk] at hkn
  simp only[cond_false]
  go_enter Tryz.func123,Tryz.ntmps123
  go_wp2_with (go_at_call 83;refine (hkn _).mono ?_;rintro e w1 ⟨rfl,hb1⟩;refine zb hb1 ?_;rintro ⟨hc1,hf1⟩ hz1 hy1 hx1)
  exact bpr Tryz.results123 (.agg #[.int .i64 key.k,.int .i64 key.n,.string key.s]) ⟨rfl,bel⟩
 rw[hkk] at hkn
 simp only[cond_true]
 have HH:=zh (ai h h.len)
 obtain⟨out,hout⟩:∃ v,askL l nm key=v:=⟨_,rfl⟩
 have HO:=zh hout
 rw[hout]
 clear h hout hkk
 go_enter Tryz.func123,Tryz.ntmps123
 go_wp2_with (go_at_call 83;refine (hkn _).mono ?_;rintro e w1 ⟨rfl,hb1⟩;refine zb hb1 ?_;rintro ⟨hc1,hf1⟩ hz1 hy1 hx1)
 have HB1:=zh (show Below w.heap.size w w1 from bel)
 go_loopw [15] (fun i wr=>∃ k:Nat,k<=n/\i=.int .i64 k/\Hid ((l.take k).any (zc3 nm key)=false)/\Below w1.heap.size w1 wr) (fun i _=>n-(intOf i).toNat)
 case atStart=>exact⟨0,by omega,rfl,zh (by simp),Below.refl _ _⟩
 case round =>
  obtain⟨k,hk',rfl,hz,hbr⟩:=hrel
  have HBO:=zh (show Below w.heap.size w wr from z08 HB1.out hbr)
  refine zb hbr ?_;rintro ⟨hcr,hfr⟩ hzr hyr hxr;(try refine szz wr w ?_);intros;(try refine szz wr w1 ?_);intros
  by_cases hlt:k<n
  ·obtain⟨b,o,x,rfl,hbl,hl,hwf,x0,x1,x2,x3,x4,x5,x6⟩:=z7i (HH.out.1.now HBO.out) hlt
   have hbl':b<wr.heap.size:=hbl
   have hq:=fun w=>z1j w x.key.k x.key.n key.k key.n x.key.s key.s
   rw[show (⟨x.key.k,x.key.n,x.key.s⟩:Val)=x.key from rfl,show (⟨key.k,key.n,key.s⟩:Val)=key from rfl] at hq
   have HL:=zh hl
   have hsk:zc3 nm key x=(x.name.toList==nm.toList&&valEq x.key key):=rfl
   clear hl hwf hbl
   cases hp:(x.name.toList==nm.toList)
   ·have HP:=zh (show zc3 nm key x=false by rw[hsk,hp];rfl)
    clear hsk hq
    go_wp2_with fail
    go_roundw
    case rel=>exact⟨k+1,by omega,by go_num,zh (z4e hz.out HL.out HP.out),bel⟩
    case measure=>simp[intOf];omega
   cases hp2:valEq x.key key
   ·have HP:=zh (show zc3 nm key x=false by rw[hsk,hp2];simp)
    rw[hp2] at hq
    clear hsk hp2
    go_wp2_with fail
    go_roundw
    case rel=>exact⟨k+1,by omega,by go_num,zh (z4e hz.out HL.out HP.out),bel⟩
    case measure=>simp[intOf];omega
   have hP:zc3 nm key x=true:=by rw[hsk,hp,hp2];rfl
   have hfd:x.has=out:=by rw[<-HO.out];unfold askL;rw[zbn hz.out HL.out hP];rfl
   rw[hp2] at hq
   rw[hfd] at x4 x5 x6
   clear hsk hp2 hP hfd
   go_wp2_with fail
   exact bpr Tryz.results123 (.agg #[.int .i64 out.k,.int .i64 out.n,.string out.s]) ⟨rfl,bel⟩
  have hke:k=n:=by omega
  subst hke
  have ho:out=pendV:=by
   rw[<-HO.out];unfold askL
   rw[z5e _ _ (by have:=hz.out;rwa [List.take_of_length_le (by rw[HH.out.2];exact nr _)] at this)];rfl
  have HE:=zh ho
  clear HO ho
  go_wp2_with fail
  exact bpr Tryz.results123 (.agg #[.int .i64 4,.int .i64 0,.string ⟨#[]⟩]) ⟨by rw[HE.out];rfl,bel⟩
def askD (l:List Fct)(nm:ByteArray)(key:Val)(k:Nat):Val:=askL (l.drop k) nm key
theorem askD_hit {l:List Fct}{nm:ByteArray}{key:Val}{k:Nat}{x:Fct}(h:l[k]?=some x)(hx:zc3 nm key x=true):askD l nm key k=x.has:=by
 unfold askD askL;rw[drop_at h,List.find?_cons_of_pos hx];rfl
theorem askD_miss {l:List Fct}{nm:ByteArray}{key:Val}{k:Nat}{x:Fct}(h:l[k]?=some x)(hx:zc3 nm key x=false):askD l nm key k=askD l nm key (k+1):=by
 unfold askD askL;rw[drop_at h,List.find?_cons_of_neg (by simp[hx])]
theorem ref_AskedOf (A:Option Addr)(n c:Nat)(l:List Fct)(nm:ByteArray)(key:Val)(w:World)(hn:inL n)(hk:key.s.size<=maxLen)(h:Sl w (old w) 7 RFct A n l) :
  Calls Tryz.prog 125 #[.slice A n c,.string nm,.agg #[.int .i64 key.k,.int .i64 key.n,.string key.s]] w (RetV w (askV l nm key)):=by
 have hkn:=fun w=>z1d key.k key.n key.s w hk
 rw[show (⟨key.k,key.n,key.s⟩:Val)=key from rfl] at hkn
 unfold askV
 unfold inL at hn
 cases hkk:z0b key
 ·rw[hkk] at hkn
  simp only[cond_false]
  go_enter Tryz.func125,Tryz.ntmps125
  go_wp2_with (go_at_call 74;refine (hkn _).mono ?_;rintro e w1 ⟨rfl,hb1⟩;refine zb hb1 ?_;rintro ⟨hc1,hf1⟩ hz1 hy1 hx1)
  exact bpr Tryz.results125 (.agg #[.int .i64 key.k,.int .i64 key.n,.string key.s]) ⟨rfl,bel⟩
 rw[hkk] at hkn
 simp only[cond_true]
 have HH:=zh (ai h h.len)
 obtain⟨out,hout⟩:∃ v,askL l nm key=v:=⟨_,rfl⟩
 have HO:=zh hout
 rw[hout]
 clear h hout hkk
 go_enter Tryz.func125,Tryz.ntmps125
 go_wp2_with (go_at_call 74;refine (hkn _).mono ?_;rintro e w1 ⟨rfl,hb1⟩;refine zb hb1 ?_;rintro ⟨hc1,hf1⟩ hz1 hy1 hx1)
 have HB1:=zh (show Below w.heap.size w w1 from bel)
 go_loopw [8] (fun i wr=>∃ (k:Nat) (v:Val),k<=n/\i=.int .i64 ((k:Int)-1)/\Hid (askD l nm key k=v)/\wr.cell? ⟨w1.heap.size,0,none⟩=some (.int .i64 v.k)/\wr.cell? ⟨w1.heap.size,1,none⟩=some (.int .i64 v.n)/\wr.cell? ⟨w1.heap.size,2,none⟩=some (.string v.s)/\(wr.frozen? ⟨w1.heap.size,0,none⟩=false/\wr.frozen? ⟨w1.heap.size,1,none⟩=false/\wr.frozen? ⟨w1.heap.size,2,none⟩=false)/\Below w1.heap.size w1 wr/\w1.heap.size<wr.heap.size) (fun i _=>(intOf i+1).toNat)
 case atStart=>exact⟨n,pendV,nr _,rfl,zh (by unfold askD askL;rw[List.drop_of_length_le (by rw[HH.out.2];exact nr _)];rfl),by go_simp;rfl,by go_simp;rfl,by go_simp;rfl,by go_simp,bel,by simp⟩
 case round =>
  obtain⟨k,v,hk',hi,hz,v0,v1,v2,⟨u0,u1,u2⟩,hbr,hsz⟩:=hrel
  have HBO:=zh (show Below w.heap.size w wr from z08 HB1.out hbr)
  refine zb hbr ?_;rintro ⟨hcr,hfr⟩ hzr hyr hxr;(try refine szz wr w ?_);intros;(try refine szz wr w1 ?_);intros
  rcases k with _ | m
  ·have hi':=hi.trans (congrArg (Value.int .i64) (by omega:((0:Nat):Int)-1=-1))
   clear hi
   subst hi'
   have HE:=zh (show v=out by rw[<-hz.out,<-HO.out];rfl)
   go_wp2_with fail
   exact bpr Tryz.results125 (.agg #[.int .i64 v.k,.int .i64 v.n,.string v.s]) ⟨by rw[HE.out],bel⟩
  have hi':=hi.trans (congrArg (Value.int .i64) (by omega:((m+1:Nat):Int)-1=(m:Int)))
  clear hi
  subst hi'
  obtain⟨b,o,x,rfl,hbl,hl,hwf,x0,x1,x2,x3,x4,x5,x6⟩:=z7i (HH.out.1.now HBO.out) (show m<n by omega)
  have hbl':b<wr.heap.size:=hbl
  have hq:=fun w=>z1j w x.key.k x.key.n key.k key.n x.key.s key.s
  rw[show (⟨x.key.k,x.key.n,x.key.s⟩:Val)=x.key from rfl,show (⟨key.k,key.n,key.s⟩:Val)=key from rfl] at hq
  have HL:=zh hl
  have hsk:zc3 nm key x=(x.name.toList==nm.toList&&valEq x.key key):=rfl
  clear hl hwf hbl
  cases hp:(x.name.toList==nm.toList)
  ·have HP:=zh (show askD l nm key m=v by rw[askD_miss HL.out (by rw[hsk,hp];rfl)];exact hz.out)
   clear hsk hq
   go_wp2_with fail
   go_quiet (fail)
   go_wp2_with fail
   go_roundw
   case rel=>exact⟨m,v,by omega,by go_num,HP,by go_simp,by go_simp,by go_simp,by go_simp,bel,by go_simp⟩
   case measure=>first | (simp[intOf];done) | (simp[intOf];omega)
  cases hp2:valEq x.key key
  ·have HP:=zh (show askD l nm key m=v by rw[askD_miss HL.out (by rw[hsk,hp2];simp)];exact hz.out)
   rw[hp2] at hq
   clear hsk hp2
   go_wp2_with fail
   go_quiet (fail)
   go_wp2_with fail
   go_roundw
   case rel=>exact⟨m,v,by omega,by go_num,HP,by go_simp,by go_simp,by go_simp,by go_simp,bel,by go_simp⟩
   case measure=>first | (simp[intOf];done) | (simp[intOf];omega)
  have HP:=zh (show askD l nm key m=x.has by rw[askD_hit HL.out (by rw[hsk,hp,hp2];rfl)])
  rw[hp2] at hq
  clear hsk hp2
  go_wp2_with fail
  go_quiet (fail)
  go_wp2_with fail
  go_roundw
  case rel=>exact⟨m,x.has,by omega,by go_num,HP,by go_simp,by go_simp,by go_simp,by go_simp,bel,by go_simp⟩
  case measure=>first | (simp[intOf];done) | (simp[intOf];omega)
end Go.Proofs.YtldhlpjjcnlbcaaGreat
