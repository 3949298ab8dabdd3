/- Texts merged (mergeh.py): Cop3. -/
import Derived.Test.YtldhlpjjcnlbcaaGreatPrt3
import Derived.Test.YtldhlpjjcnlbcaaGreatPag2
import Derived.Deep.DeepCutAuto
import Derived.Test.YtldhlpjjcnlbcaaGreatTypes
import Derived.Test.YtldhlpjjcnlbcaaGreatHeldX
/- Texts merged: Cop2 Copr Fcp Cop3. -/
set_option maxRecDepth 100000
set_option maxHeartbeats 8000000
/- page.Copy. -/
namespace Go.Proofs.YtldhlpjjcnlbcaaGreat
open Go.RowKit
theorem z7g {α:Type}(enc:α->List Value)(wf:α->Prop){size:Nat}(hsz:∀ a,(enc a).length=size){w:World}{base:Nat}{e:TypeId}{v:Value}{n:Nat}{l:List α}
  (h:w.ownsRow base e size v n (l.flatMap enc))(hl:l.length=n)(hw:∀ a∈l,wf a) :
  ∃ A c,v=.slice A n c/\n<=c/\Sl w (since base w) size (fun cs a=>cs=enc a/\wf a) A n l:=by
 obtain⟨A,c,rfl,hc,hs⟩:=own_sl enc hsz h hl
 refine⟨A,c,rfl,hc,hs.1,fun hn=>?_⟩
 obtain⟨b,o,e,hS,hcc⟩:=hs.2 hn
 refine⟨b,o,e,hS,fun i v hv=>?_⟩
 obtain⟨cs,rfl,hl',h'⟩:=hcc i v hv
 exact⟨_,⟨rfl,hw v (List.mem_of_getElem? hv)⟩,hl',h'⟩
theorem Tryz.infoPag:(Tryz.prog.info? 114).map (fun i=>(i.zero,i.size,i.bytes))=some (some (.agg #[.string ⟨#[]⟩,.slice none 0 0,.int .i64 0,.int .i64 0,.int .i64 0,.string ⟨#[]⟩,.string ⟨#[]⟩,.slice none 0 0]),8,120):=by kernel_rfl
theorem Sl.wfStr {w:World}{S:Nat -> Prop}{A:Option Addr}{n:Nat}{l:List ByteArray}(h:Sl w S 1 RStr A n l):∀ a∈l,inS a:=Sl.all_wf h fun _ _ h=>h.2
def RetPags (w:World)(l:List Pag)(e:Ending)(w':World):Prop :=
 ∃ A c,e=.returned (.slice A l.length c)/\l.length<=c/\Sl w' (since w.heap.size w') 8 (RPag w' (since w.heap.size w')) A l.length l/\Below w.heap.size w w'
theorem page_Copy (A:Option Addr)(n c:Nat)(l:List Pag)(w:World)(hn:inB 120 n)(h:Sl w (old w) 8 (RPag w (old w)) A n l) :
  Calls Tryz.prog 61 #[.slice A n c] w (RetPags w l):=by
 obtain⟨j0,hj0,iz0,iz1,iz2⟩:=info_parts Tryz.infoPag
 have HH:=zh h
 have HLN:=zh h.len
 unfold inB at hn
 clear h
 go_enter Tryz.func61,Tryz.ntmps61
 go_wp2_with fail
 go_loopw [3,8] (fun out i wr=>∃ (k:Nat) (A':Option Addr) (c':Nat),k<=n/\i=.int .i64 k/\out=.slice A' k c'/\Hid (Own wr w.heap.size 114 8 RPag (.slice A' k c') (l.take k))/\Below w.heap.size w wr) (fun _ i _=>n-(intOf i).toNat)
 case atStart=>exact⟨0,none,0,by omega,rfl,rfl,zh Own.nil,Below.refl _ _⟩
 case round =>
  obtain⟨k,A',c',hk,rfl,rfl,hown,hbr⟩:=hrel
  have hzr:=hbr.size
  by_cases hlt:k<n
  ·obtain⟨b,o,p,Y,D,X,C,hAe,hbl,hl,hrep,x0,x1,x2,x3,x4,x5,x6,x7⟩:=z8n (HH.out.nowN z0d hbr) hlt
   subst hAe
   have hbl':b<wr.heap.size:=hbl
   obtain⟨r1,r2,r3,r4,r5⟩:=hrep.open_
   have hlk:(l.take k).length=k:=by rw[List.length_take,HLN.out];omega
   have HO:=zh (ai hl (ai r1 (ai r2 (ai r4 (ai r5 hlk)))))
   clear hl hrep r1 r2 r3 r4 r5 hlk hbl
   go_wp2_with fail
   go_region_law (first
    | (go_simp;go_at_call 101;refine (clone_Str Y _ D p.fields _ HO.out.2.2.1 (HO.out.2.2.2.1.now bel)).mono ?_;rintro e w2 ⟨v2,rfl,ho2,hb2⟩;obtain⟨A2,c2,rfl,hc2',hs2⟩:=z7g strCs inS (fun _=>rfl) ho2 rfl HO.out.2.2.2.1.wfStr;have hw2:Below wr.heap.size wr w2:=(by (refine z01 ?_ hb2 (by simp[heap_drew]));exact bel);refine zb hb2 ?_;rintro ⟨hc2,hf2⟩ hz2 hy2 _)
    | (go_simp;go_at_call 100;refine (zbt _ p.skip X C _ (nr _) (HO.out.2.2.2.2.1.keep (z05 bel))).mono ?_;rintro e w3 ⟨A3,c3,rfl,hx3,hb3⟩;refine zb hb3 ?_;rintro ⟨hc3,hf3⟩ hz3 hy3 _))
   all_goals
    go_upto_region 6 with fail
    refine z0k ?_;intro W4 hW4
    have f0:W4.cell? ⟨wr.heap.size,0,none⟩=some (.string p.name):=by rw[hW4];exact (by first | (go_simp;done) | (go_simp;exact World.cell?_setCell_same' _ _ _ (by go_simp)))
    have f1:W4.cell? ⟨wr.heap.size,1,none⟩=some (.slice A2 p.fields.length c2):=by rw[hW4];exact (by first | (go_simp;done) | (go_simp;exact World.cell?_setCell_same' _ _ _ (by go_simp)))
    have f2:W4.cell? ⟨wr.heap.size,2,none⟩=some (.int .i64 p.skip.op):=by rw[hW4];exact (by first | (go_simp;done) | (go_simp;exact World.cell?_setCell_same' _ _ _ (by go_simp)))
    have f3:W4.cell? ⟨wr.heap.size,3,none⟩=some (.int .i64 p.skip.v.k):=by rw[hW4];exact (by first | (go_simp;done) | (go_simp;exact World.cell?_setCell_same' _ _ _ (by go_simp)))
    have f4:W4.cell? ⟨wr.heap.size,4,none⟩=some (.int .i64 p.skip.v.n):=by rw[hW4];exact (by first | (go_simp;done) | (go_simp;exact World.cell?_setCell_same' _ _ _ (by go_simp)))
    have f5:W4.cell? ⟨wr.heap.size,5,none⟩=some (.string p.skip.v.s):=by rw[hW4];exact (by first | (go_simp;done) | (go_simp;exact World.cell?_setCell_same' _ _ _ (by go_simp)))
    have f6:W4.cell? ⟨wr.heap.size,6,none⟩=some (.string p.skip.name):=by rw[hW4];exact (by first | (go_simp;done) | (go_simp;exact World.cell?_setCell_same' _ _ _ (by go_simp)))
    have f7:W4.cell? ⟨wr.heap.size,7,none⟩=some (.slice A3 p.skip.args.length c3):=by rw[hW4];exact (by first | (go_simp;done) | (go_simp;exact World.cell?_setCell_same' _ _ _ (by go_simp)))
    have hz2:=hw2.size
    have hz3:=hb3.size
    have hw3:Below wr.heap.size wr w3:=z01 hw2 hb3 hz2
    have hb4:Below wr.heap.size wr W4:=by rw[hW4];exact bel
    have hk4:∀ b,wr.heap.size<b->W4.heap[b]?=w3.heap[b]?:=by
     intro b hb
     rw[hW4]
     iterate 7 rw[heap_setCell_other _ _ _ _ (by simp;omega)]
    have hz4:w3.heap.size<=W4.heap.size:=by rw[hW4];simp
    clear hW4
    have hRP:RPag W4 (z7j w.heap.size (.slice A' k c') W4) [.string p.name,.slice A2 p.fields.length c2,.int .i64 p.skip.op,.int .i64 p.skip.v.k,.int .i64 p.skip.v.n,.string p.skip.v.s,.string p.skip.name,.slice A3 p.skip.args.length c3] p:=by
     have hbs:∀ b,wr.heap.size<b->b<w3.heap.size->z7j w.heap.size (.slice A' k c') W4 b:=fun b h1 h2=>⟨by omega,by omega,fun e=>by have:=(hown.out.lt b e.symm).2;omega⟩
     refine⟨HO.out.2.1,A2,_,c2,_,rfl,HO.out.2.2.1,hc2',?_,?_⟩
     ·refine (hs2.keep (w':=W4) (R':=RStr) (fun b hb=>?_) (fun _ _ h=>h)).mono (fun b hb=>?_)
      ·have h1:=hb.1
       simp[heap_drew] at h1
       rw[hk4 b (by omega)]
       exact hb3.block b hb.2
      have h1:=hb.1
      simp[heap_drew] at h1
      exact hbs b (by omega) (Nat.lt_of_lt_of_le hb.2 hz3)
     refine hx3.keep (fun b hb=>?_)
     have h1:=hb.1
     exact⟨hbs b (by omega) hb.2,hk4 b (by omega)⟩
    have HK:=zh HO.out.2.2.2.2.2
    go_wp2_with (at_builtin;refine z16 z0d rfl (.tmp 20) (.tmp 22) 23 rfl w.heap.size 114 j0 _ 8 120 Tryz.underlying23 hj0 iz0 iz1 iz2 rfl (by decide) (.slice A' k c') (l.take k) rfl (hown.out.keep z0d hb4) [.string p.name,.slice A2 p.fields.length c2,.int .i64 p.skip.op,.int .i64 p.skip.v.k,.int .i64 p.skip.v.n,.string p.skip.v.s,.string p.skip.name,.slice A3 p.skip.args.length c3] 114 rfl _ rfl rfl rfl (by simp[Value.oneCell']) (by rw[HK.out];omega) (by rw[HK.out];unfold maxLen;omega) (by omega) p hRP ?_;intro g' cap w5 hown5 hb5 hz5 _ _;rw[HK.out] at hown5 ⊢)
    go_roundw
    case rel =>
     refine⟨k+1,some ⟨g',0,none⟩,cap,by omega,by go_num,rfl,zh ?_,z01 (z01 hbr hb4 hzr) hb5 (by omega)⟩
     have etk:l.take k++[p]=l.take (k+1):=by rw[List.take_add_one,HO.out.1];rfl
     rw[<-etk]
     exact hown5
    case measure=>simp[intOf];omega
  have hkn:k=n:=by omega
  subst hkn
  have etk:l.take k=l:=List.take_of_length_le (by rw[HLN.out];exact nr _)
  rw[etk] at hown
  obtain⟨A9,c9,e9,hc9,hs9⟩:=hown.out.sl z0d
  rw[HLN.out] at e9
  cases e9
  have HS:=zh (ai hs9 hc9)
  clear hs9 hc9
  go_wp2_with fail
  go_ret
  refine⟨A',c',?_,HS.out.2,HS.out.1,hbr⟩
  rw[HLN.out]
  rfl
end Go.Proofs.YtldhlpjjcnlbcaaGreat
/- The reference ExprCopy. -/
namespace Go.Proofs.YtldhlpjjcnlbcaaGreat
open Go.RowKit
theorem z78 (N:Nat):∀ (x:Exp)(A:Option Addr)(c:Nat)(w:World),x.nodes<=N ->
  XRep w (old w) [.int .i64 x.op,.int .i64 x.v.k,.int .i64 x.v.n,.string x.v.s,.string x.name,.slice A x.args.length c] x ->
  Calls Tryz.prog 82 #[.agg #[.int .i64 x.op,.int .i64 x.v.k,.int .i64 x.v.n,.string x.v.s,.string x.name,.slice A x.args.length c]] w (z5w w x):=by
 induction N with
 | zero =>
  intro x A c w hN
  obtain⟨op,v,nm,args⟩:=x
  simp[Exp.nodes] at hN
 | succ N ih =>
  intro x A c w hN hx
  have HI:=zh ih
  clear ih
  obtain⟨A0,c0,e0,i1,i2,i3,i4,i5,hsl⟩:=hx.open_
  simp only[List.cons.injEq,Value.slice.injEq,and_true,true_and] at e0
  obtain⟨rfl,rfl⟩:=e0
  have hch:∀ (i:Nat) (a:Exp),x.args[i]?=some a->a.nodes<=N:=by
   obtain⟨op,v,nm,args⟩:=x
   intro i a h
   have:=z4g args i a h
   simp only[Exp.nodes] at hN
   omega
  have HH:=zh (ai hsl (ai hch (ai i1 (ai i2 (ai i3 i4)))))
  have hlen:x.args.length<=1759218604416:=by unfold inB at i4;omega
  clear hsl hch hx hN i1 i2 i3 i4 i5
  obtain⟨j0,hj0,iz0,iz1,iz2⟩:=info_parts Tryz.infoExp
  go_enter Tryz.func82,Tryz.ntmps82
  go_wp2_with fail
  go_loopw [15] (fun i wr=>∃ k:Nat,k<=x.args.length/\i=.int .i64 k/\wr.cell? ⟨w.heap.size,5,none⟩=some (.slice A x.args.length c)/\CopyRel w (w.heap.size+1+1) (w.heap.size+3) x k wr/\(∀ j,wr.frozen? ⟨w.heap.size+1,j,none⟩=false)/\(∀ j,j<6->∃ u,wr.cell? ⟨w.heap.size+1,j,none⟩=some u)) (fun i _=>x.args.length-(intOf i).toNat)
  case atStart =>
   refine⟨0,by omega,rfl,by go_simp,⟨none,0,by go_simp,by go_simp,by go_simp,by go_simp,by go_simp,by go_simp,by go_simp,?_,?_,?_⟩,fun j=>?_,fun j hj=>?_⟩
   ·exact Own.nil
   ·exact bel
   ·simp
   ·go_simp
   go_simp
  case round =>
   obtain⟨k,hk,rfl,hbx,⟨A',c',q0,q1,q2,q3,q4,q5,qf,hown,hbr,hbase⟩,rf,rc⟩:=hrel
   have ho:w.heap.size+1+1<wr.heap.size:=by omega
   by_cases hlt:k<x.args.length
   ·obtain⟨b,o,a,X,C,hAe,hbl,hl,hxa,x0,x1,x2,x3,x4,x5⟩:=z1g (HH.out.1.nowN z0e hbr) hlt
    subst hAe
    have hbl':b<wr.heap.size:=hbl
    have HO:=zh (ai hown (ai hxa (ai hl (ai rf rc))))
    have HN:=zh (HH.out.2.1 k a hl)
    clear hown hxa hbl hl rf rc
    have hlk:(x.args.take k).length=k:=by rw[List.length_take];omega
    have HK:=zh hlk
    clear hlk
    go_wp2_with fail
    go_region_law (first
     | (go_simp;go_at_call 82;refine (HI.out a X C _ HN.out (HO.out.2.1.keep (z05 bel))).mono ?_;rintro e w2 ⟨A2,c2,rfl,hx2,hb2⟩;have hw2:Below wr.heap.size wr w2:=(by (refine z01 ?_ hb2 (by simp[heap_drew]));exact bel);have p5:=(hw2.cell (p:=⟨w.heap.size+1+1,5,none⟩) ho).trans q5;have pf:=(hw2.frozen (p:=⟨w.heap.size+1+1,5,none⟩) ho).trans qf;have ho2:w.heap.size+1+1<w2.heap.size:=Nat.lt_of_lt_of_le ho hw2.size)
     | (refine z37 z0e rfl (.tmp 19) (.tmp 26) 76 rfl (w.heap.size+3) 78 j0 _ 6 80 Tryz.underlying76 hj0 iz0 iz1 iz2 rfl (by decide) (.slice A' k c') (x.args.take k) rfl (HO.out.1.keep z0e hw2) [.int .i64 a.op,.int .i64 a.v.k,.int .i64 a.v.n,.string a.v.s,.string a.name,.slice A2 a.args.length c2] 78 rfl _ rfl rfl rfl (by simp[Value.oneCell']) (by rw[HK.out];omega) (by rw[HK.out];unfold maxLen;omega) (by have:=hw2.size;omega) a (hx2.keep fun b hb=>⟨⟨by have:=hb.1;simp[heap_drew] at this;omega,hb.2,fun e=>by have h1:=(HO.out.1.lt b e.symm).2;have h2:=hb.1;simp[heap_drew] at h2;omega⟩,rfl⟩) ?_;intro g' cap w3 hown3 hb3 hz3 hk3 hat3;rw[HK.out] at hown3 ⊢;have hne:some (w.heap.size+1+1)≠(Value.slice A' k c').ownBlock:=(fun e=>by have:=(HO.out.1.lt _ e.symm).1;omega);have hke:=hk3 (w.heap.size+1+1) (by have:=hw2.size;omega) hne;have r5:=(World.cell?_of_block (w:=w2) (a:=⟨w.heap.size+1+1,5,none⟩) hke).trans p5;have rz:=(World.frozen?_of_block (w:=w2) (a:=⟨w.heap.size+1+1,5,none⟩) hke).trans pf))
    all_goals
     go_wp2_with fail
     go_roundw
     case rel =>
      have hsz3:=hw2.size
      have hc3:∀ j,w3.cell? ⟨w.heap.size+1+1,j,none⟩=wr.cell? ⟨w.heap.size+1+1,j,none⟩:=fun j=>(World.cell?_of_block (w:=w2) (a:=⟨w.heap.size+1+1,j,none⟩) hke).trans (hw2.cell (p:=⟨w.heap.size+1+1,j,none⟩) ho)
      have hke1:=hk3 (w.heap.size+1) (by omega) (fun e=>by have:=(HO.out.1.lt _ e.symm).1;omega)
      have ho1:w.heap.size+1<wr.heap.size:=by omega
      have hd3:∀ j,w3.cell? ⟨w.heap.size+1,j,none⟩=wr.cell? ⟨w.heap.size+1,j,none⟩:=fun j=>(World.cell?_of_block (w:=w2) (a:=⟨w.heap.size+1,j,none⟩) hke1).trans (hw2.cell (p:=⟨w.heap.size+1,j,none⟩) ho1)
      have he3:∀ j,w3.frozen? ⟨w.heap.size+1,j,none⟩=wr.frozen? ⟨w.heap.size+1,j,none⟩:=fun j=>(World.frozen?_of_block (w:=w2) (a:=⟨w.heap.size+1,j,none⟩) hke1).trans (hw2.frozen (p:=⟨w.heap.size+1,j,none⟩) ho1)
      have r0:=(hc3 0).trans q0
      have r1:=(hc3 1).trans q1
      have r2:=(hc3 2).trans q2
      have r3:=(hc3 3).trans q3
      have r4:=(hc3 4).trans q4
      have etk:x.args.take k++[a]=x.args.take (k+1):=by rw[List.take_add_one,HO.out.2.2.1];rfl
      rw[etk] at hown3
      refine⟨k+1,by omega,by go_num,?_,⟨some ⟨g',0,none⟩,cap,by go_simp,by go_simp,by go_simp,by go_simp,by go_simp,(by first | (go_simp;done) | (go_simp;exact World.cell?_setCell_same' _ _ _ (by go_simp))),by go_simp,hown3.set z0e _ _ (by simp),?_,by simp;omega⟩,fun j=>?_,fun j hj=>?_⟩
      ·have hkeb:=hk3 w.heap.size (by omega) (fun e=>by have:=(HO.out.1.lt _ e.symm).1;omega)
       have rb:=(World.cell?_of_block (w:=w2) (a:=⟨w.heap.size,5,none⟩) hkeb).trans ((hw2.cell (p:=⟨w.heap.size,5,none⟩) (show w.heap.size<wr.heap.size by omega)).trans hbx)
       go_simp
      ·exact z03 (z01 (z01 hbr hw2 (by omega)) hb3 (by omega)) (by simp;omega)
      ·rw[World.frozen?_setCell,he3];exact HO.out.2.2.2.1 j
      obtain⟨u,hu⟩:=HO.out.2.2.2.2 j hj
      refine⟨u,?_⟩
      first
       | (go_simp;done)
       | (go_simp;exact (hd3 j).trans hu)
     case measure=>simp[intOf];omega
   have hke:k=x.args.length:=by omega
   subst hke
   have etk:x.args.take x.args.length=x.args:=List.take_of_length_le (nr _)
   rw[etk] at hown
   obtain⟨A9,c9,e9,hc9,hs9⟩:=hown.sl z0e
   cases e9
   have HS:=zh (ai hs9 (ai rf rc))
   obtain⟨u0,z0⟩:=rc 0 (by decide)
   obtain⟨u1,z1⟩:=rc 1 (by decide)
   obtain⟨u2,z2⟩:=rc 2 (by decide)
   obtain⟨u3,z3⟩:=rc 3 (by decide)
   obtain⟨u4,z4⟩:=rc 4 (by decide)
   obtain⟨u5,z5⟩:=rc 5 (by decide)
   have f0:=rf 0
   have f1:=rf 1
   have f2:=rf 2
   have f3:=rf 3
   have f4:=rf 4
   have f5:=rf 5
   clear rf rc hown hs9
   go_wp2_with fail
   refine bpr Tryz.results82 (.agg #[.int .i64 x.op,.int .i64 x.v.k,.int .i64 x.v.n,.string x.v.s,.string x.name,.slice A' x.args.length c']) ?_
   refine⟨A',c',rfl,?_,?_⟩
   ·have key:∀ W9:World,(∀ b,since (w.heap.size+3) wr b->fresh w W9 b/\W9.heap[b]?=wr.heap[b]?)->XRep W9 (fresh w W9) [.int .i64 x.op,.int .i64 x.v.k,.int .i64 x.v.n,.string x.v.s,.string x.name,.slice A' x.args.length c'] x:=by
     intro W9 hW
     have e:Exp.mk x.op x.v x.name x.args=x:=by cases x;rfl
     have hrep:=XRep.shut HH.out.2.2.1 HH.out.2.2.2.1 HH.out.2.2.2.2.1 HH.out.2.2.2.2.2 hc9 (HS.out.1.keepN z0e hW)
     rw[e] at hrep
     exact hrep
    refine key _ fun b hb=>⟨⟨by have:=hb.1;omega,by simpa using hb.2⟩,?_⟩
    have hb1:=hb.1
    iterate 6 rw[heap_setCell_other _ _ _ _ (by simp;omega)]
   exact bel
end Go.Proofs.YtldhlpjjcnlbcaaGreat
/- Copies of fields: field.Copy and the reference FieldsCopy. -/
namespace Go.Proofs.YtldhlpjjcnlbcaaGreat
open Go.RowKit
theorem Tryz.infoFld:(Tryz.prog.info? 80).map (fun i=>(i.zero,i.size,i.bytes))=some (some (.agg #[.string ⟨#[]⟩,.int .i64 0,.int .i64 0,.int .i64 0,.int .i64 0,.int .i64 0,.string ⟨#[]⟩,.string ⟨#[]⟩,.slice none 0 0]),9,112):=by kernel_rfl
def RetFlds (w:World)(l:List Fld)(e:Ending)(w':World):Prop :=
 ∃ A c,e=.returned (.slice A l.length c)/\l.length<=c/\Sl w' (since w.heap.size w') 9 (RFld w' (since w.heap.size w')) A l.length l/\Below w.heap.size w w'
theorem RFld.open_ {w:World}{S:Nat -> Prop}{f:Fld}{X:Option Addr}{C:Nat}
  (h:RFld w S [.string f.name,.int .i64 f.kind,.int .i64 f.type,.int .i64 f.source.op,.int .i64 f.source.v.k,.int .i64 f.source.v.n,.string f.source.v.s,.string f.source.name,.slice X f.source.args.length C] f) :
  inS f.name/\inI f.kind/\inI f.type/\XRep w S [.int .i64 f.source.op,.int .i64 f.source.v.k,.int .i64 f.source.v.n,.string f.source.v.s,.string f.source.name,.slice X f.source.args.length C] f.source:=by
 obtain⟨h1,h2,h3,xs,e,hx⟩:=h
 simp only[List.cons.injEq,true_and] at e
 rw[<-e] at hx
 exact⟨h1,h2,h3,hx⟩
theorem zci (A:Option Addr)(n c:Nat)(l:List Fld)(w:World)(hn:inB 112 n)(h:Sl w (old w) 9 (RFld w (old w)) A n l) :
  Calls Tryz.prog 81 #[.slice A n c] w (RetFlds w l):=by
 obtain⟨j0,hj0,iz0,iz1,iz2⟩:=info_parts Tryz.infoFld
 have HH:=zh h
 have HLN:=zh h.len
 unfold inB at hn
 clear h
 go_enter Tryz.func81,Tryz.ntmps81
 go_wp2_with fail
 go_loopw [3,8] (fun out i wr=>∃ (k:Nat) (A':Option Addr) (c':Nat),k<=n/\i=.int .i64 k/\out=.slice A' k c'/\Hid (Own wr w.heap.size 80 9 RFld (.slice A' k c') (l.take k))/\Below w.heap.size w wr) (fun _ i _=>n-(intOf i).toNat)
 case atStart=>exact⟨0,none,0,by omega,rfl,rfl,zh Own.nil,Below.refl _ _⟩
 case round =>
  obtain⟨k,A',c',hk,rfl,rfl,hown,hbr⟩:=hrel
  have hzr:=hbr.size
  by_cases hlt:k<n
  ·obtain⟨b,o,p,X,C,hAe,hbl,hl,hrep,x0,x1,x2,x3,x4,x5,x6,x7,x8⟩:=z25 (HH.out.nowN z02 hbr) hlt
   subst hAe
   have hbl':b<wr.heap.size:=hbl
   obtain⟨r1,r2,r3,r4⟩:=hrep.open_
   have hlk:(l.take k).length=k:=by rw[List.length_take,HLN.out];omega
   have HO:=zh (ai hl (ai r1 (ai r2 (ai r3 (ai r4 hlk)))))
   clear hl hrep r1 r2 r3 r4 hlk hbl
   go_wp2_with fail
   go_region_held3 (fun w'=>w'.cell? ⟨wr.heap.size,0,none⟩=some (.string p.name)/\w'.cell? ⟨wr.heap.size,1,none⟩=some (.int .i64 p.kind)/\w'.cell? ⟨wr.heap.size,2,none⟩=some (.int .i64 p.type)/\w'.cell? ⟨wr.heap.size,3,none⟩=some (.int .i64 p.source.op)/\w'.cell? ⟨wr.heap.size,4,none⟩=some (.int .i64 p.source.v.k)/\w'.cell? ⟨wr.heap.size,5,none⟩=some (.int .i64 p.source.v.n)/\w'.cell? ⟨wr.heap.size,6,none⟩=some (.string p.source.v.s)/\w'.cell? ⟨wr.heap.size,7,none⟩=some (.string p.source.name)/\w'.cell? ⟨wr.heap.size,8,none⟩=some (.slice X p.source.args.length C))
    (first | go_keep | exact rows9c (by assumption) (by assumption) | exact rows9a (by assumption) hke hlt3)
    (first
     | (go_at_call 82;refine (z78 _ p.source X C _ (nr _) (HO.out.2.2.2.2.1.keep (z05 bel))).mono ?_;rintro e w3 ⟨A3,c3,rfl,hx3,hb3⟩;have hw3:Below wr.heap.size wr w3:=(by (refine z01 ?_ hb3 (by simp[heap_drew]));exact bel);have hlt3:wr.heap.size<w3.heap.size:=(by have:=hb3.size;simp[heap_drew] at this;omega))
     | (refine z37 z02 rfl (.tmp 12) (.tmp 23) 22 rfl w.heap.size 80 j0 _ 9 112 Tryz.underlying22 hj0 iz0 iz1 iz2 rfl (by decide) (.slice A' k c') (l.take k) rfl (hown.out.keep z02 hw3) [.string p.name,.int .i64 p.kind,.int .i64 p.type,.int .i64 p.source.op,.int .i64 p.source.v.k,.int .i64 p.source.v.n,.string p.source.v.s,.string p.source.name,.slice A3 p.source.args.length c3] 80 rfl _ rfl rfl rfl (by simp[Value.oneCell']) (by rw[HO.out.2.2.2.2.2];omega) (by rw[HO.out.2.2.2.2.2];unfold maxLen;omega) (by omega) p ⟨HO.out.2.1,HO.out.2.2.1,HO.out.2.2.2.1,_,rfl,hx3.keep (fun b hb=>⟨⟨by have:=hb.1;simp[heap_drew] at this;omega,hb.2,fun e=>by have h1:=(hown.out.lt b e.symm).2;have h2:=hb.1;simp[heap_drew] at h2;omega⟩,rfl⟩)⟩ ?_;intro g' cap w5 hown5 hb5 hz5 hk5 _;rw[HO.out.2.2.2.2.2] at hown5 ⊢;have hke:=hk5 wr.heap.size hlt3 (fun e=>by have:=(hown.out.lt _ e.symm).2;omega)))
   all_goals
    go_wp2_with fail
    go_roundw
    case rel =>
     refine⟨k+1,some ⟨g',0,none⟩,cap,by omega,by go_num,rfl,zh ?_,z01 (z01 hbr hw3 hzr) hb5 (by omega)⟩
     have etk:l.take k++[p]=l.take (k+1):=by rw[List.take_add_one,HO.out.1];rfl
     rw[<-etk]
     exact hown5
    case measure=>simp[intOf];omega
  have hkn:k=n:=by omega
  subst hkn
  have etk:l.take k=l:=List.take_of_length_le (by rw[HLN.out];exact nr _)
  rw[etk] at hown
  obtain⟨A9,c9,e9,hc9,hs9⟩:=hown.out.sl z02
  rw[HLN.out] at e9
  cases e9
  have HS:=zh (ai hs9 hc9)
  clear hs9 hc9
  go_wp2_with fail
  go_ret
  refine⟨A',c',?_,HS.out.2,HS.out.1,hbr⟩
  rw[HLN.out]
  rfl
theorem field_Copy (A:Option Addr)(n c:Nat)(l:List Fld)(w:World)(hn:inB 112 n)(h:Sl w (old w) 9 (RFld w (old w)) A n l) :
  Calls Tryz.prog 60 #[.slice A n c] w (RetFlds w l):=by
 obtain⟨j0,hj0,iz0,iz1,iz2⟩:=info_parts Tryz.infoFld
 have HH:=zh h
 have HLN:=zh h.len
 unfold inB at hn
 clear h
 go_enter Tryz.func60,Tryz.ntmps60
 go_wp2_with fail
 go_loopw [3,8] (fun out i wr=>∃ (k:Nat) (A':Option Addr) (c':Nat),k<=n/\i=.int .i64 k/\out=.slice A' k c'/\Hid (Own wr w.heap.size 80 9 RFld (.slice A' k c') (l.take k))/\Below w.heap.size w wr) (fun _ i _=>n-(intOf i).toNat)
 case atStart=>exact⟨0,none,0,by omega,rfl,rfl,zh Own.nil,Below.refl _ _⟩
 case round =>
  obtain⟨k,A',c',hk,rfl,rfl,hown,hbr⟩:=hrel
  have hzr:=hbr.size
  by_cases hlt:k<n
  ·obtain⟨b,o,p,X,C,hAe,hbl,hl,hrep,x0,x1,x2,x3,x4,x5,x6,x7,x8⟩:=z25 (HH.out.nowN z02 hbr) hlt
   subst hAe
   have hbl':b<wr.heap.size:=hbl
   obtain⟨r1,r2,r3,r4⟩:=hrep.open_
   have hlk:(l.take k).length=k:=by rw[List.length_take,HLN.out];omega
   have HO:=zh (ai hl (ai r1 (ai r2 (ai r3 (ai r4 hlk)))))
   clear hl hrep r1 r2 r3 r4 hlk hbl
   go_wp2_with fail
   refine (zbt _ p.source X C _ (nr _) (HO.out.2.2.2.2.1.keep (z05 bel))).mono ?_;rintro e w3 ⟨A3,c3,rfl,hx3,hb3⟩;refine zb hb3 ?_;rintro ⟨hc3,hf3⟩ hz3 hy3 _
   go_upto_region 6 with fail
   refine z0k ?_;intro W4 hW4
   have f0:W4.cell? ⟨wr.heap.size,0,none⟩=some (.string p.name):=by rw[hW4];exact (by first | (go_simp;done) | (go_simp;exact World.cell?_setCell_same' _ _ _ (by go_simp)))
   have f1:W4.cell? ⟨wr.heap.size,1,none⟩=some (.int .i64 p.kind):=by rw[hW4];exact (by first | (go_simp;done) | (go_simp;exact World.cell?_setCell_same' _ _ _ (by go_simp)))
   have f2:W4.cell? ⟨wr.heap.size,2,none⟩=some (.int .i64 p.type):=by rw[hW4];exact (by first | (go_simp;done) | (go_simp;exact World.cell?_setCell_same' _ _ _ (by go_simp)))
   have f3:W4.cell? ⟨wr.heap.size,3,none⟩=some (.int .i64 p.source.op):=by rw[hW4];exact (by first | (go_simp;done) | (go_simp;exact World.cell?_setCell_same' _ _ _ (by go_simp)))
   have f4:W4.cell? ⟨wr.heap.size,4,none⟩=some (.int .i64 p.source.v.k):=by rw[hW4];exact (by first | (go_simp;done) | (go_simp;exact World.cell?_setCell_same' _ _ _ (by go_simp)))
   have f5:W4.cell? ⟨wr.heap.size,5,none⟩=some (.int .i64 p.source.v.n):=by rw[hW4];exact (by first | (go_simp;done) | (go_simp;exact World.cell?_setCell_same' _ _ _ (by go_simp)))
   have f6:W4.cell? ⟨wr.heap.size,6,none⟩=some (.string p.source.v.s):=by rw[hW4];exact (by first | (go_simp;done) | (go_simp;exact World.cell?_setCell_same' _ _ _ (by go_simp)))
   have f7:W4.cell? ⟨wr.heap.size,7,none⟩=some (.string p.source.name):=by rw[hW4];exact (by first | (go_simp;done) | (go_simp;exact World.cell?_setCell_same' _ _ _ (by go_simp)))
   have f8:W4.cell? ⟨wr.heap.size,8,none⟩=some (.slice A3 p.source.args.length c3):=by rw[hW4];exact (by first | (go_simp;done) | (go_simp;exact World.cell?_setCell_same' _ _ _ (by go_simp)))
   have hw3:Below wr.heap.size wr w3:=by (refine z01 ?_ hb3 (by simp));exact bel
   have hz3:=hw3.size
   have hb4:Below wr.heap.size wr W4:=by rw[hW4];exact bel
   have hk4:∀ b,wr.heap.size<b->W4.heap[b]?=w3.heap[b]?:=by
    intro b hb
    rw[hW4]
    iterate 6 rw[heap_setCell_other _ _ _ _ (by simp;omega)]
   have hz4:w3.heap.size<=W4.heap.size:=by rw[hW4];simp
   clear hW4
   have hRF:RFld W4 (z7j w.heap.size (.slice A' k c') W4) [.string p.name,.int .i64 p.kind,.int .i64 p.type,.int .i64 p.source.op,.int .i64 p.source.v.k,.int .i64 p.source.v.n,.string p.source.v.s,.string p.source.name,.slice A3 p.source.args.length c3] p:=by
    refine⟨HO.out.2.1,HO.out.2.2.1,HO.out.2.2.2.1,_,rfl,hx3.keep (fun b hb=>?_)⟩
    have h1:=hb.1
    simp at h1
    exact⟨⟨by omega,Nat.lt_of_lt_of_le hb.2 hz4,fun e=>by have:=(hown.out.lt b e.symm).2;omega⟩,hk4 b (by omega)⟩
   have HK:=zh HO.out.2.2.2.2.2
   go_wp2_with (at_builtin;refine z16 z02 rfl (.tmp 16) (.tmp 18) 22 rfl w.heap.size 80 j0 _ 9 112 Tryz.underlying22 hj0 iz0 iz1 iz2 rfl (by decide) (.slice A' k c') (l.take k) rfl (hown.out.keep z02 hb4) [.string p.name,.int .i64 p.kind,.int .i64 p.type,.int .i64 p.source.op,.int .i64 p.source.v.k,.int .i64 p.source.v.n,.string p.source.v.s,.string p.source.name,.slice A3 p.source.args.length c3] 80 rfl _ rfl rfl rfl (by simp[Value.oneCell']) (by rw[HK.out];omega) (by rw[HK.out];unfold maxLen;omega) (by omega) p hRF ?_;intro g' cap w5 hown5 hb5 hz5 _ _;rw[HK.out] at hown5 ⊢)
   go_roundw
   case rel =>
    refine⟨k+1,some ⟨g',0,none⟩,cap,by omega,by go_num,rfl,zh ?_,z01 (z01 hbr hb4 hzr) hb5 (by omega)⟩
    have etk:l.take k++[p]=l.take (k+1):=by rw[List.take_add_one,HO.out.1];rfl
    rw[<-etk]
    exact hown5
   case measure=>simp[intOf];omega
  have hkn:k=n:=by omega
  subst hkn
  have etk:l.take k=l:=List.take_of_length_le (by rw[HLN.out];exact nr _)
  rw[etk] at hown
  obtain⟨A9,c9,e9,hc9,hs9⟩:=hown.out.sl z02
  rw[HLN.out] at e9
  cases e9
  have HS:=zh (ai hs9 hc9)
  clear hs9 hc9
  go_wp2_with fail
  go_ret
  refine⟨A',c',?_,HS.out.2,HS.out.1,hbr⟩
  rw[HLN.out]
  rfl
end Go.Proofs.YtldhlpjjcnlbcaaGreat
/- The reference FormCopy. -/
namespace Go.Proofs.YtldhlpjjcnlbcaaGreat
open Go.RowKit
theorem since_keep {B:Nat}{w w':World}(hb:Below w.heap.size w w'):∀ b,since B w b->since B w' b/\w'.heap[b]?=w.heap[b]? :=
 fun b h=>⟨⟨h.1,Nat.lt_of_lt_of_le h.2 hb.size⟩,hb.block b h.2⟩
theorem copied_page {p:Pag}{A2 A3:Option Addr}{c2 c3 base B2:Nat}{v:Value}{wE:World}(hS:inS p.name)(h16:inB 16 p.fields.length)(hc2:p.fields.length<=c2)
  (hs2:Sl wE (since B2 wE) 1 RStr A2 p.fields.length p.fields)
  (hx3:XRep wE (since B2 wE) [.int .i64 p.skip.op,.int .i64 p.skip.v.k,.int .i64 p.skip.v.n,.string p.skip.v.s,.string p.skip.name,.slice A3 p.skip.args.length c3] p.skip)
  (hv:∀ k,v.ownBlock=some k->k<B2)(hB:base<=B2) :
  RPag wE (z7j base v wE) [.string p.name,.slice A2 p.fields.length c2,.int .i64 p.skip.op,.int .i64 p.skip.v.k,.int .i64 p.skip.v.n,.string p.skip.v.s,.string p.skip.name,.slice A3 p.skip.args.length c3] p:=by
 have hk:∀ b,since B2 wE b->z7j base v wE b:=fun b hb=>⟨by have:=hb.1;omega,hb.2,fun e=>by have:=hv b e.symm;have:=hb.1;omega⟩
 exact⟨hS,A2,_,c2,_,rfl,h16,hc2,hs2.mono hk,hx3.keep fun b hb=>⟨hk b hb,rfl⟩⟩
def RetFrm (w:World)(F:List Fld)(l:List Pag)(e:Ending)(w':World):Prop :=
 ∃ A1 c1 A2 c2,e=.returned (.agg #[.slice A1 F.length c1,.slice A2 l.length c2])/\F.length<=c1/\l.length<=c2/\Sl w' (since w.heap.size w') 9 (RFld w' (since w.heap.size w')) A1 F.length F /\
  Sl w' (since w.heap.size w') 8 (RPag w' (since w.heap.size w')) A2 l.length l/\Below w.heap.size w w'
theorem z8r (B:Option Addr)(m d:Nat)(F:List Fld)(A:Option Addr)(n c:Nat)(l:List Pag)(w:World)(hm:inB 112 m)(hF:Sl w (old w) 9 (RFld w (old w)) B m F)(hn:inB 120 n)(h:Sl w (old w) 8 (RPag w (old w)) A n l) :
  Calls Tryz.prog 46 #[.agg #[.slice B m d,.slice A n c]] w (RetFrm w F l):=by
 obtain⟨j0,hj0,iz0,iz1,iz2⟩:=info_parts Tryz.infoPag
 obtain⟨k0,hk0,sz0,sz1,sz2⟩:=info_parts Tryz.infoStr'
 have HH:=zh (ai h hF)
 have HLN:=zh h.len
 unfold inB at hn
 clear h hF
 go_enter Tryz.func46,Tryz.ntmps46
 go_wp2_with fail
 refine (zci B m d F _ hm (HH.out.2.nowN z02 bel)).mono ?_;rintro e w1 ⟨A1,c1,rfl,hlc1,hs1,hb1⟩;refine zb hb1 ?_;rintro ⟨hc1,hf1⟩ hz1 hy1 hx1;refine szz w1 w ?_;intros
 have HF1:=zh (ai hlc1 hs1)
 clear hlc1 hs1
 go_wp2_with fail
 go_loopw [13] (fun i wr=>∃ (k:Nat) (A':Option Addr) (c':Nat),k<=n/\i=.int .i64 k/\wr.cell? ⟨w1.heap.size,0,none⟩=some (.slice A1 F.length c1)/\wr.cell? ⟨w1.heap.size,1,none⟩=some (.slice A' k c')/\wr.frozen? ⟨w1.heap.size,1,none⟩=false/\Hid (Own wr (w1.heap.size+1) 114 8 RPag (.slice A' k c') (l.take k))/\Below w1.heap.size w1 wr/\w1.heap.size+1<=wr.heap.size) (fun i _=>n-(intOf i).toNat)
 case atStart=>exact⟨0,none,0,by omega,rfl,by go_simp,by go_simp,by go_simp,zh Own.nil,bel,by simp⟩
 case round =>
  obtain⟨k,A',c',hk,rfl,q0,q1,qf,hown,hbr1,hbase⟩:=hrel
  have hbr:Below w.heap.size w wr:=z01 (bel:Below w.heap.size w w1) hbr1 (by omega)
  by_cases hlt:k<n
  ·obtain⟨b,o,p,Y,D,X,C,hAe,hbl,hl,hrep,x0,x1,x2,x3,x4,x5,x6,x7⟩:=z8n (HH.out.1.nowN z0d hbr) hlt
   subst hAe
   have hbl':b<wr.heap.size:=hbl
   obtain⟨r1,r2,r3,r4,r5⟩:=hrep.open_
   have hlk:(l.take k).length=k:=by rw[List.length_take,HLN.out];omega
   have HO:=zh (ai hl (ai r1 (ai r2 (ai r4 (ai r5 hlk)))))
   have h16:p.fields.length*16<=140737488351232:=r2
   have ho:w1.heap.size<wr.heap.size:=by omega
   clear hl hrep r1 r2 r3 r4 r5 hlk hbl
   go_wp2_with fail
   refine z0k ?_;intro W0 hW0
   have hS0:(W0.drew.cell? ⟨wr.heap.size,0,none⟩=some (.string p.name)/\W0.drew.cell? ⟨wr.heap.size,1,none⟩=some (.slice Y p.fields.length D)/\W0.drew.cell? ⟨wr.heap.size,2,none⟩=some (.int .i64 p.skip.op)/\W0.drew.cell? ⟨wr.heap.size,3,none⟩=some (.int .i64 p.skip.v.k)/\W0.drew.cell? ⟨wr.heap.size,4,none⟩=some (.int .i64 p.skip.v.n)/\W0.drew.cell? ⟨wr.heap.size,5,none⟩=some (.string p.skip.v.s)/\W0.drew.cell? ⟨wr.heap.size,6,none⟩=some (.string p.skip.name)/\W0.drew.cell? ⟨wr.heap.size,7,none⟩=some (.slice X p.skip.args.length C))/\W0.drew.cell? ⟨w1.heap.size,1,none⟩=some (.slice A' k c'):=by rw[hW0];exact⟨⟨by go_simp,by go_simp,by go_simp,by go_simp,by go_simp,by go_simp,by go_simp,by go_simp⟩,by go_simp⟩
   have hB0:Below wr.heap.size wr W0.drew:=by rw[hW0];exact bel
   have hZ0:W0.heap.size=wr.heap.size+1:=by rw[hW0];simp
   clear hW0
   refine z0r (fun w'=>(w'.cell? ⟨wr.heap.size,0,none⟩=some (.string p.name)/\w'.cell? ⟨wr.heap.size,1,none⟩=some (.slice Y p.fields.length D)/\w'.cell? ⟨wr.heap.size,2,none⟩=some (.int .i64 p.skip.op)/\w'.cell? ⟨wr.heap.size,3,none⟩=some (.int .i64 p.skip.v.k)/\w'.cell? ⟨wr.heap.size,4,none⟩=some (.int .i64 p.skip.v.n)/\w'.cell? ⟨wr.heap.size,5,none⟩=some (.string p.skip.v.s)/\w'.cell? ⟨wr.heap.size,6,none⟩=some (.string p.skip.name)/\w'.cell? ⟨wr.heap.size,7,none⟩=some (.slice X p.skip.args.length C))/\w'.cell? ⟨w1.heap.size,1,none⟩=some (.slice A' k c')) 14 (by kernel_rfl) ?_
   refine zt 0 hS0 ?_
   simp only[Act.put,pq]
   refine zt 1 hS0 ?_
   simp only[Act.put,pq]
   refine zt 2 hS0 ?_
   simp only[Act.put,pq]
   refine zt 3 hS0 ?_
   simp only[Act.put,pq]
   refine zt 4 hS0 ?_
   simp only[Act.put,pq]
   refine zt 5 hS0 ?_
   simp only[Act.put,pq]
   refine zt 7 hS0 ?_
   simp only[Act.put,pq]
   refine zt 8 hS0 ?_
   simp only[Act.put,pq]
   refine z06 (i:=6) (o:=_) rfl (by kernel_rfl) (fun K hK=>?_)
   refine z1l rfl (.const (.slice none 0 0)) (.tmp 22) 94 rfl W0.drew.heap.size 9 k0 (.string ⟨#[]⟩) 1 16 Tryz.underlying94 hk0 sz0 sz1 sz2 rfl (by decide) (.slice none 0 0) 0 [] rfl (World.ownsRow_nil _ _ _ _) Y p.fields.length D (p.fields.flatMap strCs) rfl (by rw[z0w _ 1 (fun _=>rfl)]) ((HO.out.2.2.2.1.now hB0).cellsStr) (fun e=>by have:=HO.out.2.2.2.1;rw[e] at this;exact this.of_none.1) (oneStr _) (by unfold maxLen;omega) (by omega) (nr _) ?_
   intro v2 w2 ho2 hb2 hz2
   have ho2':w2.ownsRow W0.drew.heap.size 9 1 v2 p.fields.length (p.fields.flatMap strCs):=by simpa only[Nat.zero_add,List.nil_append] using ho2
   obtain⟨A2,c2,rfl,hc2',hs2'⟩:=z7g strCs inS (fun _=>rfl) ho2' rfl (HO.out.2.2.2.1.wfStr)
   have hzq:wr.heap.size+1<=w2.heap.size:=by simp[heap_drew] at hz2;omega
   have hs2:Sl w2 (since (wr.heap.size+1) w2) 1 RStr A2 p.fields.length p.fields:=hs2'.mono (fun b hb=>⟨by have h1:=hb.1;simp[heap_drew] at h1;omega,hb.2⟩)
   have hS2:=rowg8c hS0 hb2
   have hw2:Below wr.heap.size wr w2:=z01 hB0 hb2 (by simp[heap_drew];omega)
   clear hs2' ho2 ho2'
   refine hK.out _ _ (fun _=>hS2) ?_
   clear hK K
   try simp only[Act.put,pq]
   refine z06 (i:=9) (o:=_) rfl (by kernel_rfl) (fun K hK=>?_)
   go_simp
   go_at_call 82;refine (z78 _ p.skip X C _ (nr _) (HO.out.2.2.2.2.1.keep (z05 hw2))).mono ?_;rintro e w3 ⟨A3,c3,rfl,hx3',hb3⟩
   have hz3:=hb3.size
   have hx3:=hx3'.keep (S':=since (wr.heap.size+1) w3) (fun b hb=>⟨⟨by have h1:=hb.1;omega,hb.2⟩,rfl⟩)
   have hS3:=rowg8c hS2 hb3
   have hw3:Below wr.heap.size wr w3:=z01 hw2 hb3 (by omega)
   clear hx3'
   refine hK.out _ _ (fun _=>hS3) ?_
   clear hK K
   try simp only[Act.put,pq]
   refine zt 10 hS3 ?_
   simp only[Act.put,pq]
   refine z06 (i:=11) (o:=_) rfl (by kernel_rfl) (fun K hK=>?_)
   go_simp
   have hlg3:w1.heap.size<w3.heap.size:=by omega
   have hlr3:wr.heap.size<w3.heap.size:=by omega
   have hS4:=rowg8n (x:=.cells #[.string p.name,.slice A2 p.fields.length c2,.int .i64 p.skip.op,.int .i64 p.skip.v.k,.int .i64 p.skip.v.n,.string p.skip.v.s,.string p.skip.name,.slice A3 p.skip.args.length c3] 114) hS3
   refine hK.out _ _ (fun _=>hS4) ?_
   clear hK K
   refine z06 (i:=12) (o:=_) rfl (by kernel_rfl) (fun K hK=>?_)
   refine z37 z0d rfl (.tmp 18) (.tmp 28) 23 rfl (w1.heap.size+1) 114 j0 _ 8 120 Tryz.underlying23 hj0 iz0 iz1 iz2 rfl (by decide) (.slice A' k c') (l.take k) rfl (hown.out.keep z0d hw3) [.string p.name,.slice A2 p.fields.length c2,.int .i64 p.skip.op,.int .i64 p.skip.v.k,.int .i64 p.skip.v.n,.string p.skip.v.s,.string p.skip.name,.slice A3 p.skip.args.length c3] 114 rfl _ rfl rfl rfl (by simp[Value.oneCell']) (by rw[HO.out.2.2.2.2.2];omega) (by rw[HO.out.2.2.2.2.2];unfold maxLen;omega) (by omega) p (copied_page (B2:=wr.heap.size+1) HO.out.2.1 HO.out.2.2.1 hc2' (Sl.keepN (z0t _) hs2 (since_keep hb3)) hx3 (fun k hk=>Nat.lt_succ_of_lt (hown.out.lt k hk).2) (by omega)) ?_
   intro g' cap w5 hown5 hb5 hz5 hk5 _
   rw[HO.out.2.2.2.2.2] at hown5 ⊢
   have hke1:=hk5 wr.heap.size (by omega) (fun e=>by have:=(hown.out.lt _ e.symm).2;omega)
   have hke2:=hk5 w1.heap.size (by omega) (fun e=>by have:=(hown.out.lt _ e.symm).1;omega)
   have hS5:=rowg8a hS4 hke1 hlr3 hke2 hlg3
   have of5:=(fob w1.heap.size 1 hke2).trans ((hw3.frozen (p:=⟨w1.heap.size,1,none⟩) ho).trans qf)
   have o51:=hS5.2
   have o50:=(cob w1.heap.size 0 hke2).trans ((hw3.cell (p:=⟨w1.heap.size,0,none⟩) ho).trans q0)
   refine hK.out _ _ (fun _=>hS5) ?_
   clear hK K
   try simp only[Act.put,pq]
   refine zt 13 hS5 ?_
   simp only[Act.put,pq]
   refine z06 (i:=14) (o:=_) rfl (by kernel_rfl) (fun K hK=>?_)
   go_simp
   refine hK.out _ _ (fun h=>absurd h (by decide)) ?_
   clear hK K
   refine z0f (by kernel_rfl) ?_ _
   clear hS0 hS2 hS3 hS4 hS5
   try simp only[Act.put,pq]
   go_wp2_with fail
   go_roundw
   case rel =>
    have etk:l.take k++[p]=l.take (k+1):=by rw[List.take_add_one,HO.out.1];rfl
    rw[etk] at hown5
    refine⟨k+1,some ⟨g',0,none⟩,cap,by omega,by go_num,by go_simp,(by first | (go_simp;done) | (go_simp;exact World.cell?_setCell_same' _ _ _ (by go_simp))),by go_simp,zh (hown5.set z0d _ _ (by simp)),?_,by simp;omega⟩
    exact z03 (z01 (z01 hbr1 hw3 (by omega)) hb5 (by omega)) (by simp)
   case measure=>simp[intOf];omega
  have hkn:k=n:=by omega
  subst hkn
  have etk:l.take k=l:=List.take_of_length_le (by rw[HLN.out];exact nr _)
  rw[etk] at hown
  obtain⟨A9,c9,e9,hc9,hs9⟩:=hown.out.sl z0d
  rw[HLN.out] at e9
  cases e9
  have HS:=zh (ai hs9 hc9)
  have hlt1:w.heap.size+1<w1.heap.size:=by omega
  have z0:wr.cell? ⟨w.heap.size+1,0,none⟩=some (.slice none 0 0):=(hbr1.cell (p:=⟨w.heap.size+1,0,none⟩) hlt1).trans (by go_simp)
  have z1:wr.cell? ⟨w.heap.size+1,1,none⟩=some (.slice none 0 0):=(hbr1.cell (p:=⟨w.heap.size+1,1,none⟩) hlt1).trans (by go_simp)
  have f0:wr.frozen? ⟨w.heap.size+1,0,none⟩=false:=(hbr1.frozen (p:=⟨w.heap.size+1,0,none⟩) hlt1).trans (by go_simp)
  have f1:wr.frozen? ⟨w.heap.size+1,1,none⟩=false:=(hbr1.frozen (p:=⟨w.heap.size+1,1,none⟩) hlt1).trans (by go_simp)
  clear hs9 hc9 hown
  go_wp2_with fail
  refine bpr Tryz.results46 (.agg #[.slice A1 F.length c1,.slice A' k c']) ?_
  have hset:∀ b,w.heap.size+2<=b->∀ u v,((wr.setCell ⟨w.heap.size+1,0,none⟩ u).setCell ⟨w.heap.size+1,1,none⟩ v).heap[b]?=wr.heap[b]?:=by
   intro b hb u v
   iterate 2 rw[heap_setCell_other _ _ _ _ (by simp;omega)]
  refine⟨A1,c1,A',c',by rw[HLN.out],HF1.out.1,?_,HF1.out.2.keepN z02 (fun b hb=>?_),?_,bel⟩
  ·exact HS.out.2
  ·have h1:=hb.1
   simp at h1
   have h2:=hb.2
   exact⟨⟨by omega,by simp;have:=hbr1.size;omega⟩,(hset b (by omega) _ _).trans (hbr1.block b h2)⟩
  exact HS.out.1.keepN z0d (fun b hb=>⟨⟨by have:=hb.1;omega,by simpa using hb.2⟩,hset b (by have:=hb.1;omega) _ _⟩)
end Go.Proofs.YtldhlpjjcnlbcaaGreat
