/- Texts merged (mergeh.py): Rfe9. -/
import Derived.Test.YtldhlpjjcnlbcaaGreatRfe4
import Derived.Test.YtldhlpjjcnlbcaaGreatEng9
import Derived.Test.YtldhlpjjcnlbcaaGreatHeldX
/- The reference EngineNew. (printed by mkrfe9.py) -/
set_option maxRecDepth 100000
set_option maxHeartbeats 8000000
namespace Go.Proofs.YtldhlpjjcnlbcaaGreat
open Go.RowKit
theorem ref_EngineNew (B:Option Addr)(m d:Nat)(F:List Fld)(A:Option Addr)(n c:Nat)(P:List Pag)(p:Pol)(w:World)(hX:RFo w B m d F A n c P)(hO:z2i F) :
  Calls Tryz.prog 9 #[.agg #[.slice B m d,.slice A n c],.agg #[.int .i64 p.tries,.int .i64 p.base,.int .i64 p.cap]] w (RetEng w (newE F P p)):=by
 have h1:=fun w (h:RFo w B m d F A n c P)=>z58 B m d F A n c P w h hO
 have h2:=fun w=>z1r p.tries p.base p.cap w
 have hml:F.length=m:=hX.2.2.2.2.1.len
 rw[show (⟨p.tries,p.base,p.cap⟩:Pol)=p from rfl] at h2
 have hne:newE F P p=if formErr F P≠0 then (noEng,[],formErr F P) else if gapCheck p≠0 then (noEng,[],gapCheck p) else becE ⟨F,P,p,[],List.replicate F.length noCll,List.replicate F.length noVal,0,0⟩ []:=rfl
 have hok:=fun h h'=>new_ok (F:=F) (P:=P) (p:=p) h h'
 have h14:=fun h=>form14 (F:=F) (P:=P) h
 obtain⟨rr,hrr⟩:∃ rr,rr=newE F P p:=⟨_,rfl⟩
 rw[<-hrr]
 rw[hne] at hrr
 generalize formErr F P=e1 at h1 hrr hok h14
 generalize gapCheck p=e2 at h2 hrr hok
 have HX:=zh hX
 clear hX hne
 by_cases z1:e1=0
 ·have g1:(e1 != 0)=false:=by simpa using z1
  by_cases z2:e2=0
  ·have g2:(e2 != 0)=false:=by simpa using z2
   rw[if_neg (by simpa using z1),if_neg (by simpa using z2)] at hrr
   have hm14:m<=14:=by rw[<-hml];exact h14 z1
   have hrr2:=hrr
   rw[hml] at hrr2
   have hok2:=hok z1 z2
   rw[hml] at hok2
   have HR:=zh (ai hrr2 (ai hok2 (ai hO hml)))
   obtain⟨i0,ei,ez0,ez1,ez2⟩:=info_parts Tryz.infoValR
   obtain⟨j0,ej,jz0,jz1,jz2⟩:=info_parts Tryz.infoCll
   clear hrr hrr2 hok hok2 h14 hO hml z1 z2
   go_enter Tryz.func9,Tryz.ntmps9
   go_upto_region 8 with (first
    | (go_at_call 26;refine (h1 _ (HX.out.now bel)).mono ?_;rintro e w1 ⟨rfl,hb1⟩;refine zb hb1 ?_;rintro ⟨hc1,hf1⟩ hz1 hy1 hx1;refine szz w1 w ?_;intros)
    | (go_at_call 27;refine (h2 _).mono ?_;rintro e w2 ⟨rfl,hb2⟩;refine zb hb2 ?_;rintro ⟨hc2,hf2⟩ hz2 hy2 hx2;refine szz w2 w ?_;intros;refine szz w2 w1 ?_;intros))
   refine z0k ?_;intro W0 hW0
   have hB0:Below w.heap.size w W0:=by rw[hW0];exact bel
   obtain⟨g,hg⟩:∃ g,g=w2.heap.size:=⟨_,rfl⟩
   have hz2:w.heap.size+3<=w2.heap.size:=by have:=hb1.size;have:=hb2.size;simp at *;omega
   have hzg:w2.heap.size<W0.heap.size:=by rw[hW0];simp
   have e0:W0.cell? ⟨w.heap.size,0,none⟩=some (.slice B m d):=by rw[hW0];go_simp
   have z0:W0.cell? ⟨w2.heap.size,0,none⟩=some (.slice B m d):=by rw[hW0];first | exact (by first | (go_simp;done) | (go_simp;exact World.cell?_setCell_same' _ _ _ (by go_simp))) | go_simp
   have z1:W0.cell? ⟨w2.heap.size,1,none⟩=some (.slice A n c):=by rw[hW0];first | exact (by first | (go_simp;done) | (go_simp;exact World.cell?_setCell_same' _ _ _ (by go_simp))) | go_simp
   have z2:W0.cell? ⟨w2.heap.size,2,none⟩=some (.int .i64 p.tries):=by rw[hW0];first | exact (by first | (go_simp;done) | (go_simp;exact World.cell?_setCell_same' _ _ _ (by go_simp))) | go_simp
   have z3:W0.cell? ⟨w2.heap.size,3,none⟩=some (.int .i64 p.base):=by rw[hW0];first | exact (by first | (go_simp;done) | (go_simp;exact World.cell?_setCell_same' _ _ _ (by go_simp))) | go_simp
   have z4:W0.cell? ⟨w2.heap.size,4,none⟩=some (.int .i64 p.cap):=by rw[hW0];first | exact (by first | (go_simp;done) | (go_simp;exact World.cell?_setCell_same' _ _ _ (by go_simp))) | go_simp
   have z5:W0.cell? ⟨w2.heap.size,5,none⟩=some (.slice none 0 0):=by rw[hW0];first | exact (by first | (go_simp;done) | (go_simp;exact World.cell?_setCell_same' _ _ _ (by go_simp))) | go_simp
   have z6:W0.cell? ⟨w2.heap.size,6,none⟩=some (.slice none 0 0):=by rw[hW0];first | exact (by first | (go_simp;done) | (go_simp;exact World.cell?_setCell_same' _ _ _ (by go_simp))) | go_simp
   have z7:W0.cell? ⟨w2.heap.size,7,none⟩=some (.slice none 0 0):=by rw[hW0];first | exact (by first | (go_simp;done) | (go_simp;exact World.cell?_setCell_same' _ _ _ (by go_simp))) | go_simp
   have z8:W0.cell? ⟨w2.heap.size,8,none⟩=some (.int .i64 0):=by rw[hW0];first | exact (by first | (go_simp;done) | (go_simp;exact World.cell?_setCell_same' _ _ _ (by go_simp))) | go_simp
   have z9:W0.cell? ⟨w2.heap.size,9,none⟩=some (.int .i64 0):=by rw[hW0];first | exact (by first | (go_simp;done) | (go_simp;exact World.cell?_setCell_same' _ _ _ (by go_simp))) | go_simp
   have f6:W0.frozen? ⟨w2.heap.size,6,none⟩=false:=by rw[hW0];go_simp
   have f7:W0.frozen? ⟨w2.heap.size,7,none⟩=false:=by rw[hW0];go_simp
   have q0:W0.cell? ⟨w.heap.size+2,0,none⟩=some (.slice none 0 0):=by rw[hW0];go_simp
   have q1:W0.cell? ⟨w.heap.size+2,1,none⟩=some (.slice none 0 0):=by rw[hW0];go_simp
   have q2:W0.cell? ⟨w.heap.size+2,2,none⟩=some (.int .i64 0):=by rw[hW0];go_simp
   have q3:W0.cell? ⟨w.heap.size+2,3,none⟩=some (.int .i64 0):=by rw[hW0];go_simp
   have q4:W0.cell? ⟨w.heap.size+2,4,none⟩=some (.int .i64 0):=by rw[hW0];go_simp
   have q5:W0.cell? ⟨w.heap.size+2,5,none⟩=some (.slice none 0 0):=by rw[hW0];go_simp
   have q6:W0.cell? ⟨w.heap.size+2,6,none⟩=some (.slice none 0 0):=by rw[hW0];go_simp
   have q7:W0.cell? ⟨w.heap.size+2,7,none⟩=some (.slice none 0 0):=by rw[hW0];go_simp
   have q8:W0.cell? ⟨w.heap.size+2,8,none⟩=some (.int .i64 0):=by rw[hW0];go_simp
   have q9:W0.cell? ⟨w.heap.size+2,9,none⟩=some (.int .i64 0):=by rw[hW0];go_simp
   have r0:W0.frozen? ⟨w.heap.size+2,0,none⟩=false:=by rw[hW0];go_simp
   have r1:W0.frozen? ⟨w.heap.size+2,1,none⟩=false:=by rw[hW0];go_simp
   have r2:W0.frozen? ⟨w.heap.size+2,2,none⟩=false:=by rw[hW0];go_simp
   have r3:W0.frozen? ⟨w.heap.size+2,3,none⟩=false:=by rw[hW0];go_simp
   have r4:W0.frozen? ⟨w.heap.size+2,4,none⟩=false:=by rw[hW0];go_simp
   have r5:W0.frozen? ⟨w.heap.size+2,5,none⟩=false:=by rw[hW0];go_simp
   have r6:W0.frozen? ⟨w.heap.size+2,6,none⟩=false:=by rw[hW0];go_simp
   have r7:W0.frozen? ⟨w.heap.size+2,7,none⟩=false:=by rw[hW0];go_simp
   have r8:W0.frozen? ⟨w.heap.size+2,8,none⟩=false:=by rw[hW0];go_simp
   have r9:W0.frozen? ⟨w.heap.size+2,9,none⟩=false:=by rw[hW0];go_simp
   rw[<-hg]
   rw[<-hg] at z0 z1 z2 z3 z4 z5 z6 z7 z8 z9 f6 f7
   have hgw:w.heap.size+3<=g:=by omega
   have hgW:g<W0.heap.size:=by omega
   have HB0:=zh hB0
   clear hW0 hb1 hb2 hc1 hc2 hf1 hf2 h1 h2 hg hz2 hzg
   go_wp2_with fail
   go_loopw [28] (fun i wr=>∃ (k:Nat) (Ac:Option Addr) (cc:Nat) (Av:Option Addr) (cv:Nat),k<=m/\i=.int .i64 k/\(wr.cell? ⟨g,0,none⟩=some (.slice B m d)/\(wr.cell? ⟨g,1,none⟩=some (.slice A n c)/\(wr.cell? ⟨g,2,none⟩=some (.int .i64 p.tries)/\(wr.cell? ⟨g,3,none⟩=some (.int .i64 p.base)/\(wr.cell? ⟨g,4,none⟩=some (.int .i64 p.cap)/\(wr.cell? ⟨g,5,none⟩=some (.slice none 0 0)/\(wr.cell? ⟨g,6,none⟩=some (.slice Ac k cc)/\(wr.cell? ⟨g,7,none⟩=some (.slice Av k cv)/\(wr.cell? ⟨g,8,none⟩=some (.int .i64 0)/\wr.cell? ⟨g,9,none⟩=some (.int .i64 0))))))))))/\wr.frozen? ⟨g,6,none⟩=false/\wr.frozen? ⟨g,7,none⟩=false /\
    Hid (wr.ownsRow W0.heap.size 62 10 (.slice Ac k cc) k ((List.replicate k noCll).flatMap Cll.cs))/\Hid (wr.ownsRow W0.heap.size 44 3 (.slice Av k cv) k ((List.replicate k noVal).flatMap Val.cs))/\Hid (∀ q,(Value.slice Ac k cc).ownBlock=some q->(Value.slice Av k cv).ownBlock≠some q)/\k<=cc/\k<=cv/\Hid (Below g W0 wr)/\W0.heap.size<=wr.heap.size) (fun i _=>m-(intOf i).toNat)
   case atStart=>exact⟨0,none,0,none,0,by omega,rfl,⟨z0,z1,z2,z3,z4,z5,z6,z7,z8,z9⟩,f6,f7,zh (World.ownsRow_nil _ _ _ _),zh (World.ownsRow_nil _ _ _ _),zh (fun q hq=>by cases hq),nr _,nr _,zh (Below.refl _ _),nr _⟩
   case round =>
    clear z0 z1 z2 z3 z4 z5 z6 z7 z8 z9 f6 f7
    obtain⟨k,Ac,cc,Av,cv,hk,rfl,hG,f6,f7,hrc,hrv,hne,hkc,hkv,hbr,hzr⟩:=hrel
    obtain⟨z0,z1,z2,z3,z4,z5,z6,z7,z8,z9⟩:=hG
    have hgr:g<wr.heap.size:=by omega
    have e1':=(hbr.out.cell (p:=⟨w.heap.size,0,none⟩) (by show w.heap.size<g;omega)).trans e0
    have hlw:w.heap.size<wr.heap.size:=by omega
    by_cases hlt:k<m
    ·have hki:(k:Int)<(m:Int):=by omega
     go_upto_region 11 with (at_builtin;refine z49 rfl _ _ 29 rfl W0.heap.size 62 j0 _ 10 96 Tryz.underlying29 ej jz0 jz1 jz2 rfl (by decide) _ k _ rfl hrc.out noCll.cs 62 rfl _ rfl rfl rfl (by simp[Cll.cs,noCll,Value.oneCell']) (by omega) (by unfold maxLen;omega) (by omega) ?_;intro v6 w6 hown6 hb6 hz6' hk6 hv6;obtain⟨A6,c6,rfl,hq6⟩:=z4p hown6;have hkg:w6.heap[g]?=wr.heap[g]?:=hk6 g hgr (fun e=>by have:=(hrc.out.lt g e.symm).1;omega);have a6:=(cob g 6 hkg).trans z6;have t6:=(fob g 6 hkg).trans f6;have hg6:g<w6.heap.size:=(by omega))
     refine z0k ?_;intro W1 hW1
     have hblk:∀ b:Nat,b≠g->W1.heap[b]?=w6.heap[b]?:=fun b hb=>by rw[hW1,Below.heap_setCell _ _ _ _ (by exact hb)]
     have hz1:W1.heap.size=w6.heap.size:=by rw[hW1];simp
     have y0:W1.cell? ⟨g,0,none⟩=some (.slice B m d):=by have h:=(cob g 0 hkg).trans z0;rw[hW1];go_simp
     have y1:W1.cell? ⟨g,1,none⟩=some (.slice A n c):=by have h:=(cob g 1 hkg).trans z1;rw[hW1];go_simp
     have y2:W1.cell? ⟨g,2,none⟩=some (.int .i64 p.tries):=by have h:=(cob g 2 hkg).trans z2;rw[hW1];go_simp
     have y3:W1.cell? ⟨g,3,none⟩=some (.int .i64 p.base):=by have h:=(cob g 3 hkg).trans z3;rw[hW1];go_simp
     have y4:W1.cell? ⟨g,4,none⟩=some (.int .i64 p.cap):=by have h:=(cob g 4 hkg).trans z4;rw[hW1];go_simp
     have y5:W1.cell? ⟨g,5,none⟩=some (.slice none 0 0):=by have h:=(cob g 5 hkg).trans z5;rw[hW1];go_simp
     have y6:W1.cell? ⟨g,6,none⟩=some (.slice A6 (k+1) c6):=by rw[hW1];exact (by first | (go_simp;done) | (go_simp;exact World.cell?_setCell_same' _ _ _ (by go_simp)))
     have y7:W1.cell? ⟨g,7,none⟩=some (.slice Av k cv):=by have h:=(cob g 7 hkg).trans z7;rw[hW1];go_simp
     have y8:W1.cell? ⟨g,8,none⟩=some (.int .i64 0):=by have h:=(cob g 8 hkg).trans z8;rw[hW1];go_simp
     have y9:W1.cell? ⟨g,9,none⟩=some (.int .i64 0):=by have h:=(cob g 9 hkg).trans z9;rw[hW1];go_simp
     have u6':W1.frozen? ⟨g,6,none⟩=false:=by have h:=(fob g 6 hkg).trans f6;rw[hW1];go_simp
     have u7':W1.frozen? ⟨g,7,none⟩=false:=by have h:=(fob g 7 hkg).trans f7;rw[hW1];go_simp
     have hbg:Below g W0 W1:=by rw[hW1];exact z03 ((hbr.out).trans (hb6.mono (by omega))) (nr _)
     have hrc1:=zh (z09 hown6 (w':=W1) (fun q hq _=>hblk q (by have:=(hown6.lt q hq).1;omega)))
     have hrv1:=zh (z09 hrv.out (w':=W1) (fun q hq hl=>(hblk q (by have:=(hrv.out.lt q hq).1;omega)).trans (hk6 q hl (fun e=>hne.out q e.symm hq))))
     have hcb:∀ q,(Value.slice A6 (k+1) c6).ownBlock=some q->(Value.slice Av k cv).ownBlock≠some q:=fun q hq e=>by
      rcases hv6 with h | ⟨kk,h,hkk⟩
      ·exact hne.out q (h.symm.trans hq) e
      have:=Option.some.inj (h.symm.trans hq);have:=(hrv.out.lt q e).2;omega
     have HCB:=zh hcb
     have HBG:=zh hbg
     have hl1:W0.heap.size<=W1.heap.size:=by omega
     have hgl1:g<W1.heap.size:=by omega
     clear hW1 hblk hz1 hkg a6 t6 hg6 hown6 hb6 hz6' hk6 hv6 hcb hbg hrc hrv hne hbr z0 z1 z2 z3 z4 z5 z6 z7 z8 z9 f6 f7
     go_wp2_with (at_builtin;refine z49 rfl _ _ 30 rfl W0.heap.size 44 i0 _ 3 32 Tryz.underlying30 ei ez0 ez1 ez2 rfl (by decide) _ k _ rfl hrv1.out noVal.cs 44 rfl _ rfl rfl rfl (by simp[Val.cs,noVal,Value.oneCell']) (by omega) (by unfold maxLen;omega) (by omega) ?_;intro v7 w7 hown7 hb7 hz7' hk7 hv7;obtain⟨A7,c7,rfl,hq7⟩:=z4p hown7;have hkg:w7.heap[g]?=W1.heap[g]?:=hk7 g hgl1 (fun e=>by have:=(hrv1.out.lt g e.symm).1;omega);have a7:=(cob g 7 hkg).trans y7;have t7:=(fob g 7 hkg).trans u7';have hg7:g<w7.heap.size:=(by omega))
     have hrep:∀ {α β:Type} (x:α) (enc:α->List β),(List.replicate (k+1) x).flatMap enc=(List.replicate k x).flatMap enc++enc x:=fun x enc=>by rw[List.replicate_succ',List.flatMap_append];simp
     have HRP:=zh (ai (hrep noCll Cll.cs) (hrep noVal Val.cs))
     clear hrep
     go_roundw
     case rel =>
      have hblk:∀ b:Nat,b≠g->(w7.setCell ⟨g,7,none⟩ (.slice A7 (k+1) c7)).heap[b]?=w7.heap[b]?:=fun b hb=>by rw[Below.heap_setCell _ _ _ _ (by exact hb)]
      refine⟨k+1,A6,c6,A7,c7,by omega,by go_num,⟨by have h:=(cob g 0 hkg).trans y0;go_simp,by have h:=(cob g 1 hkg).trans y1;go_simp,by have h:=(cob g 2 hkg).trans y2;go_simp,by have h:=(cob g 3 hkg).trans y3;go_simp,by have h:=(cob g 4 hkg).trans y4;go_simp,by have h:=(cob g 5 hkg).trans y5;go_simp,by have h:=(cob g 6 hkg).trans y6;go_simp,by exact (by first | (go_simp;done) | (go_simp;exact World.cell?_setCell_same' _ _ _ (by go_simp))),by have h:=(cob g 8 hkg).trans y8;go_simp,by have h:=(cob g 9 hkg).trans y9;go_simp⟩,by have h:=(fob g 6 hkg).trans u6';go_simp,by have h:=(fob g 7 hkg).trans u7';go_simp,zh ?_,zh ?_,zh (fun q hq e=>?_),hq6,hq7,zh ?_,by simp;omega⟩
      ·rw[HRP.out.1]
       exact z09 hrc1.out (fun q hq hl=>(hblk q (by have:=(hrc1.out.lt q hq).1;omega)).trans (hk7 q hl (fun e=>HCB.out q hq e.symm)))
      ·rw[HRP.out.2]
       exact z09 hown7 (fun q hq _=>hblk q (by have:=(hown7.lt q hq).1;omega))
      ·rcases hv7 with h | ⟨kk,h,hkk⟩
       ·exact HCB.out q hq (h.symm.trans e)
       have:=Option.some.inj (h.symm.trans e);have:=(hrc1.out.lt q hq).2;omega
      exact z03 (HBG.out.trans (hb7.mono (by omega))) (nr _)
     case measure=>simp[intOf];omega
    have hke:k=m:=by omega
    subst hke
    have hBr:Below w.heap.size w wr:=HB0.out.trans (hbr.out.mono (by omega))
    obtain⟨_,_,ec,_,hsc⟩:=ownCll hrc.out (by simp) (fun x hx=>by rw[List.eq_of_mem_replicate hx];exact noCll_wf)
    cases ec
    obtain⟨_,_,ev,_,hsv⟩:=z6p hrv.out (by simp) (fun x hx=>by rw[List.eq_of_mem_replicate hx];exact z9v)
    cases ev
    have hbec:=ref_becomes B k d F A n c P p none 0 0 [] Ac k cc (List.replicate k noCll) Av k cv (List.replicate k noVal) 0 0 none 0 [] wr.heap.size wr ⟨HX.out.now hBr,⟨by unfold inB;omega,nr _,Sl.nil⟩,⟨by unfold inB;omega,hkc,hsc⟩,by unfold inB;omega,hkv,hsv⟩ HR.out.2.2.1 HR.out.2.1 (by rw[List.length_replicate];exact HR.out.2.2.2.symm) (World.ownsRow_nil _ _ _ _) (fun l hl=>absurd hl List.not_mem_nil) (by simp) (nr _)
    rw[<-HR.out.1] at hbec
    simp only[List.length_nil] at hbec
    have hrl:w.heap.size+2<wr.heap.size:=by omega
    replace q0:=(hbr.out.cell (p:=⟨w.heap.size+2,0,none⟩) (by show w.heap.size+2<g;omega)).trans q0
    replace r0:=(hbr.out.frozen (p:=⟨w.heap.size+2,0,none⟩) (by show w.heap.size+2<g;omega)).trans r0
    replace q1:=(hbr.out.cell (p:=⟨w.heap.size+2,1,none⟩) (by show w.heap.size+2<g;omega)).trans q1
    replace r1:=(hbr.out.frozen (p:=⟨w.heap.size+2,1,none⟩) (by show w.heap.size+2<g;omega)).trans r1
    replace q2:=(hbr.out.cell (p:=⟨w.heap.size+2,2,none⟩) (by show w.heap.size+2<g;omega)).trans q2
    replace r2:=(hbr.out.frozen (p:=⟨w.heap.size+2,2,none⟩) (by show w.heap.size+2<g;omega)).trans r2
    replace q3:=(hbr.out.cell (p:=⟨w.heap.size+2,3,none⟩) (by show w.heap.size+2<g;omega)).trans q3
    replace r3:=(hbr.out.frozen (p:=⟨w.heap.size+2,3,none⟩) (by show w.heap.size+2<g;omega)).trans r3
    replace q4:=(hbr.out.cell (p:=⟨w.heap.size+2,4,none⟩) (by show w.heap.size+2<g;omega)).trans q4
    replace r4:=(hbr.out.frozen (p:=⟨w.heap.size+2,4,none⟩) (by show w.heap.size+2<g;omega)).trans r4
    replace q5:=(hbr.out.cell (p:=⟨w.heap.size+2,5,none⟩) (by show w.heap.size+2<g;omega)).trans q5
    replace r5:=(hbr.out.frozen (p:=⟨w.heap.size+2,5,none⟩) (by show w.heap.size+2<g;omega)).trans r5
    replace q6:=(hbr.out.cell (p:=⟨w.heap.size+2,6,none⟩) (by show w.heap.size+2<g;omega)).trans q6
    replace r6:=(hbr.out.frozen (p:=⟨w.heap.size+2,6,none⟩) (by show w.heap.size+2<g;omega)).trans r6
    replace q7:=(hbr.out.cell (p:=⟨w.heap.size+2,7,none⟩) (by show w.heap.size+2<g;omega)).trans q7
    replace r7:=(hbr.out.frozen (p:=⟨w.heap.size+2,7,none⟩) (by show w.heap.size+2<g;omega)).trans r7
    replace q8:=(hbr.out.cell (p:=⟨w.heap.size+2,8,none⟩) (by show w.heap.size+2<g;omega)).trans q8
    replace r8:=(hbr.out.frozen (p:=⟨w.heap.size+2,8,none⟩) (by show w.heap.size+2<g;omega)).trans r8
    replace q9:=(hbr.out.cell (p:=⟨w.heap.size+2,9,none⟩) (by show w.heap.size+2<g;omega)).trans q9
    replace r9:=(hbr.out.frozen (p:=⟨w.heap.size+2,9,none⟩) (by show w.heap.size+2<g;omega)).trans r9
    have HBr:=zh hBr
    clear hsc hsv
    go_wp2_with (go_at_call 28;refine hbec.mono ?_;rintro e w5 ⟨⟨B',d',A',c',A1',c1',A2',c2',A3',c3',A4',c4',rfl,hlen,s1,s2,s3,s4,s5,s6⟩,hb5⟩;have hl5:w.heap.size+2<w5.heap.size:=Nat.lt_of_lt_of_le hrl hb5.size;have qq0:=z00 q0 hb5;have rq0:=(hb5.frozen (p:=⟨w.heap.size+2,0,none⟩) hrl).trans r0;have qq1:=z00 q1 hb5;have rq1:=(hb5.frozen (p:=⟨w.heap.size+2,1,none⟩) hrl).trans r1;have qq2:=z00 q2 hb5;have rq2:=(hb5.frozen (p:=⟨w.heap.size+2,2,none⟩) hrl).trans r2;have qq3:=z00 q3 hb5;have rq3:=(hb5.frozen (p:=⟨w.heap.size+2,3,none⟩) hrl).trans r3;have qq4:=z00 q4 hb5;have rq4:=(hb5.frozen (p:=⟨w.heap.size+2,4,none⟩) hrl).trans r4;have qq5:=z00 q5 hb5;have rq5:=(hb5.frozen (p:=⟨w.heap.size+2,5,none⟩) hrl).trans r5;have qq6:=z00 q6 hb5;have rq6:=(hb5.frozen (p:=⟨w.heap.size+2,6,none⟩) hrl).trans r6;have qq7:=z00 q7 hb5;have rq7:=(hb5.frozen (p:=⟨w.heap.size+2,7,none⟩) hrl).trans r7;have qq8:=z00 q8 hb5;have rq8:=(hb5.frozen (p:=⟨w.heap.size+2,8,none⟩) hrl).trans r8;have qq9:=z00 q9 hb5;have rq9:=(hb5.frozen (p:=⟨w.heap.size+2,9,none⟩) hrl).trans r9)
    refine bpr Tryz.results9 (.tuple #[.agg #[.slice B' rr.1.F.length d',.slice A' rr.1.P.length c',.int .i64 rr.1.p.tries,.int .i64 rr.1.p.base,.int .i64 rr.1.p.cap,.slice A1' rr.1.ins.length c1',.slice A2' rr.1.cs.length c2',.slice A3' rr.1.vs.length c3',.int .i64 rr.1.now,.int .i64 rr.1.last],.slice A4' rr.2.1.length c4',.int .i64 rr.2.2]) ?_
    generalize hW9:World.setCell _ _ _=W9
    have hk:∀ b:Nat,b≠w.heap.size+2->W9.heap[b]?=w5.heap[b]?:=fun b hb=>by
     rw[<-hW9]
     iterate 10 rw[Below.heap_setCell _ _ _ _ (by exact hb)]
    have hz9:W9.heap.size=w5.heap.size:=by rw[<-hW9];simp
    have hkk:∀ b,since wr.heap.size w5 b->since w.heap.size W9 b/\W9.heap[b]?=w5.heap[b]?:=fun b hb=>by
     have h1:=hb.1
     have h2:=hb.2
     exact⟨⟨by omega,by omega⟩,hk b (by omega)⟩
    refine⟨⟨B',d',A',c',A1',c1',A2',c2',A3',c3',A4',c4',rfl,hlen,s1.keepN z02 hkk,s2.keepN z0d hkk,(s3.keep (fun b hb=>(hkk b hb).2) (fun _ _ h=>h)).mono (fun b hb=>(hkk b hb).1),(s4.keep (fun b hb=>(hkk b hb).2) (fun _ _ h=>h)).mono (fun b hb=>(hkk b hb).1),(s5.keep (fun b hb=>(hkk b hb).2) (fun _ _ h=>h)).mono (fun b hb=>(hkk b hb).1),(s6.keep (fun b hb=>(hkk b hb).2) (fun _ _ h=>h)).mono (fun b hb=>(hkk b hb).1)⟩,?_⟩
    rw[<-hW9]
    iterate 10 refine z03 ?_ (by first | (simp;done) | (simp;omega))
    exact z01 HBr.out hb5 HBr.out.size
  have g2:(e2 != 0)=true:=by simpa using z2
  rw[if_neg (by simpa using z1),if_pos z2] at hrr
  have HR:=zh hrr
  clear hrr hok h14 hO hml z1 z2
  go_enter Tryz.func9,Tryz.ntmps9
  go_wp2_with (first
   | (go_at_call 26;refine (h1 _ (HX.out.now bel)).mono ?_;rintro e w1 ⟨rfl,hb1⟩;refine zb hb1 ?_;rintro ⟨hc1,hf1⟩ hz1 hy1 hx1;refine szz w1 w ?_;intros)
   | (go_at_call 27;refine (h2 _).mono ?_;rintro e w2 ⟨rfl,hb2⟩;refine zb hb2 ?_;rintro ⟨hc2,hf2⟩ hz2 hy2 hx2;refine szz w2 w ?_;intros;refine szz w2 w1 ?_;intros))
  refine bpr Tryz.results9 (.tuple #[.agg #[.slice none 0 0,.slice none 0 0,.int .i64 0,.int .i64 0,.int .i64 0,.slice none 0 0,.slice none 0 0,.slice none 0 0,.int .i64 0,.int .i64 0],.slice none 0 0,.int .i64 e2]) ?_
  rw[HR.out]
  exact⟨EngIs.nil0 _ rfl,bel⟩
 have g1:(e1 != 0)=true:=by simpa using z1
 rw[if_pos z1] at hrr
 have HR:=zh hrr
 clear hrr hok h14 hO hml z1
 go_enter Tryz.func9,Tryz.ntmps9
 go_wp2_with (go_at_call 26;refine (h1 _ (HX.out.now bel)).mono ?_;rintro e w1 ⟨rfl,hb1⟩;refine zb hb1 ?_;rintro ⟨hc1,hf1⟩ hz1 hy1 hx1;refine szz w1 w ?_;intros)
 refine bpr Tryz.results9 (.tuple #[.agg #[.slice none 0 0,.slice none 0 0,.int .i64 0,.int .i64 0,.int .i64 0,.slice none 0 0,.slice none 0 0,.slice none 0 0,.int .i64 0,.int .i64 0],.slice none 0 0,.int .i64 e1]) ?_
 rw[HR.out]
 exact⟨EngIs.nil0 _ rfl,bel⟩
end Go.Proofs.YtldhlpjjcnlbcaaGreat
