/- Texts merged (mergeh.py): Rfe3. -/
import Derived.Test.YtldhlpjjcnlbcaaGreatEng6
import Derived.Test.YtldhlpjjcnlbcaaGreatRfe2
import Derived.Test.YtldhlpjjcnlbcaaGreatCall6r
/- The reference EngineFault. (printed by mkrfe3.py) -/
set_option maxRecDepth 100000
set_option maxHeartbeats 8000000
namespace Go.Proofs.YtldhlpjjcnlbcaaGreat
open Go.RowKit
theorem zgz {c:Cll}{p:Pol}(h:z07 c p=0):0<=c.state/\c.state<=3:=by
 rcases z4v h with rfl | ⟨h1,_⟩
 ·exact⟨by decide,by decide⟩
 omega
theorem ref_EngineFault (B:Option Addr)(m d:Nat)(F:List Fld)(A:Option Addr)(n c:Nat)(P:List Pag)(p:Pol)(A1:Option Addr)(n1 c1:Nat)(ins:List Fct)(A2:Option Addr)(n2 c2:Nat)(cs:List Cll)(A3:Option Addr)(n3 c3:Nat)(vs:List Val)(now last:Int)(w:World)
  (hX:REn w B m d F A n c P A1 n1 c1 ins A2 n2 c2 cs A3 n3 c3 vs)(hO:z2i F) :
  Calls Tryz.prog 14 #[.agg #[.slice B m d,.slice A n c,.int .i64 p.tries,.int .i64 p.base,.int .i64 p.cap,.slice A1 n1 c1,.slice A2 n2 c2,.slice A3 n3 c3,.int .i64 now,.int .i64 last]] w (RetI w (engErr ⟨F,P,p,ins,cs,vs,now,last⟩)):=by
 have h1:=fun w (h:REn w B m d F A n c P A1 n1 c1 ins A2 n2 c2 cs A3 n3 c3 vs)=>z58 B m d F A n c P w h.1 hO
 have h2:=fun w=>z1r p.tries p.base p.cap w
 have h3:=fun w (h:REn w B m d F A n c P A1 n1 c1 ins A2 n2 c2 cs A3 n3 c3 vs)=>z8z B m d F A n c A1 n1 c1 ins w (h.1.1.l (by decide)) (h.2.1.1.l (by decide)) h.1.2.2.2.2.1 h.2.1.2.2
 have h5:=fun w=>ref_counted (.slice B m d) (.slice A n c) (.slice A1 n1 c1) (.slice A2 n2 c2) (.slice A3 n3 c3) p now last w
 have h6:=fun w h hok hvl=>ref_settled B m d F A n c P p A1 n1 c1 ins A2 n2 c2 cs A3 n3 c3 vs now last w h hO hok hvl
 obtain⟨g,hg⟩:∃ g:Eng,g=⟨F,P,p,ins,cs,vs,now,last⟩:=⟨_,rfl⟩
 have he0:z2k g=if formErr F P≠0 then formErr F P else if gapCheck p≠0 then gapCheck p else if factsCheck F ins≠0 then factsCheck F ins
  else if z29 F p cs vs last≠0 then z29 F p cs vs last else if z4d now last=true then 0 else 4:=by rw[hg];rfl
 have hset:z2k g=0->SetOk F p ins now cs last/\vs.length=F.length:=fun h=>by have:=zf1 h;rw[hg] at this;exact this
 have hee:engErr g=if z2k g≠0 then z2k g else if (setE g).ltrs=[]/\(setE g).calls=cs/\(setE g).vals=vs then 0 else 15:=by rw[hg];rfl
 have h6':∀ w,REn w B m d F A n c P A1 n1 c1 ins A2 n2 c2 cs A3 n3 c3 vs->SetOk F p ins now cs last->vs.length=F.length->Calls Tryz.prog 45 #[.agg #[.slice B m d,.slice A n c,.int .i64 p.tries,.int .i64 p.base,.int .i64 p.cap,.slice A1 n1 c1,.slice A2 n2 c2,.slice A3 n3 c3,.int .i64 now,.int .i64 last]] w fun e w'=>∃ B d A c A1 c1 A2 c2 A3 c3 A4 c4,e=.returned (.tuple #[.agg #[.slice B F.length d,.slice A P.length c,.int .i64 p.tries,.int .i64 p.base,.int .i64 p.cap,.slice A1 ins.length c1,.slice A2 (setE g).calls.length c2,.slice A3 (setE g).vals.length c3,.int .i64 now,.int .i64 (setE g).last],.slice A4 (setE g).ltrs.length c4]) /\
   Sl w' (old w') 10 RCll A2 (setE g).calls.length (setE g).calls/\Sl w' (old w') 3 RVal A3 (setE g).vals.length (setE g).vals/\Below w.heap.size w w':=by
  intro w h hok hvl
  refine (h6 w h hok hvl).mono ?_
  rintro e w' ⟨⟨B,d,A,c,A1,c1,A2,c2,A3,c3,A4,c4,h1,_,_,_,_,h2,h3,_⟩,hb⟩
  rw[<-hg] at h1 h2 h3
  exact⟨B,d,A,c,A1,c1,A2,c2,A3,c3,A4,c4,by rw[h1,hg];rfl,h2.mono (fun _ h=>h.2),h3.mono (fun _ h=>h.2),hb⟩
 have hlen:z2k g=0->(setE g).calls.length=F.length/\(setE g).vals.length=F.length:=fun h=>by
  obtain⟨h1,h2⟩:=hset h
  have h3:=(z5m (vs:=vs) h1 h2 (nr _)).2.1
  rw[hg]
  exact⟨h3.cl,h3.vl⟩
 have HLEN:=zh hlen
 rw[<-hg]
 clear h6 hg hlen
 obtain⟨er,her⟩:∃ er,er=engErr g:=⟨_,rfl⟩
 rw[<-her]
 rw[show (⟨p.tries,p.base,p.cap⟩:Pol)=p from rfl] at h2
 generalize formErr F P=e1 at h1 he0
 generalize gapCheck p=e2 at h2 he0
 generalize factsCheck F ins=e3 at h3 he0
 have hml:=hX.1.2.2.2.2.1.len
 have hcl:=hX.2.2.1.2.2.len
 have hvl:=hX.2.2.2.2.2.len
 have hn2:=hX.2.2.1.1.l (by decide)
 unfold inL at hn2
 have HX:=zh hX
 by_cases z1:e1=0
 ·by_cases z2:e2=0
  ·by_cases z3:e3=0
   ·have he4:z2k g=if z29 F p cs vs last≠0 then z29 F p cs vs last else if z4d now last=true then 0 else 4:=by rw[he0,if_neg (by simpa using z1),if_neg (by simpa using z2),if_neg (by simpa using z3)]
    have hbad:∀ v,v≠0->z29 F p cs vs last=v->er=v:=fun v hv h=>by
     have h0:z2k g=v:=by rw[he4,h,if_pos hv]
     rw[her,hee,h0,if_pos hv]
    have g18:(e1 != 0)=false:=by simpa using z1
    have g24:(e2 != 0)=false:=by simpa using z2
    have g32:(e3 != 0)=false:=by simpa using z3
    by_cases k1:n2=m
    ·have g42:((n2:Int) != (m:Int))=false:=by rw[k1];simp
     by_cases k2:n3=m
     ·have g48:((n3:Int) != (m:Int))=false:=by rw[k2];simp
      have hce:z29 F p cs vs last=z0g (z5d F p last cs) n2:=by unfold z29;rw[if_neg (by omega),hcl]
      rw[hce] at he4 hbad
      have HBAD:=zh hbad
      have HE:=zh (ai he4 (ai hset (ai hee (ai her (ai hml (ai hcl (ai hvl (ai k1 k2))))))))
      have hkm:∀ k,k<n2->k<m:=fun k hk=>by omega
      have hkm3:∀ k,k<m->k<n2/\k<n3:=fun k hk=>by omega
      clear hX he0 he4 hbad hset hee her hml hcl hvl hce k1 k2 z1 z2 z3
      go_enter Tryz.func14,Tryz.ntmps14
      go_upto_region 13 with (first
       | (go_at_call 26;refine (h1 _ (HX.out.now bel)).mono ?_;rintro e w1 ⟨rfl,hb1⟩;refine zb hb1 ?_;rintro ⟨hc1,hf1⟩ hz1 hy1 _;refine szz w1 w ?_;intros)
       | (go_at_call 27;refine (h2 _).mono ?_;rintro e w2 ⟨rfl,hb2⟩;refine zb hb2 ?_;rintro ⟨hc2,hf2⟩ hz2 hy2 _;refine szz w2 w ?_;intros;refine szz w2 w1 ?_;intros)
       | (go_at_call 42;refine (h3 _ (HX.out.now bel)).mono ?_;rintro e w3 ⟨rfl,hb3⟩;refine zb hb3 ?_;rintro ⟨hc3,hf3⟩ hz3 hy3 hx3;refine szz w3 w ?_;intros;refine szz w3 w1 ?_;intros;refine szz w3 w2 ?_;intros))
      refine z0k ?_;intro W0 hW0
      have hB0:Below w.heap.size w W0:=by rw[hW0];exact bel
      have hl0:w.heap.size<W0.heap.size:=by rw[hW0];(have:=hb1.size;have:=hb2.size;have:=hb3.size;simp at *;omega)
      have d0:W0.cell? ⟨w.heap.size,0,none⟩=some (.slice B m d):=by rw[hW0];go_simp
      have d1:W0.cell? ⟨w.heap.size,1,none⟩=some (.slice A n c):=by rw[hW0];go_simp
      have d2:W0.cell? ⟨w.heap.size,2,none⟩=some (.int .i64 p.tries):=by rw[hW0];go_simp
      have d3:W0.cell? ⟨w.heap.size,3,none⟩=some (.int .i64 p.base):=by rw[hW0];go_simp
      have d4:W0.cell? ⟨w.heap.size,4,none⟩=some (.int .i64 p.cap):=by rw[hW0];go_simp
      have d5:W0.cell? ⟨w.heap.size,5,none⟩=some (.slice A1 n1 c1):=by rw[hW0];go_simp
      have d6:W0.cell? ⟨w.heap.size,6,none⟩=some (.slice A2 n2 c2):=by rw[hW0];go_simp
      have d7:W0.cell? ⟨w.heap.size,7,none⟩=some (.slice A3 n3 c3):=by rw[hW0];go_simp
      have d8:W0.cell? ⟨w.heap.size,8,none⟩=some (.int .i64 now):=by rw[hW0];go_simp
      have d9:W0.cell? ⟨w.heap.size,9,none⟩=some (.int .i64 last):=by rw[hW0];go_simp
      clear hW0 hb1 hb2 hb3 hc1 hc2 hc3 hf1 hf2 hf3 h1 h2 h3
      go_wp2_with fail
      go_loopw [53] (fun i wr=>∃ k:Nat,k<=n2/\i=.int .i64 k/\Hid (z0g (z5d F p last cs) k=0)/\Below W0.heap.size W0 wr) (fun i _=>n2-(intOf i).toNat)
      case atStart=>exact⟨0,by omega,rfl,zh rfl,Below.refl _ _⟩
      case round =>
       obtain⟨k,hk,rfl,hz,hbr⟩:=hrel
       have hBr:Below w.heap.size w wr:=z01 hB0 hbr hB0.size
       have hlr:w.heap.size<wr.heap.size:=Nat.lt_of_lt_of_le hl0 hbr.size
       by_cases hlt:k<n2
       ·obtain⟨b,o,x,hAe,hbl,hlx,hwf,y0,y1,y2,y3,y4,y5,y6,y7,y8,y9⟩:=Cll_at (HX.out.2.2.1.2.2.now hBr) hlt
        subst hAe
        have hbl':b<wr.heap.size:=hbl
        have hkm':=hkm k hlt
        obtain⟨b2,o2,f,X,C,hBe,hbl2,hlf,hrep,x0,x1,x2,x3,x4,x5,x6,x7,x8⟩:=z25 HX.out.1.2.2.2.2.1 hkm'
        have HBE:=zh hBe
        subst hBe
        have hbl3:b2<w.heap.size:=hbl2
        have hbl4:b2<wr.heap.size:=Nat.lt_of_lt_of_le hbl3 hBr.size
        replace x0:=z00 x0 hBr
        replace x1:=z00 x1 hBr
        replace x2:=z00 x2 hBr
        replace x3:=z00 x3 hBr
        replace x4:=z00 x4 hBr
        replace x5:=z00 x5 hBr
        replace x6:=z00 x6 hBr
        replace x7:=z00 x7 hBr
        replace x8:=z00 x8 hBr
        have r0:=z00 d0 hbr
        have r2:=z00 d2 hbr
        have r3:=z00 d3 hbr
        have r4:=z00 d4 hbr
        have r6:=z00 d6 hbr
        have r9:=z00 d9 hbr
        have hch:=fun w=>z15 x.state x.id x.tries x.key.k x.key.n x.key.s x.has.k x.has.n x.has.s x.next p.tries p.base p.cap w (z0s hwf.2.2.2.1.2.2) (z0s hwf.2.2.2.2.1.2.2)
        simp only[show (⟨x.state,x.id,x.tries,⟨x.key.k,x.key.n,x.key.s⟩,⟨x.has.k,x.has.n,x.has.s⟩,x.next⟩:Cll)=x from rfl,show (⟨p.tries,p.base,p.cap⟩:Pol)=p from rfl] at hch
        have HL:=zh (ai hlx (ai hlf (zaw (p:=p) (last:=last) hlx hlf)))
        have hki:(k:Int)<(m:Int):=by omega
        clear hlx hlf hrep hwf hbl hbl2
        obtain⟨ce,hce⟩:∃ ce,ce=z07 x p:=⟨_,rfl⟩
        rw[<-hce] at hch
        by_cases hv:ce=0
        ·have g63:(ce != 0)=false:=by simpa using hv
         have HC:=zh (show z07 x p=0 from hce.symm.trans hv)
         have hst0:=zgz HC.out
         clear hce hv
         by_cases q0:x.state=0
         ·have g73:decide (0<x.state)=false:=decide_eq_false (by omega)
          have g73':¬ 0<x.state:=by omega
          have g94:(x.state==2)=false:=by rw[q0];rfl
          by_cases q2:last<x.id
          ·have g84:decide (last<x.id)=true:=decide_eq_true q2
           have HQ:=zh (z84 (last:=last) (f:=f) HC.out (fun h=>by exact h.1 q0))
           clear q0
           go_wp2_with (go_at_call 43;refine (hch _).mono ?_;rintro e w3 ⟨rfl,hb3⟩;refine zb hb3 ?_;rintro ⟨hc3,hf3⟩ hz3 hy3 hx3;refine szz w3 wr ?_;intros;refine szz w3 w ?_;intros)
           go_roundw
           case rel=>exact⟨k+1,by omega,by go_num,zh (z0i hz.out (HL.out.2.2.trans HQ.out)),z01 hbr (show Below wr.heap.size wr _ from bel) hbr.size⟩
           case measure=>simp[intOf];omega
          have g84:decide (last<x.id)=false:=decide_eq_false q2
          have HQ:=zh (z84 (last:=last) (f:=f) HC.out (fun h=>by exact h.1 q0))
          clear q0
          go_wp2_with (go_at_call 43;refine (hch _).mono ?_;rintro e w3 ⟨rfl,hb3⟩;refine zb hb3 ?_;rintro ⟨hc3,hf3⟩ hz3 hy3 hx3;refine szz w3 wr ?_;intros;refine szz w3 w ?_;intros)
          go_roundw
          case rel=>exact⟨k+1,by omega,by go_num,zh (z0i hz.out (HL.out.2.2.trans HQ.out)),z01 hbr (show Below wr.heap.size wr _ from bel) hbr.size⟩
          case measure=>simp[intOf];omega
         have g73:decide (0<x.state)=true:=decide_eq_true (by omega)
         have g73':0<x.state:=by omega
         by_cases q1:f.kind=3
         ·have g77:(f.kind != 3)=false:=by simpa using q1
          by_cases q2:last<x.id
          ·have g84:decide (last<x.id)=true:=decide_eq_true q2
           have HQ:=zh (z7x (last:=last) (f:=f) HC.out ⟨q0,.inr (.inl q2)⟩)
           clear q0 q1
           go_wp2_with (go_at_call 43;refine (hch _).mono ?_;rintro e w3 ⟨rfl,hb3⟩;refine zb hb3 ?_;rintro ⟨hc3,hf3⟩ hz3 hy3 hx3;refine szz w3 wr ?_;intros;refine szz w3 w ?_;intros)
           refine bpr Tryz.results14 (.int .i64 15) ?_
           rw[HBAD.out 15 (by decide) (by rw[z0j hz.out (by rw[HL.out.2.2,HQ.out];decide) _ hlt,HL.out.2.2,HQ.out])]
           exact⟨rfl,z01 hBr (show Below wr.heap.size wr _ from bel) hBr.size⟩
          have g84:decide (last<x.id)=false:=decide_eq_false q2
          by_cases q3:x.state=2
          ·have g94:(x.state==2)=true:=by simpa using q3
           by_cases q4:x.has.k=f.type
           ·have g101:(x.has.k != f.type)=false:=by simpa using q4
            have HQ:=zh (z84 (last:=last) (f:=f) HC.out (fun h=>by rcases h.2 with h | h | h;exact h q1;exact q2 h;exact h.2 q4))
            clear q0 q1 q3 q4
            go_wp2_with (go_at_call 43;refine (hch _).mono ?_;rintro e w3 ⟨rfl,hb3⟩;refine zb hb3 ?_;rintro ⟨hc3,hf3⟩ hz3 hy3 hx3;refine szz w3 wr ?_;intros;refine szz w3 w ?_;intros)
            go_roundw
            case rel=>exact⟨k+1,by omega,by go_num,zh (z0i hz.out (HL.out.2.2.trans HQ.out)),z01 hbr (show Below wr.heap.size wr _ from bel) hbr.size⟩
            case measure=>simp[intOf];omega
           have g101:(x.has.k != f.type)=true:=by simpa using q4
           have HQ:=zh (z7x (last:=last) (f:=f) HC.out ⟨q0,.inr (.inr ⟨q3,q4⟩)⟩)
           clear q0 q1 q3 q4
           go_wp2_with (go_at_call 43;refine (hch _).mono ?_;rintro e w3 ⟨rfl,hb3⟩;refine zb hb3 ?_;rintro ⟨hc3,hf3⟩ hz3 hy3 hx3;refine szz w3 wr ?_;intros;refine szz w3 w ?_;intros)
           refine bpr Tryz.results14 (.int .i64 15) ?_
           rw[HBAD.out 15 (by decide) (by rw[z0j hz.out (by rw[HL.out.2.2,HQ.out];decide) _ hlt,HL.out.2.2,HQ.out])]
           exact⟨rfl,z01 hBr (show Below wr.heap.size wr _ from bel) hBr.size⟩
          have g94:(x.state==2)=false:=by simpa using q3
          have HQ:=zh (z84 (last:=last) (f:=f) HC.out (fun h=>by rcases h.2 with h | h | h;exact h q1;exact q2 h;exact q3 h.1))
          clear q0 q1 q3
          go_wp2_with (go_at_call 43;refine (hch _).mono ?_;rintro e w3 ⟨rfl,hb3⟩;refine zb hb3 ?_;rintro ⟨hc3,hf3⟩ hz3 hy3 hx3;refine szz w3 wr ?_;intros;refine szz w3 w ?_;intros)
          go_roundw
          case rel=>exact⟨k+1,by omega,by go_num,zh (z0i hz.out (HL.out.2.2.trans HQ.out)),z01 hbr (show Below wr.heap.size wr _ from bel) hbr.size⟩
          case measure=>simp[intOf];omega
         have g77:(f.kind != 3)=true:=by simpa using q1
         have HQ:=zh (z7x (last:=last) (f:=f) HC.out ⟨q0,.inl q1⟩)
         clear q0 q1
         go_wp2_with (go_at_call 43;refine (hch _).mono ?_;rintro e w3 ⟨rfl,hb3⟩;refine zb hb3 ?_;rintro ⟨hc3,hf3⟩ hz3 hy3 hx3;refine szz w3 wr ?_;intros;refine szz w3 w ?_;intros)
         refine bpr Tryz.results14 (.int .i64 15) ?_
         rw[HBAD.out 15 (by decide) (by rw[z0j hz.out (by rw[HL.out.2.2,HQ.out];decide) _ hlt,HL.out.2.2,HQ.out])]
         exact⟨rfl,z01 hBr (show Below wr.heap.size wr _ from bel) hBr.size⟩
        have g63:(ce != 0)=true:=by simpa using hv
        have HC:=zh (ai hce hv)
        clear hce hv
        go_wp2_with (go_at_call 43;refine (hch _).mono ?_;rintro e w3 ⟨rfl,hb3⟩;refine zb hb3 ?_;rintro ⟨hc3,hf3⟩ hz3 hy3 hx3;refine szz w3 wr ?_;intros)
        refine bpr Tryz.results14 (.int .i64 ce) ?_
        have he:z5d F p last cs k=ce:=by rw[HL.out.2.2,engCall_bad (by rw[<-HC.out.1];exact HC.out.2),<-HC.out.1]
        rw[HBAD.out ce HC.out.2 (by rw[z0j hz.out (by rw[he];exact HC.out.2) _ hlt,he])]
        exact⟨rfl,z01 hBr (show Below wr.heap.size wr _ from bel) hBr.size⟩
       have hke:k=n2:=by omega
       subst hke
       have hzz:=hz.out
       have hcn:z2k g=if z4d now last=true then 0 else 4:=by rw[HE.out.1,hzz,if_neg (by simp)]
       replace d0:=z00 d0 hbr
       replace d1:=z00 d1 hbr
       replace d2:=z00 d2 hbr
       replace d3:=z00 d3 hbr
       replace d4:=z00 d4 hbr
       replace d5:=z00 d5 hbr
       replace d6:=z00 d6 hbr
       replace d7:=z00 d7 hbr
       replace d8:=z00 d8 hbr
       replace d9:=z00 d9 hbr
       cases hnk:z4d now last
       ·rw[hnk] at h5
        have hh:er=4:=by rw[HE.out.2.2.2.1,HE.out.2.2.1,hcn,hnk];rfl
        have HH:=zh hh
        clear hh hcn hnk hzz hz
        go_wp2_with (go_at_call 44;refine (h5 _).mono ?_;rintro e w4 ⟨rfl,hb4⟩;refine zb hb4 ?_;rintro ⟨hc4,hf4⟩ hz4 hy4 hx4;refine szz w4 wr ?_;intros)
        refine bpr Tryz.results14 (.int .i64 4) ?_
        rw[HH.out]
        exact⟨rfl,z01 hBr (show Below wr.heap.size wr _ from bel) hBr.size⟩
       rw[hnk] at h5
       have h0:z2k g=0:=by rw[hcn,hnk];rfl
       obtain⟨hok,hvl⟩:=HE.out.2.1 h0
       have her:=HE.out.2.2.2.1
       rw[HE.out.2.2.1,h0,if_neg (by simp)] at her
       obtain⟨hsl1,hsl2⟩:=HLEN.out h0
       obtain⟨s,hs⟩:∃ s,s=setE g:=⟨_,rfl⟩
       rw[<-hs] at her h6' hsl1 hsl2
       have h7:=fun w h=>h6' w h hok hvl
       have HS:=zh (ai her (ai hsl1 hsl2))
       have hle:∀ j,j<m->j<s.calls.length/\j<s.vals.length/\j<k/\j<n3:=fun j hj=>by have:=HE.out.2.2.2.2.1;have:=hkm3 j hj;omega
       clear hcn hnk hzz hz h0 hok hvl her hs h6' hsl1 hsl2
       go_upto_region 26 with (first
        | (go_at_call 44;refine (h5 _).mono ?_;rintro e w4 ⟨rfl,hb4⟩;refine zb hb4 ?_;rintro ⟨hc4,hf4⟩ hz4 hy4 hx4;refine szz w4 wr ?_;intros)
        | (go_at_call 45;refine (h7 _ (HX.out.now (z08 hBr (show Below wr.heap.size wr _ from bel)))).mono ?_;rintro e w5 ⟨Bq,dq,Aq,cq,Aq1,cq1,Aq2,cq2,Aq3,cq3,Aq4,cq4,rfl,hsc,hsv,hb5⟩;refine zb hb5 ?_;rintro ⟨hc5,hf5⟩ hz5 hy5 hx5;refine szz w5 wr ?_;intros;refine szz w5 w4 ?_;intros))
       refine z0k ?_;intro W6 hW6
       have hB6:Below wr.heap.size wr W6:=by rw[hW6];exact bel
       have hb56:Below w5.heap.size w5 W6:=by rw[hW6];exact bel
       have u6:W6.cell? ⟨w5.heap.size,6,none⟩=some (.slice Aq2 s.calls.length cq2):=by rw[hW6];first | exact (by first | (go_simp;done) | (go_simp;exact World.cell?_setCell_same' _ _ _ (by go_simp))) | go_simp
       have u7:W6.cell? ⟨w5.heap.size,7,none⟩=some (.slice Aq3 s.vals.length cq3):=by rw[hW6];first | exact (by first | (go_simp;done) | (go_simp;exact World.cell?_setCell_same' _ _ _ (by go_simp))) | go_simp
       have hl56:w5.heap.size<W6.heap.size:=by rw[hW6];simp
       have hl6:w.heap.size<W6.heap.size:=by have:=hB6.size;omega
       replace d6:=z00 d6 hB6
       replace d7:=z00 d7 hB6
       have HB6:=zh (z08 hBr hB6)
       have HSV:=zh (ai (hsc.now hb56) (hsv.now hb56))
       clear hW6 hb4 hb5 hc4 hc5 hf4 hf5 hsc hsv d0 d1 d2 d3 d4 d5 d8 d9 hB6 hb56 h7 h5
       by_cases hn:s.ltrs=[]
       ·have gl:decide ((0:Int)<(s.ltrs.length:Int))=false:=by rw[hn];rfl
        have gl':s.ltrs.length=0:=by rw[hn];rfl
        have HN:=zh hn
        clear hn
        go_wp2_with fail
        go_loopw [13] (fun i wq=>∃ j:Nat,j<=m/\i=.int .i64 j/\Hid (∀ t,t<j->s.calls[t]?=cs[t]?/\s.vals[t]?=vs[t]?)/\Below W6.heap.size W6 wq) (fun i _=>m-(intOf i).toNat)
        case atStart=>exact⟨0,by omega,rfl,zh (fun t h=>absurd h (by omega)),Below.refl _ _⟩
        case round =>
         obtain⟨j,hj,rfl,heq,hbq⟩:=hrel
         generalize hwq:wr=wq at *
         clear hwq
         have v6:=z00 u6 hbq
         have v7:=z00 u7 hbq
         have c6:=z00 d6 hbq
         have c7:=z00 d7 hbq
         have hlq:w.heap.size<wq.heap.size:=Nat.lt_of_lt_of_le hl6 hbq.size
         have hlq5:w5.heap.size<wq.heap.size:=Nat.lt_of_lt_of_le hl56 hbq.size
         have hBq:Below w.heap.size w wq:=z08 HB6.out hbq
         by_cases hlt2:j<m
         ·obtain⟨i1,i2,i3,i4⟩:=hle j hlt2
          obtain⟨b1,o1,x,hA1,hl1,hx1,_,x0,x1,x2,x3,x4,x5,x6,x7,x8,x9⟩:=Cll_at (HSV.out.1.now hbq) i1
          subst hA1
          obtain⟨b2,o2,y,hA2,hl2,hy1,_,y0,y1,y2,y3,y4,y5,y6,y7,y8,y9⟩:=Cll_at (HX.out.2.2.1.2.2.now hBq) i3
          subst hA2
          obtain⟨b3,o3,x',hA3,hl3,hx2,_,xx0,xx1,xx2⟩:=z2t (HSV.out.2.now hbq) i2
          subst hA3
          obtain⟨b4,o4,y',hA4,hl4,hy2,_,yy0,yy1,yy2⟩:=z2t (HX.out.2.2.2.2.2.now hBq) i4
          subst hA4
          have hl1':b1<wq.heap.size:=hl1
          have hl2':b2<wq.heap.size:=hl2
          have hl3':b3<wq.heap.size:=hl3
          have hl4':b4<wq.heap.size:=hl4
          have j1:(j:Int)<(s.calls.length:Int):=by omega
          have j2:(j:Int)<(s.vals.length:Int):=by omega
          have j3:(j:Int)<(k:Int):=by omega
          have j4:(j:Int)<(n3:Int):=by omega
          have j5:(j:Int)<(m:Int):=by omega
          have n1q:=fun w=>run_neq_CllR w x y
          have n2q:=fun w=>zgm w x' y'
          have HXY:=zh (ai hx1 (ai hy1 (ai hx2 hy2)))
          clear hl1 hl2 hl3 hl4 hx1 hy1 hx2 hy2 i1 i2 i3 i4
          cases he:cllEqR x y
          ·have hne:¬ s.calls=cs:=fun h=>by
            have h1:=HXY.out.1
            rw[h,HXY.out.2.1] at h1
            have h2:=(cllEqR_iff x y).2 (Option.some.inj h1).symm
            rw[he] at h2
            cases h2
           have HH:=zh (show er=15 by rw[HS.out.1,if_neg (fun h=>hne h.2.1)])
           clear hne
           go_wp2_with fail
           go_quiet (fail)
           go_wp2_with fail
           refine bpr Tryz.results14 (.int .i64 15) ?_
           rw[HH.out]
           exact⟨rfl,z08 HB6.out (z01 hbq (show Below wq.heap.size wq _ from bel) hbq.size)⟩
          have hxy:=(cllEqR_iff x y).1 he
          cases he2:zgs x' y'
          ·have hne:¬ s.vals=vs:=fun h=>by
            have h1:=HXY.out.2.2.1
            rw[h,HXY.out.2.2.2] at h1
            have h2:=(zc0 x' y').2 (Option.some.inj h1).symm
            rw[he2] at h2
            cases h2
           have HH:=zh (show er=15 by rw[HS.out.1,if_neg (fun h=>hne h.2.2)])
           clear hne hxy
           go_wp2_with fail
           go_quiet (fail)
           go_wp2_with fail
           refine bpr Tryz.results14 (.int .i64 15) ?_
           rw[HH.out]
           exact⟨rfl,z08 HB6.out (z01 hbq (show Below wq.heap.size wq _ from bel) hbq.size)⟩
          have hxy2:=(zc0 x' y').1 he2
          have HNX:=zh (show ∀ t,t<j+1->s.calls[t]?=cs[t]?/\s.vals[t]?=vs[t]? from fun t ht=>by
           by_cases htj:t=j
           ·rw[htj,HXY.out.1,HXY.out.2.1,HXY.out.2.2.1,HXY.out.2.2.2,hxy,hxy2];exact⟨rfl,rfl⟩
           exact heq.out t (by omega))
          clear hxy hxy2
          go_wp2_with fail
          go_quiet (fail)
          go_wp2_with fail
          go_roundw
          case rel=>exact⟨j+1,by omega,by go_num,HNX,z01 hbq (show Below wq.heap.size wq _ from bel) hbq.size⟩
          case measure=>simp[intOf];omega
         have hje:j=m:=by omega
         have hc:s.calls=cs:=List.ext_getElem? fun t=>by
          rcases Nat.lt_or_ge t m with h | h
          ·exact (heq.out t (by omega)).1
          rw[List.getElem?_eq_none (by rw[HS.out.2.1,HE.out.2.2.2.2.1];exact h),List.getElem?_eq_none (by rw[HE.out.2.2.2.2.2.1];have:=HE.out.2.2.2.2.2.2.2.1;omega)]
         have hv:s.vals=vs:=List.ext_getElem? fun t=>by
          rcases Nat.lt_or_ge t m with h | h
          ·exact (heq.out t (by omega)).2
          rw[List.getElem?_eq_none (by rw[HS.out.2.2,HE.out.2.2.2.2.1];exact h),List.getElem?_eq_none (by rw[HE.out.2.2.2.2.2.2.1];have:=HE.out.2.2.2.2.2.2.2.2;omega)]
         have HH:=zh (show er=0 by rw[HS.out.1,if_pos ⟨HN.out,hc,hv⟩])
         have g118:¬ (j:Int)<(m:Int):=by omega
         clear hc hv hje
         go_wp2_with fail
         refine bpr Tryz.results14 (.int .i64 0) ?_
         rw[HH.out]
         exact⟨rfl,hBq⟩
       have gl:decide ((0:Int)<(s.ltrs.length:Int))=true:=by
        have:0<s.ltrs.length:=List.length_pos_iff.2 hn
        exact decide_eq_true (by omega)
       have gl':0<s.ltrs.length:=List.length_pos_iff.2 hn
       have HH:=zh (show er=15 by rw[HS.out.1,if_neg (fun h=>hn h.1)])
       clear hn
       go_wp2_with fail
       refine bpr Tryz.results14 (.int .i64 15) ?_
       rw[HH.out]
       exact⟨rfl,HB6.out⟩
     have g48:((n3:Int) != (m:Int))=true:=by rw[bne_iff_ne];omega
     have hh:=hbad 1 (by decide) (by unfold z29;rw[if_pos (by omega)])
     have HH:=zh hh
     clear hX he0 he4 hbad hset hee her hml hcl hvl hh k1 k2 z1 z2 z3 hn2
     go_enter Tryz.func14,Tryz.ntmps14
     go_wp2_with (first
      | (go_at_call 26;refine (h1 _ (HX.out.now bel)).mono ?_;rintro e w1 ⟨rfl,hb1⟩;refine zb hb1 ?_;rintro ⟨hc1,hf1⟩ hz1 hy1 _;refine szz w1 w ?_;intros)
      | (go_at_call 27;refine (h2 _).mono ?_;rintro e w2 ⟨rfl,hb2⟩;refine zb hb2 ?_;rintro ⟨hc2,hf2⟩ hz2 hy2 _;refine szz w2 w ?_;intros;refine szz w2 w1 ?_;intros)
      | (go_at_call 42;refine (h3 _ (HX.out.now bel)).mono ?_;rintro e w3 ⟨rfl,hb3⟩;refine zb hb3 ?_;rintro ⟨hc3,hf3⟩ hz3 hy3 hx3;refine szz w3 w ?_;intros;refine szz w3 w1 ?_;intros;refine szz w3 w2 ?_;intros))
     refine bpr Tryz.results14 (.int .i64 1) ?_
     rw[HH.out]
     exact⟨rfl,bel⟩
    have g42:((n2:Int) != (m:Int))=true:=by rw[bne_iff_ne];omega
    have hh:=hbad 1 (by decide) (by unfold z29;rw[if_pos (by omega)])
    have HH:=zh hh
    clear hX he0 he4 hbad hset hee her hml hcl hvl hh k1 z1 z2 z3 hn2
    go_enter Tryz.func14,Tryz.ntmps14
    go_wp2_with (first
     | (go_at_call 26;refine (h1 _ (HX.out.now bel)).mono ?_;rintro e w1 ⟨rfl,hb1⟩;refine zb hb1 ?_;rintro ⟨hc1,hf1⟩ hz1 hy1 _;refine szz w1 w ?_;intros)
     | (go_at_call 27;refine (h2 _).mono ?_;rintro e w2 ⟨rfl,hb2⟩;refine zb hb2 ?_;rintro ⟨hc2,hf2⟩ hz2 hy2 _;refine szz w2 w ?_;intros;refine szz w2 w1 ?_;intros)
     | (go_at_call 42;refine (h3 _ (HX.out.now bel)).mono ?_;rintro e w3 ⟨rfl,hb3⟩;refine zb hb3 ?_;rintro ⟨hc3,hf3⟩ hz3 hy3 hx3;refine szz w3 w ?_;intros;refine szz w3 w1 ?_;intros;refine szz w3 w2 ?_;intros))
    refine bpr Tryz.results14 (.int .i64 1) ?_
    rw[HH.out]
    exact⟨rfl,bel⟩
   have g18:(e1 != 0)=false:=by simpa using z1
   have g24:(e2 != 0)=false:=by simpa using z2
   have g32:(e3 != 0)=true:=by simpa using z3
   have h0:z2k g=e3:=by rw[he0];rw[if_neg (by simpa using z1),if_neg (by simpa using z2),if_pos z3]
   have hh:er=e3:=by rw[her,hee,h0,if_pos z3]
   have HH:=zh hh
   clear hX he0 hset hee her hml hcl hvl h0 hh hn2 z1 z2 z3
   go_enter Tryz.func14,Tryz.ntmps14
   go_wp2_with (first
    | (go_at_call 26;refine (h1 _ (HX.out.now bel)).mono ?_;rintro e w1 ⟨rfl,hb1⟩;refine zb hb1 ?_;rintro ⟨hc1,hf1⟩ hz1 hy1 _;refine szz w1 w ?_;intros)
    | (go_at_call 27;refine (h2 _).mono ?_;rintro e w2 ⟨rfl,hb2⟩;refine zb hb2 ?_;rintro ⟨hc2,hf2⟩ hz2 hy2 _;refine szz w2 w ?_;intros;refine szz w2 w1 ?_;intros)
    | (go_at_call 42;refine (h3 _ (HX.out.now bel)).mono ?_;rintro e w3 ⟨rfl,hb3⟩;refine zb hb3 ?_;rintro ⟨hc3,hf3⟩ hz3 hy3 hx3;refine szz w3 w ?_;intros;refine szz w3 w1 ?_;intros;refine szz w3 w2 ?_;intros))
   refine bpr Tryz.results14 (.int .i64 e3) ?_
   rw[HH.out]
   exact⟨rfl,bel⟩
  have g18:(e1 != 0)=false:=by simpa using z1
  have g24:(e2 != 0)=true:=by simpa using z2
  have h0:z2k g=e2:=by rw[he0];rw[if_neg (by simpa using z1),if_pos z2]
  have hh:er=e2:=by rw[her,hee,h0,if_pos z2]
  have HH:=zh hh
  clear hX he0 hset hee her hml hcl hvl h0 hh hn2 z1 z2
  go_enter Tryz.func14,Tryz.ntmps14
  go_wp2_with (first
   | (go_at_call 26;refine (h1 _ (HX.out.now bel)).mono ?_;rintro e w1 ⟨rfl,hb1⟩;refine zb hb1 ?_;rintro ⟨hc1,hf1⟩ hz1 hy1 _;refine szz w1 w ?_;intros)
   | (go_at_call 27;refine (h2 _).mono ?_;rintro e w2 ⟨rfl,hb2⟩;refine zb hb2 ?_;rintro ⟨hc2,hf2⟩ hz2 hy2 _;refine szz w2 w ?_;intros;refine szz w2 w1 ?_;intros))
  refine bpr Tryz.results14 (.int .i64 e2) ?_
  rw[HH.out]
  exact⟨rfl,bel⟩
 have g18:(e1 != 0)=true:=by simpa using z1
 have h0:z2k g=e1:=by rw[he0];rw[if_pos z1]
 have hh:er=e1:=by rw[her,hee,h0,if_pos z1]
 have HH:=zh hh
 clear hX he0 hset hee her hml hcl hvl h0 hh hn2 z1
 go_enter Tryz.func14,Tryz.ntmps14
 go_wp2_with (go_at_call 26;refine (h1 _ (HX.out.now bel)).mono ?_;rintro e w1 ⟨rfl,hb1⟩;refine zb hb1 ?_;rintro ⟨hc1,hf1⟩ hz1 hy1 _;refine szz w1 w ?_;intros)
 refine bpr Tryz.results14 (.int .i64 e1) ?_
 rw[HH.out]
 exact⟨rfl,bel⟩
end Go.Proofs.YtldhlpjjcnlbcaaGreat
