/- The reference's EngineTick. (printed by mkrft.py) -/
import Derived.Test.YtldhlpjjcnlbcaaGreatRfe3
import Derived.Test.YtldhlpjjcnlbcaaGreatRfe4
import Derived.Test.YtldhlpjjcnlbcaaGreatEngM
import Derived.Test.YtldhlpjjcnlbcaaGreatCall5r
import Derived.Test.YtldhlpjjcnlbcaaGreatRfe1
import Derived.Test.YtldhlpjjcnlbcaaGreatEngT
set_option maxRecDepth 100000
set_option maxHeartbeats 8000000
namespace Go.Proofs.YtldhlpjjcnlbcaaGreat
open Go.RowKit
theorem ref_EngineTick (B:Option Addr)(m d:Nat)(F:List Fld)(A:Option Addr)(n c:Nat)(P:List Pag)(p:Pol)(A1:Option Addr)(n1 c1:Nat)(ins:List Fct)(A2:Option Addr)(n2 c2:Nat)(cs:List Cll)(A3:Option Addr)(n3 c3:Nat)(vs:List Val)(now last:Int)(t:Int)(w:World)
  (hX:REn w B m d F A n c P A1 n1 c1 ins A2 n2 c2 cs A3 n3 c3 vs)(hO:z2i F)(ht:inI t) :
  Calls Tryz.prog 21 #[.agg #[.slice B m d,.slice A n c,.int .i64 p.tries,.int .i64 p.base,.int .i64 p.cap,.slice A1 n1 c1,.slice A2 n2 c2,.slice A3 n3 c3,.int .i64 now,.int .i64 last],.int .i64 t] w (RetEng w (tickE ⟨F,P,p,ins,cs,vs,now,last⟩ t)):=by
 have h1:=fun w h=>ref_EngineFault B m d F A n c P p A1 n1 c1 ins A2 n2 c2 cs A3 n3 c3 vs now last w h hO
 have h3:=fun w h=>zcg B m d F A n c P p A1 n1 c1 ins A2 n2 c2 cs A3 n3 c3 vs now last w h
 have hFm:F.length=m:=hX.1.2.2.2.2.1.len
 have hwf:(∀ x∈ins,x.wf)/\(∀ x∈cs,x.wf)/\(∀ x∈vs,x.wf):=⟨Sl.all_wf hX.2.1.2.2 fun _ _ h=>h.2,Sl.all_wf hX.2.2.1.2.2 fun _ _ h=>h.2,Sl.all_wf hX.2.2.2.2.2 fun _ _ h=>h.2⟩
 have hPl:inB 120 P.length:=by rw[hX.1.2.2.2.2.2.len];exact hX.1.2.2.1
 obtain⟨g,hg⟩:∃ g:Eng,g=⟨F,P,p,ins,cs,vs,now,last⟩:=⟨_,rfl⟩
 obtain⟨rr,hrr⟩:∃ rr,rr=tickE g t:=⟨_,rfl⟩
 rw[<-hg] at h1 ⊢
 rw[<-hrr]
 have HX:=zh hX
 by_cases z1:engErr g=0
 ·rw[z1] at h1
  obtain⟨hset0,hvl⟩:=zf1 (z85 z1)
  have h14:=form14 (zft (z85 z1)).1
  have hin:=facts_len (zft (z85 z1)).2.2.1
  have hout:=fun hn=>hrr.trans (tickE_out (n:=t) z1 hn)
  have hyes:=fun hn=>hrr.trans (tickE_yes (n:=t) z1 hn)
  rw[hg] at hset0 hvl hout hyes h14 hin
  dsimp only at hset0 hvl hout hyes h14 hin
  have hnow:=hset0.2.1
  have hcl:cs.length=F.length:=hset0.2.2.2.1
  have HE:=zh (ai hout (ai hyes (ai hset0 (ai hvl (ai hcl (ai hO (ai hwf (ai hPl (ai hFm (ai h14 hin))))))))))
  by_cases a1:t<1
  ·have g1:decide (t<1)=true:=decide_eq_true a1
   have HR:=zh (HE.out.1 (.inl a1))
   clear a1
   clear hX hg hrr z1 hwf hset0 hvl hcl hO hout hyes hnow h14 hin hFm h3 HE hPl
   go_enter Tryz.func21,Tryz.ntmps21
   go_wp2_with (go_at_call 14;refine (h1 _ (HX.out.now bel)).mono ?_;rintro e w1 ⟨rfl,hb1⟩;refine zb hb1 ?_;rintro ⟨hc1,hf1⟩ hz1 hy1 hx1;refine szz w1 w ?_;intros)
   refine bpr Tryz.results21 (.tuple #[.agg #[.slice none 0 0,.slice none 0 0,.int .i64 0,.int .i64 0,.int .i64 0,.slice none 0 0,.slice none 0 0,.slice none 0 0,.int .i64 0,.int .i64 0],.slice none 0 0,.int .i64 4]) ?_
   rw[HR.out]
   exact⟨EngIs.nil0 4 rfl,bel⟩
  have g1:decide (t<1)=false:=decide_eq_false a1
  by_cases a2:1000<t
  ·have g2:decide ((1000:Int)<t)=true:=decide_eq_true a2
   have HR:=zh (HE.out.1 (.inr (.inl a2)))
   clear a2
   clear hX hg hrr z1 hwf hset0 hvl hcl hO hout hyes hnow h14 hin hFm h3 HE hPl
   go_enter Tryz.func21,Tryz.ntmps21
   go_wp2_with (go_at_call 14;refine (h1 _ (HX.out.now bel)).mono ?_;rintro e w1 ⟨rfl,hb1⟩;refine zb hb1 ?_;rintro ⟨hc1,hf1⟩ hz1 hy1 hx1;refine szz w1 w ?_;intros)
   refine bpr Tryz.results21 (.tuple #[.agg #[.slice none 0 0,.slice none 0 0,.int .i64 0,.int .i64 0,.int .i64 0,.slice none 0 0,.slice none 0 0,.slice none 0 0,.int .i64 0,.int .i64 0],.slice none 0 0,.int .i64 4]) ?_
   rw[HR.out]
   exact⟨EngIs.nil0 4 rfl,bel⟩
  have g2:decide ((1000:Int)<t)=false:=decide_eq_false a2
  have hwt:IntKind.i64.wrap (now+t)=now+t:=IntWalk.i64_in _ (by omega)
  by_cases a3:1073741824-now<t
  ·have g3:decide (1073741824<now+t)=true:=decide_eq_true (by omega)
   have HR:=zh (HE.out.1 (.inr (.inr a3)))
   clear a3
   clear hX hg hrr z1 hwf hset0 hvl hcl hO hout hyes hnow h14 hin hFm h3 HE hPl
   go_enter Tryz.func21,Tryz.ntmps21
   go_wp2_with (go_at_call 14;refine (h1 _ (HX.out.now bel)).mono ?_;rintro e w1 ⟨rfl,hb1⟩;refine zb hb1 ?_;rintro ⟨hc1,hf1⟩ hz1 hy1 hx1;refine szz w1 w ?_;intros)
   refine bpr Tryz.results21 (.tuple #[.agg #[.slice none 0 0,.slice none 0 0,.int .i64 0,.int .i64 0,.int .i64 0,.slice none 0 0,.slice none 0 0,.slice none 0 0,.int .i64 0,.int .i64 0],.slice none 0 0,.int .i64 4]) ?_
   rw[HR.out]
   exact⟨EngIs.nil0 4 rfl,bel⟩
  have g3:decide (1073741824<now+t)=false:=decide_eq_false (by omega)
  have hset:=(tick_set (g:=g) (n:=t) z1 (by omega) (by rw[hg];dsimp only;omega)).1
  rw[hg] at hset
  dsimp only at hset
  have hnt:0<=now+t/\now+t<=1073741824:=by omega
  have HY:=zh (ai (HE.out.2.1 (fun h=>by omega)) (ai hset hnt))
  clear hFm hX hg hrr z1 hwf hset0 hvl hcl hO hout hyes hset a1 a2 a3 hnow h14 hin hnt hPl
  go_enter Tryz.func21,Tryz.ntmps21
  go_upto_region 9 with (first
   | (go_at_call 14;refine (h1 _ (HX.out.now bel)).mono ?_;rintro e w1 ⟨rfl,hb1⟩;refine zb hb1 ?_;rintro ⟨hc1,hf1⟩ hz1 hy1 hx1;refine szz w1 w ?_;intros)
   | (go_at_call 15;refine (h3 _ (HX.out.now bel)).mono ?_;rintro e w4 ⟨A5,c5,A6,c6,A7,c7,A8,c8,A9,c9,N0,N1,N2,rfl,hcop,hb4⟩;refine zb hb4 ?_;rintro ⟨hc4,hf4⟩ hz4 hy4 hx4;refine szz w4 w ?_;intros;refine szz w4 w1 ?_;intros))
  refine z0k ?_;intro W1 hW1
  rw[HE.out.2.2.2.2.1,HE.out.2.2.2.1,HE.out.2.2.2.2.2.2.2.2.1] at hW1
  obtain⟨M,hM⟩:∃ M,M=w4.heap.size:=⟨_,rfl⟩
  have hR1:RBOX W1 (w.heap.size+1):=by rw[hW1];and_intros<;>go_simp
  have hC1:EBX W1 M (.slice A5 m c5) (.slice A6 P.length c6) p (.slice A7 ins.length c7) (.slice A8 m c8) (.slice A9 m c9) (now+t) last:=by rw[hM,hW1];and_intros<;>go_simp
  have hB1:Below w.heap.size w W1:=by rw[hW1];exact bel
  have hb9:Below w4.heap.size w4 W1:=by
   rw[hW1]
   first
    | exact (Below.refl _ _).alloc (nr _) _
    | (refine z03 ?_ (nr _);exact (Below.refl _ _).alloc (nr _) _)
  have hz1:W1.heap.size=w4.heap.size+1:=by rw[hW1];simp
  have hw2:w.heap.size+2<=w1.heap.size:=by have:=hb1.size;simp at *;omega
  obtain⟨hln,k5,k6,k7,k8,k9,q7,q8,q9',n0,n4⟩:=cop_rows hcop hb9 HE.out.2.2.2.2.2.2.2.2.1 HE.out.2.2.2.2.1 HE.out.2.2.2.1
  rw[<-hM] at q7 q8 q9' n4 ⊢
  have hMl1:M<W1.heap.size:=by omega
  have HM:=zh (ai k5 (ai k6 (ai k7 (ai hR1 (ai q7 (ai q8 (ai q9' (ai n0 (ai n4 (ai hB1 (ai hln (ai hw2 (ai k9 (ai hC1 hM))))))))))))))
  have HG0:=zh (show W1.ownsRow N0 62 10 (.slice A8 m c8) m ((mapTo (fun c=>(z44 c p (now+t)).1) cs 0).flatMap Cll.cs) from k8)
  have z6:=hC1.2.2.2.2.2.2.1
  clear hW1 hcop hb1 hb4 hb9 hc1 hf1 hc4 hf4 h1 h3 hC1 hR1 k5 k6 k7 k8 k9 q7 q8 q9' n0 n4 hB1 hln hM hz1
  go_wp2_with fail
  go_loopw [9,44] (fun v i wr=>∃ k:Nat,k<=m/\i=.int .i64 k/\Hid (wr.ownsRow W1.heap.size 48 8 v (zal F p (now+t) cs k).length ((zal F p (now+t) cs k).flatMap Ltr.cs))/\Hid (wr.ownsRow N0 62 10 (.slice A8 m c8) m ((mapTo (fun c=>(z44 c p (now+t)).1) cs k).flatMap Cll.cs))/\Hid (∀ b,b<W1.heap.size->some b≠(Value.slice A8 m c8).ownBlock->wr.heap[b]?=W1.heap[b]?)/\Hid (Below N0 W1 wr)/\W1.heap.size<=wr.heap.size) (fun _ i _=>m-(intOf i).toNat)
  case atStart=>exact⟨0,Nat.zero_le _,rfl,zh (World.ownsRow_nil _ _ _ _),HG0,zh (fun _ _ _=>rfl),zh (Below.refl _ _),nr _⟩
  case round =>
   obtain⟨k,hk,rfl,hlt',hms,hfr,hbw,hzr⟩:=hrel
   obtain⟨Am,cm,rfl,hcm'⟩:=z4p hlt'.out
   have hMn:some M≠(Value.slice A8 m c8).ownBlock:=fun e=>by have:=(HM.out.2.2.2.2.2.1 M e.symm).2.1;omega
   have hEB:=HM.out.2.2.2.2.2.2.2.2.2.2.2.2.2.1.block (hfr.out M hMl1 hMn)
   by_cases hlt:k<m
   ·have hm0:0<m:=by omega
    have hm14:m<=14:=by have:=HE.out.2.2.2.2.2.2.2.2;omega
    have hkk:(k:Int)<(m:Int):=by omega
    obtain⟨c0,hc0⟩:∃ c0,cs[k]?=some c0:=⟨_,gq (by have:=HE.out.2.2.2.2.1;have:=HE.out.2.2.2.2.2.2.2.2.1;omega)⟩
    obtain⟨gc,kc,ec,_,_⟩:=hms.out.form hm0
    cases ec
    have hcm:(mapTo (fun c=>(z44 c p (now+t)).1) cs k)[k]?=some c0:=by rw[mapTo_at];exact hc0
    have hml:(mapTo (fun c=>(z44 c p (now+t)).1) cs k).length=m:=by rw[mapTo_len];have:=HE.out.2.2.2.2.1;have:=HE.out.2.2.2.2.2.2.2.2.1;omega
    have hnx:=mapTo_next (f:=fun c=>(z44 c p (now+t)).1) hc0
    have hok:=HE.out.2.2.1.2.2.2.2 c0 (List.mem_of_getElem? hc0)
    have hcw:=zar hok
    have hch:=fun w=>ref_CallWake c0.state c0.id c0.tries c0.key.k c0.key.n c0.key.s c0.has.k c0.has.n c0.has.s c0.next p.tries p.base p.cap (now+t) w (z0s hcw.2.2.2.1.2.2) (z0s hcw.2.2.2.2.1.2.2)
    obtain⟨r3,hr3⟩:∃ r3,r3=z44 c0 p (now+t):=⟨_,rfl⟩
    have hgN:=HM.out.2.2.2.2.2.1 gc rfl
    have hF5:=HM.out.1.keepN z02 (w':=wr) (S':=z2u w1.heap.size N0) (fun b hb'=>⟨hb',hfr.out b (by have:=hb'.2;have:=HM.out.2.2.2.2.2.2.2.2.1;omega) (fun e=>by have e':b=gc:=Option.some.inj e;have:=hb'.2;omega)⟩)
    obtain⟨b8,o8,f,X8,C8,e8,hb8,hf,hrep8,x0,_⟩:=z25 hF5 hlt
    subst e8
    have hwn:=wakeTo_next (p:=p) (now:=now+t) hc0 hf
    simp only[show (⟨c0.state,c0.id,c0.tries,⟨c0.key.k,c0.key.n,c0.key.s⟩,⟨c0.has.k,c0.has.n,c0.has.s⟩,c0.next⟩:Cll)=c0 from rfl,show (⟨p.tries,p.base,p.cap⟩:Pol)=p from rfl,<-hr3] at hch
    rw[<-hr3] at hwn
    try dsimp only at hnx
    rw[<-hr3] at hnx
    clear hr3
    obtain⟨rc,tk,rn⟩:=r3
    dsimp only at hch hwn hnx
    have hyc:CLr wr gc (k*10) c0:=z5q hms.out hcm hlt
    have hgcr:gc<wr.heap.size:=block_lt_of_cell hyc.1
    have hMr:M<wr.heap.size:=by omega
    have HSS:=zh (show ∀ y:World,Below wr.heap.size wr y->(y.cell? ⟨M,6,none⟩=some (.slice (some ⟨gc,0,none⟩) m c8)/\(CLr y gc (k*10) c0/\(y.cell? ⟨M,2,none⟩=some (.int .i64 p.tries)/\(y.cell? ⟨M,3,none⟩=some (.int .i64 p.base)/\(y.cell? ⟨M,4,none⟩=some (.int .i64 p.cap)/\y.cell? ⟨M,8,none⟩=some (.int .i64 (now+t))))))) from fun y h=>⟨z00 hEB.2.2.2.2.2.2.1 h,hyc.keep h,z00 hEB.2.2.1 h,z00 hEB.2.2.2.1 h,z00 hEB.2.2.2.2.1 h,z00 hEB.2.2.2.2.2.2.2.2.1 h⟩)
    have HK:=zh (ai hcm (ai hml (ai hnx (ai hwn (ai hEB (ai hgN (ai x0 hb8)))))))
    clear hc0 hcm hml hnx hwn hf hF5 hok hcw hrep8 hyc hEB x0 z6
    go_upto_region 12 with fail
    go_cut [11,12] (fun s11 s12 wx=>∃ g4:Nat,s11=.pointer (some ⟨g4,0,none⟩)/\s12=.bool tk/\wr.heap.size<=g4/\CL wx g4 rc/\Below wr.heap.size wr wx)
    case first =>
     refine z0k ?_;intro u0' hu0'
     obtain⟨u0,hu0⟩:∃ y,y=u0'.drew:=⟨_,rfl⟩
     have hY0:Below wr.heap.size wr u0:=by rw[hu0,hu0'];exact (Below.refl _ _).drew
     have hS0:=HSS.out u0 hY0
     refine z0r (fun w'=>w'.cell? ⟨M,6,none⟩=some (.slice (some ⟨gc,0,none⟩) m c8)/\(CLr w' gc (k*10) c0/\(w'.cell? ⟨M,2,none⟩=some (.int .i64 p.tries)/\(w'.cell? ⟨M,3,none⟩=some (.int .i64 p.base)/\(w'.cell? ⟨M,4,none⟩=some (.int .i64 p.cap)/\w'.cell? ⟨M,8,none⟩=some (.int .i64 (now+t))))))) 17 (by kernel_rfl) ?_
     rw[<-hu0]
     clear hu0' hu0
     refine zt 0 hS0 ?_
     simp only[Act.put,pq]
     refine zt 1 hS0 ?_
     simp only[Act.put,pq]
     refine zt 2 hS0 ?_
     simp only[Act.put,pq]
     refine zt 3 hS0 ?_
     simp only[Act.put,pq]
     refine zt 4 hS0 ?_
     simp only[Act.put,pq]
     refine zt 5 hS0 ?_
     simp only[Act.put,pq]
     refine zt 6 hS0 ?_
     simp only[Act.put,pq]
     refine zt 7 hS0 ?_
     simp only[Act.put,pq]
     refine zt 8 hS0 ?_
     simp only[Act.put,pq]
     refine z2s (i:=9) (j:=14) (o:=_) (p:=_) rfl rfl (by kernel_rfl) (fun K hK=>?_) (fun K hK=>?_)
     ·go_simp
      go_at_call 57;refine (hch _).mono ?_;rintro e u1 ⟨rfl,hb1⟩
      have hY1:=z01 hY0 hb1 hY0.size
      have hS1:=HSS.out u1 hY1
      refine hK.out _ _ (fun _=>hS1) ?_
      clear hK K
      try simp only[Act.put,pq]
      refine zt 10 hS1 ?_
      simp only[Act.put,pq]
      refine zt 11 hS1 ?_
      simp only[Act.put,pq]
      refine zt 12 hS1 ?_
      simp only[Act.put,pq]
      refine zt 13 hS1 ?_
      simp only[Act.put,pq]
      refine z06 (i:=14) (o:=_) rfl (by kernel_rfl) (fun K hK=>?_)
      go_simp
      obtain⟨u2,hu2⟩:∃ y,y=u1.alloc (.cells #[.int .i64 0,.int .i64 0,.int .i64 0,.int .i64 0,.int .i64 0,.string ⟨#[]⟩,.int .i64 0,.int .i64 0,.string ⟨#[]⟩,.int .i64 0] 62):=⟨_,rfl⟩
      rw[<-hu2]
      have hb2:Below u1.heap.size u1 u2:=by rw[hu2];exact (Below.refl _ _).alloc (nr _) _
      have hY2:=z01 hY1 hb2 hY1.size
      have hS2:=HSS.out u2 hY2
      have hG2:CBOX u2 u1.heap.size:=by rw[hu2];and_intros<;>go_simp
      clear hu2
      refine hK.out _ _ (fun _=>hS2) ?_
      clear hK K
      try simp only[Act.put,pq]
      have hgl:u1.heap.size<u2.heap.size:=hG2.lt
      obtain⟨l0,l1,l2,l3,l4,l5,l6,l7,l8,l9,n0,n1,n2,n3,n4,n5,n6,n7,n8,n9⟩:=hG2
      refine z06 (i:=15) (o:=_) rfl (by kernel_rfl) (fun K hK=>?_)
      go_simp
      refine hK.out _ _ (fun _=>HSS.out _ (bel10 hY2 hY1.size)) ?_
      clear hK K
      try simp only[Act.put,pq]
      refine z06 (i:=16) (o:=_) rfl (by kernel_rfl) (fun K hK=>?_)
      go_simp
      refine hK.out _ _ (fun _=>HSS.out _ (bel10 hY2 hY1.size)) ?_
      clear hK K
      try simp only[Act.put,pq]
      refine z06 (i:=17) (o:=_) rfl (by kernel_rfl) (fun K hK=>?_)
      go_simp
      refine hK.out _ _ (fun h=>absurd h (by decide)) ?_
      clear hK K
      refine z0f (by kernel_rfl) ?_ _
      try simp only[Act.put,pq]
      go_wp2_with fail
      go_meet
      refine⟨u1.heap.size,rfl,rfl,hY1.size,(by and_intros<;>go_simp),(bel10 hY2 hY1.size)⟩
     go_simp
     obtain⟨u1,hu1⟩:∃ y,y=u0.alloc (.cells #[.int .i64 0,.int .i64 0,.int .i64 0,.int .i64 0,.int .i64 0,.string ⟨#[]⟩,.int .i64 0,.int .i64 0,.string ⟨#[]⟩,.int .i64 0] 62):=⟨_,rfl⟩
     rw[<-hu1]
     have hb1:Below u0.heap.size u0 u1:=by rw[hu1];exact (Below.refl _ _).alloc (nr _) _
     have hY1:=z01 hY0 hb1 hY0.size
     have hS1:=HSS.out u1 hY1
     have hG1:CBOX u1 u0.heap.size:=by rw[hu1];and_intros<;>go_simp
     clear hu1
     refine hK.out _ _ (fun _=>hS1) ?_
     clear hK K
     try simp only[Act.put,pq]
     refine z06 (i:=9) (o:=_) rfl (by kernel_rfl) (fun K hK=>?_)
     go_simp
     go_at_call 57;refine (hch _).mono ?_;rintro e u2 ⟨rfl,hb2⟩
     have hY2:=z01 hY1 hb2 hY1.size
     have hS2:=HSS.out u2 hY2
     have hG2:=hG1.keep hb2
     refine hK.out _ _ (fun _=>hS2) ?_
     clear hK K
     try simp only[Act.put,pq]
     refine zt 10 hS2 ?_
     simp only[Act.put,pq]
     refine zt 11 hS2 ?_
     simp only[Act.put,pq]
     refine zt 12 hS2 ?_
     simp only[Act.put,pq]
     refine zt 13 hS2 ?_
     simp only[Act.put,pq]
     have hgl:u0.heap.size<u2.heap.size:=hG2.lt
     obtain⟨l0,l1,l2,l3,l4,l5,l6,l7,l8,l9,n0,n1,n2,n3,n4,n5,n6,n7,n8,n9⟩:=hG2
     refine z06 (i:=15) (o:=_) rfl (by kernel_rfl) (fun K hK=>?_)
     go_simp
     refine hK.out _ _ (fun _=>HSS.out _ (bel10 hY2 hY0.size)) ?_
     clear hK K
     try simp only[Act.put,pq]
     refine z06 (i:=16) (o:=_) rfl (by kernel_rfl) (fun K hK=>?_)
     go_simp
     refine hK.out _ _ (fun _=>HSS.out _ (bel10 hY2 hY0.size)) ?_
     clear hK K
     try simp only[Act.put,pq]
     refine z06 (i:=17) (o:=_) rfl (by kernel_rfl) (fun K hK=>?_)
     go_simp
     refine hK.out _ _ (fun h=>absurd h (by decide)) ?_
     clear hK K
     refine z0f (by kernel_rfl) ?_ _
     try simp only[Act.put,pq]
     go_wp2_with fail
     go_meet
     refine⟨u0.heap.size,rfl,rfl,hY0.size,(by and_intros<;>go_simp),(bel10 hY2 hY0.size)⟩
    case rest =>
     obtain⟨g4,rfl,rfl,hg4,hL,hb⟩:=hcut
     have hzc:=hb.size
     have hms':=hms.out
     have ho0:=z04 hms' hb
     obtain⟨e0,e1,e2,e3,e4,e5,e6,e7,e8,e9⟩:=z5q ho0 HK.out.1 hlt
     have f0:=ho0.frozenAt (k*10)
     have f1:=ho0.frozenAt (k*10+1)
     have f2:=ho0.frozenAt (k*10+2)
     have f3:=ho0.frozenAt (k*10+3)
     have f4:=ho0.frozenAt (k*10+4)
     have f5:=ho0.frozenAt (k*10+5)
     have f6:=ho0.frozenAt (k*10+6)
     have f7:=ho0.frozenAt (k*10+7)
     have f8:=ho0.frozenAt (k*10+8)
     have f9:=ho0.frozenAt (k*10+9)
     have hgu:gc<wc.heap.size:=block_lt_of_cell e0
     have hg4c:g4<wc.heap.size:=block_lt_of_cell hL.1
     have hL':=hL
     obtain⟨p0,p1,p2,p3,p4,p5,p6,p7,p8,p9⟩:=hL'
     have z6:wc.cell? ⟨M,6,none⟩=some (.slice (some ⟨gc,0,none⟩) m c8):=z00 HK.out.2.2.2.2.1.2.2.2.2.2.2.1 hb
     clear HSS hch
     go_upto_if 66 with fail
     refine z0k ?_;intro W2 hW2
     have hst:W2.ownsRow N0 62 10 (.slice (some ⟨gc,0,none⟩) m c8) m (((mapTo (fun c=>(z44 c p (now+t)).1) cs k).set k rc).flatMap Cll.cs):=by
      rw[hW2];exact calls_stored ho0 (by rw[HK.out.2.1];exact hlt)
     have hbc:∀ bb:Nat,bb≠gc->W2.heap[bb]?=wc.heap[bb]?:=fun bb hne=>by
      rw[hW2]
      iterate 10 rw[Below.heap_setCell _ _ _ _ (by exact hne)]
     have hbk:∀ bb:Nat,bb≠gc->bb<wr.heap.size->W2.heap[bb]?=wr.heap[bb]?:=fun bb hne h=>(hbc bb hne).trans (hb.block bb h)
     have hz2:W2.heap.size=wc.heap.size:=by rw[hW2];simp
     have hgN:=HK.out.2.2.2.2.2.1
     have hMg:M≠gc:=by omega
     have hB2:Below N0 wr W2:=by
      rw[hW2]
      iterate 10 refine z03 ?_ (by show N0<=gc;omega)
      exact hb.mono (by have:=HM.out.2.2.2.2.2.2.2.2.1;omega)
     have hl2:=z09 hlt'.out (w':=W2) (fun q hq h=>hbk q (fun e=>by have:=(hlt'.out.lt q hq).1;omega) h)
     have hfr2:∀ b,b<W1.heap.size->some b≠(Value.slice (some ⟨gc,0,none⟩) m c8).ownBlock->W2.heap[b]?=W1.heap[b]?:=fun b h h''=>(hbk b (fun e=>h'' (by rw[e];rfl)) (by omega)).trans (hfr.out b h h'')
     have hw2:Below N0 W1 W2:=hbw.out.trans hB2
     have hL2:CL W2 g4 rc:=by
      have hh:=hbc g4 (by omega)
      exact eb10 hh hL
     have z0:=(cob M 0 (hbk M hMg hMr)).trans HK.out.2.2.2.2.1.1
     have hbN:=HK.out.2.2.2.2.2.2.2
     have y0:=(cob (b8) (o8+k*9) (hbk b8 (by have:=hbN.2;omega) (by have:=hbN.2;have:=HM.out.2.2.2.2.2.2.2.2.1;omega))).trans HK.out.2.2.2.2.2.2.1
     clear hW2 ho0 hms' hgu z6 hL hbc hb e0 f0 p0 e1 f1 p1 e2 f2 p2 e3 f3 p3 e4 f4 p4 e5 f5 p5 e6 f6 p6 e7 f7 p7 e8 f8 p8 e9 f9 p9
     cases tk
     ·have HQ:=zh (ai hst (ai hl2 (ai hfr2 hw2)))
      clear hst hl2 hfr2 hw2
      go_wp2_with fail
      go_roundw
      case rel =>
       refine⟨k+1,by omega,by go_num,zh ?_,zh ?_,zh HQ.out.2.2.1,zh HQ.out.2.2.2,by omega⟩
       ·rw[HK.out.2.2.2.1,if_neg (by decide)];exact HQ.out.2.1
       rw[HK.out.2.2.1];exact HQ.out.1
      case measure=>simp[intOf];omega
     obtain⟨i0,ei,ez0,ez1,ez2⟩:=info_parts Tryz.infoLtr
     have hg4l:g4<W2.heap.size:=by omega
     have hb8l:b8<W2.heap.size:=by have:=hbN.2;have:=HM.out.2.2.2.2.2.2.2.2.1;omega
     have hM2:M<W2.heap.size:=by omega
     have HSL:=zh (show ∀ y:World,(∀ b,b<W2.heap.size->some b≠(Value.slice Am (zal F p (now+t) cs k).length cm).ownBlock->y.heap[b]?=W2.heap[b]?)->(y.cell? ⟨M,0,none⟩=some (.slice (some ⟨b8,o8,none⟩) m c5)/\(y.cell? ⟨b8,o8+k*9,none⟩=some (.string f.name)/\CL y g4 rc)) from fun y h=>by
      have hv:∀ q,(Value.slice Am (zal F p (now+t) cs k).length cm).ownBlock=some q->W1.heap.size<=q/\q<wr.heap.size:=fun q hq=>hlt'.out.lt q hq
      have hh:=h g4 hg4l (fun e=>by have:=(hv g4 e.symm).2;omega)
      exact⟨(cob M 0 (h M hM2 (fun e=>by have:=(hv M e.symm).1;omega))).trans z0,(cob (b8) (o8+k*9) (h b8 hb8l (fun e=>by have:=(hv b8 e.symm).1;have:=hbN.2;have:=HM.out.2.2.2.2.2.2.2.2.1;omega))).trans y0,eb10 hh hL2⟩)
     have HQ:=zh (ai hst (ai hl2 (ai hfr2 hw2)))
     have hwl:=wakeTo_len (F:=F) (p:=p) (now:=now+t) (cs:=cs) k
     clear hst hl2 hfr2 hw2 hL2 z0 y0
     go_upto_region 15 with fail
     refine z0k ?_;intro v0' hv0'
     obtain⟨u0,hu0⟩:∃ y,y=v0'.drew:=⟨_,rfl⟩
     have hB0:Below W2.heap.size W2 u0:=by rw[hu0,hv0'];exact (Below.refl _ _).drew
     have hS0:=HSL.out u0 (fun b h _=>hB0.block b h)
     refine z0r (fun w'=>w'.cell? ⟨M,0,none⟩=some (.slice (some ⟨b8,o8,none⟩) m c5)/\(w'.cell? ⟨b8,o8+k*9,none⟩=some (.string f.name)/\CL w' g4 rc)) 15 (by kernel_rfl) ?_
     rw[<-hu0]
     clear hu0 hv0'
     refine zt 0 hS0 ?_
     simp only[Act.put,pq]
     refine zt 1 hS0 ?_
     simp only[Act.put,pq]
     refine zt 2 hS0 ?_
     simp only[Act.put,pq]
     refine zt 3 hS0 ?_
     simp only[Act.put,pq]
     refine zt 4 hS0 ?_
     simp only[Act.put,pq]
     refine zt 5 hS0 ?_
     simp only[Act.put,pq]
     refine zt 6 hS0 ?_
     simp only[Act.put,pq]
     refine zt 7 hS0 ?_
     simp only[Act.put,pq]
     refine zt 8 hS0 ?_
     simp only[Act.put,pq]
     refine zt 9 hS0 ?_
     simp only[Act.put,pq]
     refine zt 10 hS0 ?_
     simp only[Act.put,pq]
     refine zt 11 hS0 ?_
     simp only[Act.put,pq]
     refine zt 12 hS0 ?_
     simp only[Act.put,pq]
     refine z06 (i:=13) (o:=_) rfl (by kernel_rfl) (fun K hK=>?_)
     go_simp
     obtain⟨u1,hu1⟩:∃ y,y=u0.alloc (.cells #[.string f.name,.int .i64 rc.id,.int .i64 rc.key.k,.int .i64 rc.key.n,.string rc.key.s,.int .i64 0,.int .i64 0,.string ⟨#[]⟩] 48):=⟨_,rfl⟩
     rw[<-hu1]
     have hb1:Below u0.heap.size u0 u1:=by rw[hu1];exact (Below.refl _ _).alloc (nr _) _
     have hB1:=z01 hB0 hb1 hB0.size
     have hnew:∀ pp,some (⟨u0.heap.size,0,none⟩:Addr)=some pp->∀ j u,(Ltr.mk f.name rc.id rc.key noVal).cs[j]?=some u->u1.cell? (pp.add j)=some u:=by
      rw[hu1]
      exact fun pp hp j u hj=>by cases hp;exact z63 _ (Ltr.mk f.name rc.id rc.key noVal).cs _ j u hj
     clear hu1
     have hS1:=HSL.out u1 (fun b h _=>hB1.block b h)
     refine hK.out _ _ (fun _=>hS1) ?_
     clear hK K
     try simp only[Act.put,pq]
     refine z06 (i:=14) (o:=_) rfl (by kernel_rfl) (fun K hK=>?_)
     refine z0z rfl (.tmp 67) (.tmp 80) 33 rfl W1.heap.size 48 i0 _ 8 88 Tryz.underlying33 ei ez0 ez1 ez2 rfl (by decide) (.slice Am (zal F p (now+t) cs k).length cm) _ _ rfl (z04 HQ.out.2.1 hB1) _ 1 1 (Ltr.mk f.name rc.id rc.key noVal).cs rfl rfl hnew (by simp) (by simp[Ltr.cs,Value.oneCell']) (by unfold maxLen;omega) (by omega) (by have:=hB1.size;omega) ?_
     intro lv' u2 ho2 hgr hob
     have hzz:=hB1.size
     have hg2:∀ b,b<W2.heap.size->some b≠(Value.slice Am (zal F p (now+t) cs k).length cm).ownBlock->u2.heap[b]?=W2.heap[b]?:=fun b h h'=>(hgr.block b (by omega) h').trans (hB1.block b h)
     have hS2:=HSL.out u2 hg2
     refine hK.out _ _ (fun _=>hS2) ?_
     clear hK K
     try simp only[Act.put,pq]
     refine z06 (i:=15) (o:=_) rfl (by kernel_rfl) (fun K hK=>?_)
     go_simp
     refine hK.out _ _ (fun h=>absurd h (by decide)) ?_
     clear hK K
     refine z0f (by kernel_rfl) ?_ _
     try simp only[Act.put,pq]
     have hzu:=hgr.size
     have hB9:Below W1.heap.size W2 u2:=Below.grown (hB1.mono (by omega)) hgr (by omega) (fun kk hk=>(hlt'.out.lt kk hk).1)
     have HG:=zh (ai ho2 (ai hg2 hB9))
     clear ho2 hgr hob hS2 hS1 hS0 hnew hg2 hB9
     go_wp2_with fail
     go_roundw
     case rel =>
      refine⟨k+1,by omega,by go_num,zh ?_,zh ?_,zh (fun b h h''=>(HG.out.2.1 b (by omega) (fun e=>by have:=(hlt'.out.lt b e.symm).1;omega)).trans (HQ.out.2.2.1 b h h'')),zh (HQ.out.2.2.2.trans (HG.out.2.2.mono (by have:=HM.out.2.2.2.2.2.2.2.2.1;omega))),by omega⟩
      ·rw[HK.out.2.2.2.1,if_pos (by trivial),List.length_append,List.length_singleton,List.flatMap_append]
       simpa using HG.out.1
      rw[HK.out.2.2.1]
      exact z09 HQ.out.1 (fun q hq h=>HG.out.2.1 q h (fun e=>by have:=(hlt'.out.lt q e.symm).1;have e':gc=q:=Option.some.inj hq;omega))
     case measure=>simp[intOf];omega
   obtain rfl:k=m:=by omega
   have hM:=HM.out.2.2.2.2.2.2.2.2.2.2.2.2.2.2
   have hnM:=HM.out.2.2.2.2.2.2.2.2.1
   have hw2':=HM.out.2.2.2.2.2.2.2.2.2.2.2.1
   have hn0:=HM.out.2.2.2.2.2.2.2.1
   have hln:=HM.out.2.2.2.2.2.2.2.2.2.2.1
   have hH:=HE.out.2.2.2.2.2.2.2.2
   have j7:=z09 HM.out.2.2.1 (w':=wr) (fun q hq h=>hfr.out q h (HM.out.2.2.2.2.1 q hq).2.2.1)
   have j9:=z09 HM.out.2.2.2.2.2.2.2.2.2.2.2.2.1 (w':=wr) (fun q hq h=>hfr.out q h (fun e=>(HM.out.2.2.2.2.2.1 q e.symm).2.2 hq.symm))
   have hin:∀ b,z2u w1.heap.size N0 b->wr.heap[b]?=W1.heap[b]?:=fun b hb'=>hfr.out b (by have:=hb'.2;omega) (fun e=>by have:=(HM.out.2.2.2.2.2.1 b e.symm).1;have:=hb'.2;omega)
   have j5:=HM.out.1.keepN z02 (w':=wr) (S':=z2u w1.heap.size N0) (fun b hb'=>⟨hb',hin b hb'⟩)
   have j6:=HM.out.2.1.keepN z0d (w':=wr) (S':=z2u w1.heap.size N0) (fun b hb'=>⟨hb',hin b hb'⟩)
   have hkl:cs.length=k:=by have:=HE.out.2.2.2.2.1;omega
   have j8:=hms.out
   rw[mapTo_all (by omega)] at j8
   have hset:=HY.out.2.1
   unfold wakeC at hset
   have hren:=ren_of j5 j6 j7 j8 j9 hln (by omega) HE.out.2.2.2.2.2.2.2.1 (by omega) (by omega) (by rw[List.length_map];exact hkl) (HE.out.2.2.2.1.trans hH.1) HE.out.2.2.2.2.2.2.1.1 (fun x hx=>zar (hset.2.2.2.2 x hx)) HE.out.2.2.2.2.2.2.1.2.2
   have hbec:=ref_becomes A5 k c5 F A6 P.length c6 P p A7 ins.length c7 ins A8 k c8 (cs.map fun c=>(z44 c p (now+t)).1) A9 k c9 vs (now+t) last Am cm (zal F p (now+t) cs k) (w.heap.size+2) wr hren HE.out.2.2.2.2.2.1 hset HE.out.2.2.2.1 (z0c hlt'.out (by omega)) (wakeTo_wf (fun f hf=>(HE.out.2.2.2.2.2.1.2 f hf).1) HE.out.2.2.1.2.2.2.2 HY.out.2.2 k) (by have:=wakeTo_len (F:=F) (p:=p) (now:=now+t) (cs:=cs) k;omega) (by omega)
   obtain⟨r4,hr4⟩:∃ r4,r4=becE ⟨F,P,p,ins,cs.map fun c=>(z44 c p (now+t)).1,vs,now+t,last⟩ (zal F p (now+t) cs k):=⟨_,rfl⟩
   rw[<-hr4] at hbec
   have HR:=zh (HY.out.1.trans (show _=r4 by rw[hr4,hkl];rfl))
   clear hr4
   obtain⟨⟨F',P',p',ins',cs',vs',now',last'⟩,ls',er'⟩:=r4
   have hR2:=HM.out.2.2.2.1.block (hfr.out (w.heap.size+1) (by omega) (fun e=>by have:=(HM.out.2.2.2.2.2.1 _ e.symm).1;omega))
   have hBW:Below w.heap.size w wr:=HM.out.2.2.2.2.2.2.2.2.2.1.trans (hbw.out.mono (by omega))
   have hMr:M<wr.heap.size:=by omega
   clear z6
   obtain⟨z0,z1,z2,z3,z4,z5,z6,z7,z8,z9⟩:=hEB
   have hS3:w.heap.size+2<=wr.heap.size:=by omega
   clear hM hH hkl j5 j6 j7 j8 j9 hin hset hren
   go_wp2_with (go_at_call 28;refine hbec.mono ?_;rintro e w5 ⟨⟨B',d',A',c',A1',c1',A2',c2',A3',c3',A4',c4',rfl,hrw⟩,hb5⟩;have hz5:=hb5.size;have hl5:w.heap.size+1<w5.heap.size:=(by omega);obtain⟨⟨q0,q1,q2,q3,q4,q5,q6,q7,q8,q9⟩,r0,r1,r2,r3,r4,r5,r6,r7,r8,r9⟩:=hR2.block (hb5.block (w.heap.size+1) (by omega)))
   refine bpr Tryz.results21 (.tuple #[.agg #[.slice B' F'.length d',.slice A' P'.length c',.int .i64 p'.tries,.int .i64 p'.base,.int .i64 p'.cap,.slice A1' ins'.length c1',.slice A2' cs'.length c2',.slice A3' vs'.length c3',.int .i64 now',.int .i64 last'],.slice A4' ls'.length c4',.int .i64 er']) ?_
   generalize hWe:World.setCell _ _ _=We
   rw[HR.out]
   have hrw':=EngRow.put (w':=We) (a:=w.heap.size) (show EngRow (w.heap.size+2) w5 ⟨F',P',p',ins',cs',vs',now',last'⟩ ls' B' d' A' c' A1' c1' A2' c2' A3' c3' A4' c4' from hrw) (by omega) (by rw[<-hWe];simp) (fun b h1 h2=>by
    rw[<-hWe]
    iterate 10 rw[Below.heap_setCell _ _ _ _ (by simp only[ne_eq];omega)])
   refine⟨⟨_,_,_,_,_,_,_,_,_,_,_,_,rfl,hrw'⟩,?_⟩
   rw[<-hWe]
   iterate 10 refine z03 ?_ (by dsimp only;omega)
   exact hBW.trans (hb5.mono (by omega))
 have gz:(engErr g != 0)=true:=by simpa using z1
 have HR:=zh (hrr.trans (tickE_bad z1))
 generalize engErr g=er at h1 gz HR
 clear hX hg hrr z1 hwf hFm h3 hPl
 go_enter Tryz.func21,Tryz.ntmps21
 go_wp2_with (go_at_call 14;refine (h1 _ (HX.out.now bel)).mono ?_;rintro e w1 ⟨rfl,hb1⟩;refine zb hb1 ?_;rintro ⟨hc1,hf1⟩ hz1 hy1 hx1;refine szz w1 w ?_;intros)
 refine bpr Tryz.results21 (.tuple #[.agg #[.slice none 0 0,.slice none 0 0,.int .i64 0,.int .i64 0,.int .i64 0,.slice none 0 0,.slice none 0 0,.slice none 0 0,.int .i64 0,.int .i64 0],.slice none 0 0,.int .i64 er]) ?_
 rw[HR.out]
 exact⟨EngIs.nil0 er rfl,bel⟩
end Go.Proofs.YtldhlpjjcnlbcaaGreat
