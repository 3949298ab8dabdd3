/- The reference's EngineHear. (printed by mkrfh.py) -/
import Derived.Test.YtldhlpjjcnlbcaaGreatRfe3
import Derived.Test.YtldhlpjjcnlbcaaGreatRfe4
import Derived.Test.YtldhlpjjcnlbcaaGreatEngM
import Derived.Test.YtldhlpjjcnlbcaaGreatPrt4
import Derived.Test.YtldhlpjjcnlbcaaGreatCall4r
import Derived.Test.YtldhlpjjcnlbcaaGreatRfe1
import Derived.Test.YtldhlpjjcnlbcaaGreatEngH
set_option maxRecDepth 100000
set_option maxHeartbeats 8000000
namespace Go.Proofs.YtldhlpjjcnlbcaaGreat
open Go.RowKit
theorem ref_EngineHear (B:Option Addr)(m d:Nat)(F:List Fld)(A:Option Addr)(n c:Nat)(P:List Pag)(p:Pol)(A1:Option Addr)(n1 c1:Nat)(ins:List Fct)(A2:Option Addr)(n2 c2:Nat)(cs:List Cll)(A3:Option Addr)(n3 c3:Nat)(vs:List Val)(now last:Int)(l:Ltr)(w:World)
  (hX:REn w B m d F A n c P A1 n1 c1 ins A2 n2 c2 cs A3 n3 c3 vs)(hO:z2i F)(hw:l.wf) :
  Calls Tryz.prog 19 #[.agg #[.slice B m d,.slice A n c,.int .i64 p.tries,.int .i64 p.base,.int .i64 p.cap,.slice A1 n1 c1,.slice A2 n2 c2,.slice A3 n3 c3,.int .i64 now,.int .i64 last],.agg #[.string l.field,.int .i64 l.id,.int .i64 l.key.k,.int .i64 l.key.n,.string l.key.s,.int .i64 l.answer.k,.int .i64 l.answer.n,.string l.answer.s]] w (RetHear w (hearE ⟨F,P,p,ins,cs,vs,now,last⟩ l)):=by
 have h1:=fun w h=>ref_EngineFault B m d F A n c P p A1 n1 c1 ins A2 n2 c2 cs A3 n3 c3 vs now last w h hO
 have h2:=fun w h=>z2n B m d F l.field w (hX.1.1.l (by decide)) h
 have h3:=fun w h=>zcg B m d F A n c P p A1 n1 c1 ins A2 n2 c2 cs A3 n3 c3 vs now last w h
 have hFm:F.length=m:=hX.1.2.2.2.2.1.len
 have hml:=hX.1.1.l (by decide)
 unfold inL at hml
 have hwf:(∀ x∈ins,x.wf)/\(∀ x∈cs,x.wf)/\(∀ x∈vs,x.wf):=⟨Sl.all_wf hX.2.1.2.2 fun _ _ h=>h.2,Sl.all_wf hX.2.2.1.2.2 fun _ _ h=>h.2,Sl.all_wf hX.2.2.2.2.2 fun _ _ h=>h.2⟩
 have hPl:inB 120 P.length:=by rw[hX.1.2.2.2.2.2.len];exact hX.1.2.2.1
 obtain⟨g,hg⟩:∃ g:Eng,g=⟨F,P,p,ins,cs,vs,now,last⟩:=⟨_,rfl⟩
 have hgF:g.F=F:=by rw[hg]
 have hgc:g.cs=cs:=by rw[hg]
 obtain⟨rr,hrr⟩:∃ rr,rr=hearE g l:=⟨_,rfl⟩
 rw[<-hg] at h1 ⊢
 rw[<-hrr]
 have HX:=zh hX
 by_cases z1:engErr g=0
 ·rw[z1] at h1
  cases hany:F.any (z0a l.field)
  ·have HR:=zh (hrr.trans (hearE_none z1 (by rw[hgF];exact hany)))
   rw[z2c _ _ hany,hFm] at h2
   clear hX hg hgF hgc hrr z1 hany hwf hFm h3 hPl
   go_enter Tryz.func19,Tryz.ntmps19
   go_wp2_with (first
    | (go_at_call 14;refine (h1 _ (HX.out.now bel)).mono ?_;rintro e w1 ⟨rfl,hb1⟩;refine zb hb1 ?_;rintro ⟨hc1,hf1⟩ hz1 hy1 hx1;refine szz w1 w ?_;intros)
    | (go_at_call 53;refine (h2 _ (HX.out.1.2.2.2.2.1.nowN z02 bel)).mono ?_;rintro e w2 ⟨rfl,hb2⟩;refine zb hb2 ?_;rintro ⟨hc2,hf2⟩ hz2 hy2 hx2;refine szz w2 w ?_;intros;refine szz w2 w1 ?_;intros))
   refine bpr Tryz.results19 (.tuple #[.agg #[.slice none 0 0,.slice none 0 0,.int .i64 0,.int .i64 0,.int .i64 0,.slice none 0 0,.slice none 0 0,.slice none 0 0,.int .i64 0,.int .i64 0],.slice none 0 0,.bool false,.int .i64 5]) ?_
   rw[HR.out]
   exact⟨HearIs.nil0 5 rfl,bel⟩
  obtain⟨f,hf,_,hlt⟩:=z9s (z0a l.field) F hany
  obtain⟨hset0,hvl⟩:=zf1 (z85 z1)
  obtain⟨hfe,_,hfc,_,_⟩:=zft (z85 z1)
  have h14:=form14 hfe
  have hin:=facts_len hfc
  rw[hg] at hset0 hvl h14 hin
  dsimp only at hset0 hvl h14 hin
  have hcl:cs.length=F.length:=hset0.2.2.2.1
  obtain⟨i,hi⟩:∃ i,firstAt (z0a l.field) F=i:=⟨_,rfl⟩
  rw[hi] at h2
  rw[hi] at hf hlt
  have him:i<m:=by omega
  have him2:i<n2:=by rw[<-hX.2.2.1.2.2.len];omega
  obtain⟨b2,o2,c0,e2,hb2',hc0,hcw,_⟩:=Cll_at hX.2.2.1.2.2 him2
  subst e2
  have hii2:(i:Int)<(n2:Int):=by omega
  have hii:(i:Int)<(m:Int):=by omega
  have gi:((i:Int)==(m:Int))=false:=by rw[beq_eq_false_iff_ne];omega
  have hch:=fun w=>ref_CallHear c0.state c0.id c0.tries c0.key.k c0.key.n c0.key.s c0.has.k c0.has.n c0.has.s c0.next p.tries p.base p.cap l.id l.key.k l.key.n l.key.s l.answer.k l.answer.n l.answer.s w (z0s hcw.2.2.2.1.2.2) (z0s hcw.2.2.2.2.1.2.2) (z0s hw.2.2.2.2.2)
  obtain⟨r3,hr3⟩:∃ r3,r3=z43 c0 p l.id l.key l.answer:=⟨_,rfl⟩
  have hset:=(hear_set z1 (i:=i) (c:=c0) (by rw[hgc];exact hc0) l.id l.key l.answer).1
  rw[hg] at hset
  dsimp only at hset
  rw[<-hr3] at hset
  simp only[show (⟨c0.state,c0.id,c0.tries,⟨c0.key.k,c0.key.n,c0.key.s⟩,⟨c0.has.k,c0.has.n,c0.has.s⟩,c0.next⟩:Cll)=c0 from rfl,show (⟨p.tries,p.base,p.cap⟩:Pol)=p from rfl,show (⟨l.key.k,l.key.n,l.key.s⟩:Val)=l.key from rfl,show (⟨l.answer.k,l.answer.n,l.answer.s⟩:Val)=l.answer from rfl,<-hr3] at hch
  have hnot:=fun ht=>hrr.trans (hearE_not (i:=i) (c:=c0) (f:=f) z1 (by rw[hgF];exact hany) (by rw[hgF];exact hi) (by rw[hgc];exact hc0) (by rw[hgF];exact hf) ht)
  have hyes:=fun r ht hr=>hrr.trans (hearE_yes (i:=i) (c:=c0) (f:=f) (r:=r) z1 (by rw[hgF];exact hany) (by rw[hgF];exact hi) (by rw[hgc];exact hc0) (by rw[hgF];exact hf) ht hr)
  rw[hg] at hnot hyes
  dsimp only at hnot hyes
  rw[<-hr3] at hnot hyes
  clear hr3
  obtain⟨rc,tk,rn⟩:=r3
  dsimp only at hch hnot hyes hset
  have HE:=zh (ai hnot (ai hyes (ai hset (ai hvl (ai hcl (ai hO (ai hwf (ai hPl (ai hFm (ai hc0 (ai hf (ai h14 hin))))))))))))
  clear hX hg hgF hgc hrr z1 hany hwf hFm hset0 hset hvl hcl hO hnot hyes hi hf hc0 hlt hcw hw hfe hfc h14 hin hPl hb2'
  go_enter Tryz.func19,Tryz.ntmps19
  go_upto_region 8 with (first
   | (go_at_call 14;refine (h1 _ (HX.out.now bel)).mono ?_;rintro e w1 ⟨rfl,hb1⟩;refine zb hb1 ?_;rintro ⟨hc1,hf1⟩ hz1 hy1 hx1;refine szz w1 w ?_;intros)
   | (go_at_call 53;refine (h2 _ (HX.out.1.2.2.2.2.1.nowN z02 bel)).mono ?_;rintro e w2 ⟨rfl,hb2⟩;refine zb hb2 ?_;rintro ⟨hc2,hf2⟩ hz2 hy2 hx2;refine szz w2 w ?_;intros;refine szz w2 w1 ?_;intros)
   | (go_at_call 15;refine (h3 _ (HX.out.now bel)).mono ?_;rintro e w4 ⟨A5,c5,A6,c6,A7,c7,A8,c8,A9,c9,N0,N1,N2,rfl,hcop,hb4⟩;refine zb hb4 ?_;rintro ⟨hc4,hf4⟩ hz4 hy4 hx4;refine szz w4 w ?_;intros;refine szz w4 w1 ?_;intros;refine szz w4 w2 ?_;intros))
  refine z0k ?_;intro W9 hW9
  rw[HE.out.2.2.2.2.1,HE.out.2.2.2.1,HE.out.2.2.2.2.2.2.2.2.1] at hW9
  obtain⟨M,hM⟩:∃ M,M=w4.heap.size:=⟨_,rfl⟩
  have hR9:RBOX W9 (w.heap.size+2):=by rw[hW9];and_intros<;>go_simp
  have hmc:EBX W9 M (.slice A5 m c5) (.slice A6 P.length c6) p (.slice A7 ins.length c7) (.slice A8 m c8) (.slice A9 m c9) now last:=by rw[hM,hW9];and_intros<;>go_simp
  have d6:W9.cell? ⟨w.heap.size,6,none⟩=some (.slice (some ⟨b2,o2,none⟩) n2 c2):=by rw[hW9];go_simp
  have d2:W9.cell? ⟨w.heap.size,2,none⟩=some (.int .i64 p.tries):=by rw[hW9];go_simp
  have d3:W9.cell? ⟨w.heap.size,3,none⟩=some (.int .i64 p.base):=by rw[hW9];go_simp
  have d4:W9.cell? ⟨w.heap.size,4,none⟩=some (.int .i64 p.cap):=by rw[hW9];go_simp
  have d0:W9.cell? ⟨w.heap.size,0,none⟩=some (.slice B m d):=by rw[hW9];go_simp
  have e1:W9.cell? ⟨w.heap.size+1,1,none⟩=some (.int .i64 l.id):=by rw[hW9];go_simp
  have e2:W9.cell? ⟨w.heap.size+1,2,none⟩=some (.int .i64 l.key.k):=by rw[hW9];go_simp
  have e3:W9.cell? ⟨w.heap.size+1,3,none⟩=some (.int .i64 l.key.n):=by rw[hW9];go_simp
  have e4:W9.cell? ⟨w.heap.size+1,4,none⟩=some (.string l.key.s):=by rw[hW9];go_simp
  have e5:W9.cell? ⟨w.heap.size+1,5,none⟩=some (.int .i64 l.answer.k):=by rw[hW9];go_simp
  have e6:W9.cell? ⟨w.heap.size+1,6,none⟩=some (.int .i64 l.answer.n):=by rw[hW9];go_simp
  have e7:W9.cell? ⟨w.heap.size+1,7,none⟩=some (.string l.answer.s):=by rw[hW9];go_simp
  have hBx:Below w.heap.size w W9:=by rw[hW9];exact bel
  have hb9:Below w4.heap.size w4 W9:=by
   rw[hW9]
   exact (Below.refl _ _).alloc (nr _) _
  have hz9:W9.heap.size=w4.heap.size+1:=by rw[hW9];simp
  have hw2:w.heap.size+3<=w2.heap.size:=by have:=hb1.size;have:=hb2.size;simp at *;omega
  obtain⟨hln,s5,s6,o7,o8,o9,q7,q8,q9',n0,n4⟩:=cop_rows hcop hb9 HE.out.2.2.2.2.2.2.2.2.1 HE.out.2.2.2.2.1 HE.out.2.2.2.1
  have hrow:=hcop.row (W9:=W9) HE.out.2.2.2.2.2.2.1.1 HE.out.2.2.2.2.2.2.1.2.1 HE.out.2.2.2.2.2.2.1.2.2 hw2 hb9
  rw[<-hM] at q7 q8 q9' n4 ⊢
  obtain⟨gc,kc,ec,hbc,_⟩:=o8.form (by omega)
  cases ec
  have hMg:M≠gc:=fun e=>by have:=(q8 gc rfl).2.1;omega
  have hMl:M<W9.heap.size:=by omega
  obtain⟨b2',o2',c0',e2,_,hc0',_,hyc⟩:=Cll_at (HX.out.now hBx).2.2.1.2.2 him2
  simp only[Option.some.injEq,Addr.mk.injEq,and_true] at e2
  obtain⟨rfl,rfl⟩:=e2
  obtain rfl:c0=c0':=Option.some.inj (HE.out.2.2.2.2.2.2.2.2.2.1.symm.trans hc0')
  replace hyc:CLr W9 b2 (o2+i*10) c0:=hyc
  have HM:=zh (ai hmc (ai s5 (ai s6 (ai o7 (ai o8 (ai o9 (ai q7 (ai q8 (ai q9' (ai n0 (ai n4 (ai hrow (ai hR9 hln)))))))))))))
  have HZ:=zh (ai hw2 (ai hz9 hM))
  have hd0:=d0
  have HSS:=zh (show ∀ y:World,Below W9.heap.size W9 y->(y.cell? ⟨w.heap.size,6,none⟩=some (.slice (some ⟨b2,o2,none⟩) n2 c2)/\(y.cell? ⟨w.heap.size,2,none⟩=some (.int .i64 p.tries)/\(y.cell? ⟨w.heap.size,3,none⟩=some (.int .i64 p.base)/\(y.cell? ⟨w.heap.size,4,none⟩=some (.int .i64 p.cap)/\(CLr y b2 (o2+i*10) c0/\(y.cell? ⟨w.heap.size+1,1,none⟩=some (.int .i64 l.id)/\(y.cell? ⟨w.heap.size+1,2,none⟩=some (.int .i64 l.key.k)/\(y.cell? ⟨w.heap.size+1,3,none⟩=some (.int .i64 l.key.n)/\(y.cell? ⟨w.heap.size+1,4,none⟩=some (.string l.key.s)/\(y.cell? ⟨w.heap.size+1,5,none⟩=some (.int .i64 l.answer.k)/\(y.cell? ⟨w.heap.size+1,6,none⟩=some (.int .i64 l.answer.n)/\y.cell? ⟨w.heap.size+1,7,none⟩=some (.string l.answer.s)))))))))))) from fun y h=>⟨z00 d6 h,z00 d2 h,z00 d3 h,z00 d4 h,hyc.keep h,z00 e1 h,z00 e2 h,z00 e3 h,z00 e4 h,z00 e5 h,z00 e6 h,z00 e7 h⟩)
  clear hcop hW9 hR9 hmc s5 s6 o7 o8 o9 q7 q8 q9' n0 n4 hrow hln hbc hM hb1 hb2 hb4 hb9 hc1 hf1 hc2 hf2 hc4 hf4 hz9 hyc hc0' d0 d2 d3 d4 d6 e1 e2 e3 e4 e5 e6 e7 h1 h2 h3
  go_cut [11,12] (fun s11 s12 wx=>∃ g4:Nat,s11=.pointer (some ⟨g4,0,none⟩)/\s12=.bool tk/\W9.heap.size<=g4/\CL wx g4 rc/\Below W9.heap.size W9 wx)
  case first =>
   refine z0k ?_;intro u0' hu0'
   obtain⟨u0,hu0⟩:∃ y,y=u0'.drew:=⟨_,rfl⟩
   have hY0:Below W9.heap.size W9 u0:=by rw[hu0,hu0'];exact (Below.refl _ _).drew
   have hS0:=HSS.out u0 hY0
   refine z0r (fun w'=>w'.cell? ⟨w.heap.size,6,none⟩=some (.slice (some ⟨b2,o2,none⟩) n2 c2)/\(w'.cell? ⟨w.heap.size,2,none⟩=some (.int .i64 p.tries)/\(w'.cell? ⟨w.heap.size,3,none⟩=some (.int .i64 p.base)/\(w'.cell? ⟨w.heap.size,4,none⟩=some (.int .i64 p.cap)/\(CLr w' b2 (o2+i*10) c0/\(w'.cell? ⟨w.heap.size+1,1,none⟩=some (.int .i64 l.id)/\(w'.cell? ⟨w.heap.size+1,2,none⟩=some (.int .i64 l.key.k)/\(w'.cell? ⟨w.heap.size+1,3,none⟩=some (.int .i64 l.key.n)/\(w'.cell? ⟨w.heap.size+1,4,none⟩=some (.string l.key.s)/\(w'.cell? ⟨w.heap.size+1,5,none⟩=some (.int .i64 l.answer.k)/\(w'.cell? ⟨w.heap.size+1,6,none⟩=some (.int .i64 l.answer.n)/\w'.cell? ⟨w.heap.size+1,7,none⟩=some (.string l.answer.s)))))))))))) 21 (by kernel_rfl) ?_
   rw[<-hu0]
   clear hu0' hu0
   refine zt 0 hS0 ?_
   simp only[Act.put,pq]
   refine zt 1 hS0 ?_
   simp only[Act.put,pq]
   refine zt 2 hS0 ?_
   simp only[Act.put,pq]
   refine zt 3 hS0 ?_
   simp only[Act.put,pq]
   refine zt 4 hS0 ?_
   simp only[Act.put,pq]
   refine zt 5 hS0 ?_
   simp only[Act.put,pq]
   refine zt 6 hS0 ?_
   simp only[Act.put,pq]
   refine zt 7 hS0 ?_
   simp only[Act.put,pq]
   refine zt 8 hS0 ?_
   simp only[Act.put,pq]
   refine zt 9 hS0 ?_
   simp only[Act.put,pq]
   refine zt 10 hS0 ?_
   simp only[Act.put,pq]
   refine zt 11 hS0 ?_
   simp only[Act.put,pq]
   refine zt 12 hS0 ?_
   simp only[Act.put,pq]
   refine z2s (i:=13) (j:=18) (o:=_) (p:=_) rfl rfl (by kernel_rfl) (fun K hK=>?_) (fun K hK=>?_)
   ·go_simp
    go_at_call 54;refine (hch _).mono ?_;rintro e u1 ⟨rfl,hb1⟩
    have hY1:=z01 hY0 hb1 hY0.size
    have hS1:=HSS.out u1 hY1
    refine hK.out _ _ (fun _=>hS1) ?_
    clear hK K
    try simp only[Act.put,pq]
    refine zt 14 hS1 ?_
    simp only[Act.put,pq]
    refine zt 15 hS1 ?_
    simp only[Act.put,pq]
    refine zt 16 hS1 ?_
    simp only[Act.put,pq]
    refine zt 17 hS1 ?_
    simp only[Act.put,pq]
    refine z06 (i:=18) (o:=_) rfl (by kernel_rfl) (fun K hK=>?_)
    go_simp
    obtain⟨u2,hu2⟩:∃ y,y=u1.alloc (.cells #[.int .i64 0,.int .i64 0,.int .i64 0,.int .i64 0,.int .i64 0,.string ⟨#[]⟩,.int .i64 0,.int .i64 0,.string ⟨#[]⟩,.int .i64 0] 62):=⟨_,rfl⟩
    rw[<-hu2]
    have hb2:Below u1.heap.size u1 u2:=by rw[hu2];exact (Below.refl _ _).alloc (nr _) _
    have hY2:=z01 hY1 hb2 hY1.size
    have hS2:=HSS.out u2 hY2
    have hG2:CBOX u2 u1.heap.size:=by rw[hu2];and_intros<;>go_simp
    clear hu2
    refine hK.out _ _ (fun _=>hS2) ?_
    clear hK K
    try simp only[Act.put,pq]
    have hgl:u1.heap.size<u2.heap.size:=hG2.lt
    obtain⟨l0,l1,l2,l3,l4,l5,l6,l7,l8,l9,n0,n1,n2,n3,n4,n5,n6,n7,n8,n9⟩:=hG2
    refine z06 (i:=19) (o:=_) rfl (by kernel_rfl) (fun K hK=>?_)
    go_simp
    refine hK.out _ _ (fun _=>HSS.out _ (bel10 hY2 hY1.size)) ?_
    clear hK K
    try simp only[Act.put,pq]
    refine z06 (i:=20) (o:=_) rfl (by kernel_rfl) (fun K hK=>?_)
    go_simp
    refine hK.out _ _ (fun _=>HSS.out _ (bel10 hY2 hY1.size)) ?_
    clear hK K
    try simp only[Act.put,pq]
    refine z06 (i:=21) (o:=_) rfl (by kernel_rfl) (fun K hK=>?_)
    go_simp
    refine hK.out _ _ (fun h=>absurd h (by decide)) ?_
    clear hK K
    refine z0f (by kernel_rfl) ?_ _
    try simp only[Act.put,pq]
    go_wp2_with fail
    go_meet
    refine⟨u1.heap.size,rfl,rfl,hY1.size,(by and_intros<;>go_simp),(bel10 hY2 hY1.size)⟩
   go_simp
   obtain⟨u1,hu1⟩:∃ y,y=u0.alloc (.cells #[.int .i64 0,.int .i64 0,.int .i64 0,.int .i64 0,.int .i64 0,.string ⟨#[]⟩,.int .i64 0,.int .i64 0,.string ⟨#[]⟩,.int .i64 0] 62):=⟨_,rfl⟩
   rw[<-hu1]
   have hb1:Below u0.heap.size u0 u1:=by rw[hu1];exact (Below.refl _ _).alloc (nr _) _
   have hY1:=z01 hY0 hb1 hY0.size
   have hS1:=HSS.out u1 hY1
   have hG1:CBOX u1 u0.heap.size:=by rw[hu1];and_intros<;>go_simp
   clear hu1
   refine hK.out _ _ (fun _=>hS1) ?_
   clear hK K
   try simp only[Act.put,pq]
   refine z06 (i:=13) (o:=_) rfl (by kernel_rfl) (fun K hK=>?_)
   go_simp
   go_at_call 54;refine (hch _).mono ?_;rintro e u2 ⟨rfl,hb2⟩
   have hY2:=z01 hY1 hb2 hY1.size
   have hS2:=HSS.out u2 hY2
   have hG2:=hG1.keep hb2
   refine hK.out _ _ (fun _=>hS2) ?_
   clear hK K
   try simp only[Act.put,pq]
   refine zt 14 hS2 ?_
   simp only[Act.put,pq]
   refine zt 15 hS2 ?_
   simp only[Act.put,pq]
   refine zt 16 hS2 ?_
   simp only[Act.put,pq]
   refine zt 17 hS2 ?_
   simp only[Act.put,pq]
   have hgl:u0.heap.size<u2.heap.size:=hG2.lt
   obtain⟨l0,l1,l2,l3,l4,l5,l6,l7,l8,l9,n0,n1,n2,n3,n4,n5,n6,n7,n8,n9⟩:=hG2
   refine z06 (i:=19) (o:=_) rfl (by kernel_rfl) (fun K hK=>?_)
   go_simp
   refine hK.out _ _ (fun _=>HSS.out _ (bel10 hY2 hY0.size)) ?_
   clear hK K
   try simp only[Act.put,pq]
   refine z06 (i:=20) (o:=_) rfl (by kernel_rfl) (fun K hK=>?_)
   go_simp
   refine hK.out _ _ (fun _=>HSS.out _ (bel10 hY2 hY0.size)) ?_
   clear hK K
   try simp only[Act.put,pq]
   refine z06 (i:=21) (o:=_) rfl (by kernel_rfl) (fun K hK=>?_)
   go_simp
   refine hK.out _ _ (fun h=>absurd h (by decide)) ?_
   clear hK K
   refine z0f (by kernel_rfl) ?_ _
   try simp only[Act.put,pq]
   go_wp2_with fail
   go_meet
   refine⟨u0.heap.size,rfl,rfl,hY0.size,(by and_intros<;>go_simp),(bel10 hY2 hY0.size)⟩
  case rest =>
   obtain⟨g4,rfl,rfl,hg4,hL,hb⟩:=hcut
   have hzc:=hb.size
   have hBc:Below w.heap.size w wc:=z01 hBx hb hBx.size
   have hg4w:g4<wc.heap.size:=block_lt_of_cell hL.1
   obtain⟨gmc,g5,g6,g7,g8,g9,gq7,gq8,gq9,gn0,gn4,grow,gR,gln⟩:=HM.out
   have kmc:=gmc.block (hb.block M hMl)
   have k5:=g5.keepN z02 (w':=wc) (S':=z2u w2.heap.size N0) (fun b hb'=>⟨hb',hb.block b (by have:=hb'.2;omega)⟩)
   have k6:=g6.keepN z0d (w':=wc) (S':=z2u w2.heap.size N0) (fun b hb'=>⟨hb',hb.block b (by have:=hb'.2;omega)⟩)
   have k7:=z04 g7 hb
   have k8:=z04 g8 hb
   have k9:=z04 g9 hb
   have kR:=gR.block (hb.block _ (by have:=HZ.out;omega))
   have krow:=grow.put (w':=wc) (nr _) hb.size (fun b _ hb'=>hb.block b hb')
   have hbA:=HSS.out wc hb
   have t5:wc.cell? ⟨w.heap.size+1,5,none⟩=some (.int .i64 l.answer.k):=hbA.2.2.2.2.2.2.2.2.2.1
   have t0:=z00 hd0 hb
   obtain⟨b8,o8,f8,X8,C8,e8,hb8,hf8,hrep8,x0,x1,x2,x3,x4,x5,x6,x7,x8⟩:=z25 (HX.out.now hBc).1.2.2.2.2.1 him
   obtain rfl:f=f8:=Option.some.inj (HE.out.2.2.2.2.2.2.2.2.2.2.1.symm.trans hf8)
   subst e8
   have kmc':=kmc
   obtain⟨z0,z1,z2,z3,z4,z5,z6,z7,z8,z9⟩:=kmc'
   have HK:=zh (ai kmc (ai k5 (ai k6 (ai k7 (ai k8 (ai k9 (ai kR krow)))))))
   have HB:=zh (ai hBc hg4)
   clear kmc k5 k6 k7 k8 k9 kR krow hbA gmc g5 g6 g7 g8 g9 grow gR hb hBc HSS hch hBx x0 x1 x3 x4 x5 x6 x7 x8 hrep8 hf8 hb8 hd0
   cases tk
   ·have HR:=zh (HE.out.1 (.inl rfl))
    go_upto_region 10 with (go_quiet (fail))
    obtain⟨⟨q0,q1,q2,q3,q4,q5,q6,q7,q8,q9⟩,r0,r1,r2,r3,r4,r5,r6,r7,r8,r9⟩:=HK.out.2.2.2.2.2.2.1
    have hl2:w.heap.size+2<wc.heap.size:=HK.out.2.2.2.2.2.2.1.lt
    go_wp2_with fail
    refine bpr Tryz.results19 (.tuple #[.agg #[.slice A5 m c5,.slice A6 P.length c6,.int .i64 p.tries,.int .i64 p.base,.int .i64 p.cap,.slice A7 ins.length c7,.slice (some ⟨gc,0,none⟩) m c8,.slice A9 m c9,.int .i64 now,.int .i64 last],.slice none 0 0,.bool false,.int .i64 0]) ?_
    generalize hWe:World.setCell _ _ _=We
    rw[HR.out]
    have hrw:=HK.out.2.2.2.2.2.2.2.put (w':=We) (a:=w.heap.size) (by omega) (by rw[<-hWe];simp) (fun b h1 h2=>by
     rw[<-hWe]
     iterate 10 rw[Below.heap_setCell _ _ _ _ (by simp only[ne_eq];omega)]
     try simp only[bqh])
    refine⟨⟨_,_,_,_,_,_,_,_,_,_,_,_,?_,hrw⟩,?_⟩
    ·dsimp only
     rw[HE.out.2.2.2.2.1,HE.out.2.2.2.1,HE.out.2.2.2.2.2.2.2.2.1]
     rfl
    rw[<-hWe]
    iterate 10 refine z03 ?_ (by dsimp only;omega)
    exact z08 HB.out.1 (show Below wc.heap.size wc _ from bel)
   by_cases hk:l.answer.k=f.type
   ·have hk':(f.type != l.answer.k)=false:=by simpa using hk.symm
    have HT:=zh (show ¬ (true=false\/l.answer.k≠f.type) from fun h=>h.elim (fun h=>by cases h) (fun h=>h hk))
    clear hk
    go_upto_region 11 with (go_quiet (fail))
    have ho0:=HK.out.2.2.2.2.1
    obtain⟨e0,e1,e2,e3,e4,e5,e6,e7,e8,e9⟩:=z5q ho0 HE.out.2.2.2.2.2.2.2.2.2.1 him
    have f0:=ho0.frozenAt (i*10)
    have f1:=ho0.frozenAt (i*10+1)
    have f2:=ho0.frozenAt (i*10+2)
    have f3:=ho0.frozenAt (i*10+3)
    have f4:=ho0.frozenAt (i*10+4)
    have f5:=ho0.frozenAt (i*10+5)
    have f6:=ho0.frozenAt (i*10+6)
    have f7:=ho0.frozenAt (i*10+7)
    have f8:=ho0.frozenAt (i*10+8)
    have f9:=ho0.frozenAt (i*10+9)
    have hgu:gc<wc.heap.size:=block_lt_of_cell e0
    obtain⟨p0,p1,p2,p3,p4,p5,p6,p7,p8,p9⟩:=hL
    go_upto_region 12 with fail
    refine z0k ?_;intro W2 hW2
    have hst:W2.ownsRow N0 62 10 (.slice (some ⟨gc,0,none⟩) m c8) m ((cs.set i rc).flatMap Cll.cs):=by
     rw[hW2];exact calls_stored ho0 (by have:=HE.out.2.2.2.2.1;have:=HE.out.2.2.2.2.2.2.2.2.1;omega)
    have hbk:∀ bb:Nat,bb≠gc->W2.heap[bb]?=wc.heap[bb]?:=fun bb hne=>by
     rw[hW2]
     iterate 10 rw[Below.heap_setCell _ _ _ _ (by exact hne)]
     try simp only[bqh]
    have hz2:W2.heap.size=wc.heap.size:=by rw[hW2];simp
    have hgN:=(gq8 gc rfl)
    have hZ:=HZ.out
    have hB2:Below w.heap.size wc W2:=by
     rw[hW2]
     iterate 10 refine z03 ?_ (by show w.heap.size<=gc;omega)
     exact (show Below wc.heap.size wc _ from bel).mono (by have:=HB.out.1.size;omega)
    have j7:=z09 HK.out.2.2.2.1 (w':=W2) (fun q hq _=>hbk q (fun e=>(gq7 q hq).2.2.1 (by rw[e];rfl)))
    have j9:=z09 HK.out.2.2.2.2.2.1 (w':=W2) (fun q hq _=>hbk q (fun e=>(gq8 gc rfl).2.2 (by rw[<-e];exact hq.symm)))
    have j5:=HK.out.2.1.keepN z02 (w':=W2) (S':=z2u w2.heap.size N0) (fun b hb'=>⟨hb',hbk b (by have:=hb'.2;omega)⟩)
    have j6:=HK.out.2.2.1.keepN z0d (w':=W2) (S':=z2u w2.heap.size N0) (fun b hb'=>⟨hb',hbk b (by have:=hb'.2;omega)⟩)
    have hcm:=HE.out.2.2.2.2.1.trans HE.out.2.2.2.2.2.2.2.2.1
    have hset:=HE.out.2.2.1
    have hren:=ren_of j5 j6 j7 hst j9 gln (by have:=HE.out.2.2.2.2.2.2.2.2.2.2.2.1;have:=HE.out.2.2.2.2.2.2.2.2.1;omega) HE.out.2.2.2.2.2.2.2.1 (by have:=HE.out.2.2.2.2.2.2.2.2.2.2.2;omega) (by omega) (by rw[List.length_set];exact hcm) (HE.out.2.2.2.1.trans HE.out.2.2.2.2.2.2.2.2.1) HE.out.2.2.2.2.2.2.1.1 (fun x hx=>zar (hset.2.2.2.2 x hx)) HE.out.2.2.2.2.2.2.1.2.2
    have hbec:=ref_becomes A5 m c5 F A6 P.length c6 P p A7 ins.length c7 ins (some ⟨gc,0,none⟩) m c8 (cs.set i rc) A9 m c9 vs now last none 0 [] (w.heap.size+3) W2 hren HE.out.2.2.2.2.2.1 hset HE.out.2.2.2.1 (World.ownsRow_nil _ _ _ _) (fun x hx=>absurd hx List.not_mem_nil) (Nat.zero_le _) (by omega)
    obtain⟨r4,hr4⟩:∃ r4,r4=becE ⟨F,P,p,ins,cs.set i rc,vs,now,last⟩ []:=⟨_,rfl⟩
    rw[<-hr4] at hbec
    have HR:=zh (HE.out.2.1 r4 HT.out hr4)
    clear hr4
    obtain⟨⟨F',P',p',ins',cs',vs',now',last'⟩,ls',er'⟩:=r4
    have hR2:=HK.out.2.2.2.2.2.2.1.block (hbk (w.heap.size+2) (by omega))
    have hBW:Below w.heap.size w W2:=HB.out.1.trans hB2
    have kmc2:=HK.out.1.block (hbk M hMg)
    have hMl2:M<W2.heap.size:=by omega
    have hl2:w.heap.size+2<W2.heap.size:=by omega
    have hS3:w.heap.size+3<=W2.heap.size:=by omega
    clear hZ hz2 hW2 hst hB2 j5 j6 j7 j9 ho0 hren hset hbk e0 f0 p0 z0 e1 f1 p1 z1 e2 f2 p2 z2 e3 f3 p3 z3 e4 f4 p4 z4 e5 f5 p5 z5 e6 f6 p6 z6 e7 f7 p7 z7 e8 f8 p8 z8 e9 f9 p9 z9
    obtain⟨z0,z1,z2,z3,z4,z5,z6,z7,z8,z9⟩:=kmc2
    go_wp2_with (go_at_call 28;refine hbec.mono ?_;rintro e w5 ⟨⟨B',d',A',c',A1',c1',A2',c2',A3',c3',A4',c4',rfl,hrw⟩,hb5⟩;have hz5:=hb5.size;have hl5:w.heap.size+2<w5.heap.size:=(by omega);obtain⟨⟨q0,q1,q2,q3,q4,q5,q6,q7,q8,q9⟩,r0,r1,r2,r3,r4,r5,r6,r7,r8,r9⟩:=hR2.block (hb5.block (w.heap.size+2) (by omega)))
    refine bpr Tryz.results19 (.tuple #[.agg #[.slice B' F'.length d',.slice A' P'.length c',.int .i64 p'.tries,.int .i64 p'.base,.int .i64 p'.cap,.slice A1' ins'.length c1',.slice A2' cs'.length c2',.slice A3' vs'.length c3',.int .i64 now',.int .i64 last'],.slice A4' ls'.length c4',.bool (er'==0),.int .i64 er']) ?_
    generalize hWe:World.alloc _ _=We
    rw[HR.out]
    have hrw':=EngRow.put (w':=We) (a:=w.heap.size) (show EngRow (w.heap.size+3) w5 ⟨F',P',p',ins',cs',vs',now',last'⟩ ls' B' d' A' c' A1' c1' A2' c2' A3' c3' A4' c4' from hrw) (by omega) (by rw[<-hWe];simp) (fun b h1 h2=>by
     rw[<-hWe,Below.heap_alloc _ _ _ (by simp;omega)]
     iterate 10 rw[Below.heap_setCell _ _ _ _ (by simp only[ne_eq];omega)])
    refine⟨⟨_,_,_,_,_,_,_,_,_,_,_,_,rfl,hrw'⟩,?_⟩
    rw[<-hWe]
    refine Below.alloc ?_ (by simp;omega) _
    iterate 10 refine z03 ?_ (by dsimp only;omega)
    exact hBW.trans (hb5.mono (by omega))
   have hk':(f.type != l.answer.k)=true:=by simpa using fun e=>hk (Eq.symm e)
   have HR:=zh (HE.out.1 (.inr hk))
   clear hk
   go_upto_region 10 with (go_quiet (fail))
   obtain⟨⟨q0,q1,q2,q3,q4,q5,q6,q7,q8,q9⟩,r0,r1,r2,r3,r4,r5,r6,r7,r8,r9⟩:=HK.out.2.2.2.2.2.2.1
   have hl2:w.heap.size+2<wc.heap.size:=HK.out.2.2.2.2.2.2.1.lt
   go_wp2_with fail
   refine bpr Tryz.results19 (.tuple #[.agg #[.slice A5 m c5,.slice A6 P.length c6,.int .i64 p.tries,.int .i64 p.base,.int .i64 p.cap,.slice A7 ins.length c7,.slice (some ⟨gc,0,none⟩) m c8,.slice A9 m c9,.int .i64 now,.int .i64 last],.slice none 0 0,.bool false,.int .i64 0]) ?_
   generalize hWe:World.setCell _ _ _=We
   rw[HR.out]
   have hrw:=HK.out.2.2.2.2.2.2.2.put (w':=We) (a:=w.heap.size) (by omega) (by rw[<-hWe];simp) (fun b h1 h2=>by
    rw[<-hWe]
    iterate 10 rw[Below.heap_setCell _ _ _ _ (by simp only[ne_eq];omega)]
    try simp only[bqh])
   refine⟨⟨_,_,_,_,_,_,_,_,_,_,_,_,?_,hrw⟩,?_⟩
   ·dsimp only
    rw[HE.out.2.2.2.2.1,HE.out.2.2.2.1,HE.out.2.2.2.2.2.2.2.2.1]
    rfl
   rw[<-hWe]
   iterate 10 refine z03 ?_ (by dsimp only;omega)
   exact z08 HB.out.1 (show Below wc.heap.size wc _ from bel)
 have gz:(engErr g != 0)=true:=by simpa using z1
 have HR:=zh (hrr.trans (hearE_bad z1))
 generalize engErr g=er at h1 gz HR
 clear hX hg hrr z1 hwf hFm h3 h2 hPl
 go_enter Tryz.func19,Tryz.ntmps19
 go_wp2_with (go_at_call 14;refine (h1 _ (HX.out.now bel)).mono ?_;rintro e w1 ⟨rfl,hb1⟩;refine zb hb1 ?_;rintro ⟨hc1,hf1⟩ hz1 hy1 hx1;refine szz w1 w ?_;intros)
 refine bpr Tryz.results19 (.tuple #[.agg #[.slice none 0 0,.slice none 0 0,.int .i64 0,.int .i64 0,.int .i64 0,.slice none 0 0,.slice none 0 0,.slice none 0 0,.int .i64 0,.int .i64 0],.slice none 0 0,.bool false,.int .i64 er]) ?_
 rw[HR.out]
 exact⟨HearIs.nil0 er rfl,bel⟩
end Go.Proofs.YtldhlpjjcnlbcaaGreat
