/- Texts merged (mergeh.py): Eng8. -/
import Derived.Test.YtldhlpjjcnlbcaaGreatEng6
import Derived.Test.YtldhlpjjcnlbcaaGreatEng7
import Derived.Test.YtldhlpjjcnlbcaaGreatCall1
import Derived.Test.YtldhlpjjcnlbcaaGreatHeldX
/- engine.Check. (printed by mkeng8.py) -/
set_option maxRecDepth 100000
set_option maxHeartbeats 8000000
namespace Go.Proofs.YtldhlpjjcnlbcaaGreat
open Go.RowKit
theorem mot_pack {y:World}{a N0 M:Nat}{F:List Fld}{P:List Pag}{p:Pol}{ins:List Fct}{cs:List Cll}{vs:List Val}{now last:Int}{A5 A6 A7 A8 A9:Option Addr}{c5 c6 c7 c8 c9 m:Nat}
  (hmc:MotC y M (.slice A5 m c5) (.slice A6 P.length c6) p (.slice A7 ins.length c7) (.slice A8 m c8) (.slice A9 m c9) now last (.slice none 0 0))(hmf:MotF y M)
  (h5:Sl y (z2u a N0) 9 (RFld y (z2u a N0)) A5 m F)(h6:Sl y (z2u a N0) 8 (RPag y (z2u a N0)) A6 P.length P)
  (h7:y.ownsRow N0 72 7 (.slice A7 ins.length c7) ins.length (ins.flatMap Fct.cs))(h8:y.ownsRow N0 62 10 (.slice A8 m c8) m (cs.flatMap Cll.cs))(h9:y.ownsRow N0 44 3 (.slice A9 m c9) m (vs.flatMap Val.cs))
  (hw:∀ x∈ins,x.wf)(hM:N0<=M)(q7:∀ q,(Value.slice A7 ins.length c7).ownBlock=some q->q≠M/\some q≠(Value.slice A8 m c8).ownBlock/\some q≠(Value.slice A9 m c9).ownBlock) :
  MotG y M A5 m c5 (.slice A6 P.length c6) p (.slice A7 ins.length c7) A8 c8 A9 c9 now N0 (.slice none 0 0) [] ⟨cs,vs,last,[]⟩ /\
  ∃ S:Nat -> Prop,Sl y S 9 (RFld y S) A5 m F/\Sl y S 8 (RPag y S) A6 P.length P/\Sl y S 7 RFct A7 ins.length ins/\(∀ b,S b->b<y.heap.size)/\(∀ b,S b->Mfree M A8 m c8 A9 c9 (.slice none 0 0) b):=by
 have hMl:M<y.heap.size:=hmc.lt
 refine⟨⟨hmc,hmf,h8,h9,World.ownsRow_nil _ _ _ _⟩,fun b=>z2u a N0 b\/(Value.slice A7 ins.length c7).ownBlock=some b,h5.keepN z02 (fun b hb=>⟨.inl hb,rfl⟩),h6.keepN z0d (fun b hb=>⟨.inl hb,rfl⟩),?_,fun b hb=>?_,fun b hb=>?_⟩
 ·obtain⟨A,c,e,_,hs⟩:=ownFct h7 rfl hw
  cases e
  refine⟨hs.1,fun h0=>?_⟩
  obtain⟨b,o,e,_,hc⟩:=hs.2 h0
  exact⟨b,o,e,.inr (by rw[e];rfl),hc⟩
 ·rcases hb with hb | hb
  ·have:=hb.2;omega
  exact (h7.lt b hb).2
 rcases hb with hb | hb
 ·have h2:=hb.2
  exact⟨by omega,fun e=>by have:=(h8.lt b e.symm).1;omega,fun e=>by have:=(h9.lt b e.symm).1;omega,fun e=>by cases e⟩
 exact⟨(q7 b hb).1,(q7 b hb).2.1,(q7 b hb).2.2,fun e=>by cases e⟩
theorem engine_Check (B:Option Addr)(m d:Nat)(F:List Fld)(A:Option Addr)(n c:Nat)(P:List Pag)(p:Pol)(A1:Option Addr)(n1 c1:Nat)(ins:List Fct)(A2:Option Addr)(n2 c2:Nat)(cs:List Cll)(A3:Option Addr)(n3 c3:Nat)(vs:List Val)(now last:Int)(w:World)
  (hX:REn w B m d F A n c P A1 n1 c1 ins A2 n2 c2 cs A3 n3 c3 vs)(hO:z2i F) :
  Calls Tryz.prog 12 #[.agg #[.slice B m d,.slice A n c,.int .i64 p.tries,.int .i64 p.base,.int .i64 p.cap,.slice A1 n1 c1,.slice A2 n2 c2,.slice A3 n3 c3,.int .i64 now,.int .i64 last]] w (RetI w (engErr ⟨F,P,p,ins,cs,vs,now,last⟩)):=by
 have h1:=fun w (h:REn w B m d F A n c P A1 n1 c1 ins A2 n2 c2 cs A3 n3 c3 vs)=>z5n B m d F A n c P w h.1 hO
 have h2:=fun w=>z3h p.tries p.base p.cap w
 have h3:=fun w (h:REn w B m d F A n c P A1 n1 c1 ins A2 n2 c2 cs A3 n3 c3 vs)=>zde B m d F A n c A1 n1 c1 ins w (h.1.1.l (by decide)) (h.2.1.1.l (by decide)) h.2.1.2.1 h.1.2.2.2.2.1 h.2.1.2.2
 have h4:=fun w h=>engine_calls B m d F A n c P p A1 n1 c1 ins A2 n2 c2 cs A3 n3 c3 vs now last w h
 have h5:=fun w=>zc8 (.slice B m d) (.slice A n c) (.slice A1 n1 c1) (.slice A2 n2 c2) (.slice A3 n3 c3) p now last w
 have h6:=fun w h=>engine_Copy B m d F A n c P p A1 n1 c1 ins A2 n2 c2 cs A3 n3 c3 vs now last w h
 obtain⟨g,hg⟩:∃ g:Eng,g=⟨F,P,p,ins,cs,vs,now,last⟩:=⟨_,rfl⟩
 have he0:z2k g=if formErr F P≠0 then formErr F P else if gapCheck p≠0 then gapCheck p else if factsCheck F ins≠0 then factsCheck F ins
  else if z29 F p cs vs last≠0 then z29 F p cs vs last else if z4d now last=true then 0 else 4:=by rw[hg];rfl
 have hset:z2k g=0->SetOk F p ins now cs last/\vs.length=F.length:=fun h=>by have:=zf1 h;rw[hg] at this;exact this
 have hee:engErr g=if z2k g≠0 then z2k g else if (setP F p ins now cs vs last F.length).ltrs=[]/\(setP F p ins now cs vs last F.length).calls=cs/\(setP F p ins now cs vs last F.length).vals=vs then 0 else 15:=by rw[hg];rfl
 rw[<-hg]
 clear hg
 obtain⟨er,her⟩:∃ er,er=engErr g:=⟨_,rfl⟩
 rw[<-her]
 rw[show (⟨p.tries,p.base,p.cap⟩:Pol)=p from rfl] at h2
 generalize formErr F P=e1 at h1 he0
 generalize gapCheck p=e2 at h2 he0
 generalize factsCheck F ins=e3 at h3 he0
 generalize hc4:z29 F p cs vs last=e4 at h4 he0
 have hwf:∀ x∈ins,x.wf:=Sl.all_wf hX.2.1.2.2 fun _ _ h=>h.2
 have hln:ins.length<=140737488351232/\cs.length<=140737488351232/\vs.length<=140737488351232:=by
  rw[hX.2.1.2.2.len,hX.2.2.1.2.2.len,hX.2.2.2.2.2.len]
  exact⟨hX.2.1.1.l (by decide),hX.2.2.1.1.l (by decide),hX.2.2.2.1.l (by decide)⟩
 have HE:=zh (ai he0 (ai hset (ai hee (ai her (ai hwf (ai hO (ai hc4 hln)))))))
 have HX:=zh hX
 clear hX hO he0 hset hee her hwf hc4 hln
 have ix0:∀ w:World,(Instr.index 69 (.agg #[.int .i64 e1,.int .i64 e2,.int .i64 e3,.int .i64 e4]) (.int .i64 0)).run Tryz.prog w=.ok (.int .i64 e1) w:=fun _=>by kernel_rfl
 have ix1:∀ w:World,(Instr.index 69 (.agg #[.int .i64 e1,.int .i64 e2,.int .i64 e3,.int .i64 e4]) (.int .i64 1)).run Tryz.prog w=.ok (.int .i64 e2) w:=fun _=>by kernel_rfl
 have ix2:∀ w:World,(Instr.index 69 (.agg #[.int .i64 e1,.int .i64 e2,.int .i64 e3,.int .i64 e4]) (.int .i64 2)).run Tryz.prog w=.ok (.int .i64 e3) w:=fun _=>by kernel_rfl
 have ix3:∀ w:World,(Instr.index 69 (.agg #[.int .i64 e1,.int .i64 e2,.int .i64 e3,.int .i64 e4]) (.int .i64 3)).run Tryz.prog w=.ok (.int .i64 e4) w:=fun _=>by kernel_rfl
 go_enter Tryz.func12,Tryz.ntmps12
 go_upto_region 1 with fail
 refine z0k ?_;intro W0 hW0
 have hS0:W0.cell? ⟨w.heap.size,0,none⟩=some (.slice B m d)/\W0.cell? ⟨w.heap.size,1,none⟩=some (.slice A n c)/\W0.cell? ⟨w.heap.size,2,none⟩=some (.int .i64 p.tries)/\W0.cell? ⟨w.heap.size,3,none⟩=some (.int .i64 p.base)/\W0.cell? ⟨w.heap.size,4,none⟩=some (.int .i64 p.cap)/\W0.cell? ⟨w.heap.size,5,none⟩=some (.slice A1 n1 c1)/\W0.cell? ⟨w.heap.size,6,none⟩=some (.slice A2 n2 c2)/\W0.cell? ⟨w.heap.size,7,none⟩=some (.slice A3 n3 c3)/\W0.cell? ⟨w.heap.size,8,none⟩=some (.int .i64 now)/\W0.cell? ⟨w.heap.size,9,none⟩=some (.int .i64 last)/\Below W0.heap.size W0 W0/\W0.heap.size<=W0.heap.size:=⟨by rw[hW0];go_simp,by rw[hW0];go_simp,by rw[hW0];go_simp,by rw[hW0];go_simp,by rw[hW0];go_simp,by rw[hW0];go_simp,by rw[hW0];go_simp,by rw[hW0];go_simp,by rw[hW0];go_simp,by rw[hW0];go_simp,Below.refl _ _,nr _⟩
 have HW0:=zh hW0;clear hW0
 refine wp_quietC (C:=fun w'=>w'.cell? ⟨w.heap.size,0,none⟩=some (.slice B m d)/\w'.cell? ⟨w.heap.size,1,none⟩=some (.slice A n c)/\w'.cell? ⟨w.heap.size,2,none⟩=some (.int .i64 p.tries)/\w'.cell? ⟨w.heap.size,3,none⟩=some (.int .i64 p.base)/\w'.cell? ⟨w.heap.size,4,none⟩=some (.int .i64 p.cap)/\w'.cell? ⟨w.heap.size,5,none⟩=some (.slice A1 n1 c1)/\w'.cell? ⟨w.heap.size,6,none⟩=some (.slice A2 n2 c2)/\w'.cell? ⟨w.heap.size,7,none⟩=some (.slice A3 n3 c3)/\w'.cell? ⟨w.heap.size,8,none⟩=some (.int .i64 now)/\w'.cell? ⟨w.heap.size,9,none⟩=some (.int .i64 last)/\Below W0.heap.size W0 w'/\W0.heap.size<=w'.heap.size) (by kernel_rfl) (by kernel_rfl) (held10d hS0) ?_
 clear hS0
 repeat (first
  | go_big_quiet_skip
  | (go_big_quiet_want;go_big_quiet_op;go_big_quiet_on)
  |
   go_big_quiet_want
   apply Exists.intro
   refine⟨fun w' hw'=>?_,?_⟩
   ·unfold Oper.quietAt
    have hqs:=hw'
    obtain⟨hq0,hq1,hq2,hq3,hq4,hq5,hq6,hq7,hq8,hq9,hqb,hql⟩:=hw'
    try go_simp
    first
     | with_reducible rfl
     | exact⟨rfl,rfl⟩
     | (go_at_call 22;refine (h1 _ (HX.out.now (z08 (by rw[HW0.out];exact bel) hqb))).mono ?_;rintro e w2 ⟨rfl,hb2⟩;exact⟨rfl,held10 hqs hb2⟩) | (go_at_call 23;refine (h2 _).mono ?_;rintro e w2 ⟨rfl,hb2⟩;exact⟨rfl,held10 hqs hb2⟩) | (go_at_call 34;refine (h3 _ (HX.out.now (z08 (by rw[HW0.out];exact bel) hqb))).mono ?_;rintro e w2 ⟨rfl,hb2⟩;exact⟨rfl,held10 hqs hb2⟩) | (go_at_call 35;refine (h4 _ (HX.out.now (z08 (by rw[HW0.out];exact bel) hqb))).mono ?_;rintro e w2 ⟨rfl,hb2⟩;exact⟨rfl,held10 hqs hb2⟩)
   go_big_quiet_on
   try go_simp)
 refine wpQuiet_nil ?_;intro wq2;(try simp only[and_imp]);intro hq0 hq1 hq2 hq3 hq4 hq5 hq6 hq7 hq8 hq9 hb2 hql;clear hq0 hq1 hq2 hq3 hq4 hq5 hq6 hq7 hq8 hq9 hql
 have hW0:=HW0.out;clear HW0;subst hW0
 refine zb hb2 ?_;rintro ⟨hc2,hf2⟩ hz2 hy2 hx2
 have hBx:Below w.heap.size w wq2:=bel
 have hlx:w.heap.size<wq2.heap.size:=by have:=hb2.size;simp at this;omega
 have d0:wq2.cell? ⟨w.heap.size,0,none⟩=some (.slice B m d):=by go_simp
 have d1:wq2.cell? ⟨w.heap.size,1,none⟩=some (.slice A n c):=by go_simp
 have d2:wq2.cell? ⟨w.heap.size,2,none⟩=some (.int .i64 p.tries):=by go_simp
 have d3:wq2.cell? ⟨w.heap.size,3,none⟩=some (.int .i64 p.base):=by go_simp
 have d4:wq2.cell? ⟨w.heap.size,4,none⟩=some (.int .i64 p.cap):=by go_simp
 have d5:wq2.cell? ⟨w.heap.size,5,none⟩=some (.slice A1 n1 c1):=by go_simp
 have d6:wq2.cell? ⟨w.heap.size,6,none⟩=some (.slice A2 n2 c2):=by go_simp
 have d7:wq2.cell? ⟨w.heap.size,7,none⟩=some (.slice A3 n3 c3):=by go_simp
 have d8:wq2.cell? ⟨w.heap.size,8,none⟩=some (.int .i64 now):=by go_simp
 have d9:wq2.cell? ⟨w.heap.size,9,none⟩=some (.int .i64 last):=by go_simp
 clear hb2 hc2 hf2 h1 h2 h3 h4
 go_wp2_with fail
 go_loopw [20] (fun i wr=>∃ k:Nat,k<=4/\i=.int .i64 k/\Hid ((0<k->e1=0)/\(1<k->e2=0)/\(2<k->e3=0)/\(3<k->e4=0))/\wr=wq2) (fun i _=>4-(intOf i).toNat)
 case atStart=>exact⟨0,by omega,rfl,zh ⟨by omega,by omega,by omega,by omega⟩,rfl⟩
 case round =>
  obtain⟨k,hk,rfl,hz,hwq⟩:=hrel
  subst hwq
  rcases (by omega:k=0\/k=1\/k=2\/k=3\/k=4) with rfl | rfl | rfl | rfl | rfl
  ·by_cases hv:e1=0
   ·have gv:(e1 != 0)=false:=by simpa using hv
    have HV:=zh hv
    clear hv
    go_wp2_with fail
    go_roundw
    case rel=>exact⟨1,by omega,by go_num,zh ⟨fun _=>HV.out,by omega,by omega,by omega⟩,trivial⟩
    case measure=>simp[intOf]
   have gv:(e1 != 0)=true:=by simpa using hv
   have h0:z2k g=e1:=by rw[HE.out.1]; rw[if_pos hv]
   have hh:er=e1:=by rw[HE.out.2.2.2.1,HE.out.2.2.1,h0,if_pos hv]
   have HH:=zh hh
   clear hv h0 hh
   go_wp2_with fail
   refine bpr Tryz.results12 (.int .i64 e1) ?_
   rw[HH.out]
   exact⟨rfl,hBx⟩
  ·by_cases hv:e2=0
   ·have gv:(e2 != 0)=false:=by simpa using hv
    have HV:=zh hv
    clear hv
    go_wp2_with fail
    go_roundw
    case rel=>exact⟨2,by omega,by go_num,zh ⟨fun _=>hz.out.1 (by omega),fun _=>HV.out,by omega,by omega⟩,trivial⟩
    case measure=>simp[intOf]
   have gv:(e2 != 0)=true:=by simpa using hv
   have h0:z2k g=e2:=by rw[HE.out.1];rw[if_neg (by simpa using hz.out.1 (by omega))];rw[if_pos hv]
   have hh:er=e2:=by rw[HE.out.2.2.2.1,HE.out.2.2.1,h0,if_pos hv]
   have HH:=zh hh
   clear hv h0 hh
   go_wp2_with fail
   refine bpr Tryz.results12 (.int .i64 e2) ?_
   rw[HH.out]
   exact⟨rfl,hBx⟩
  ·by_cases hv:e3=0
   ·have gv:(e3 != 0)=false:=by simpa using hv
    have HV:=zh hv
    clear hv
    go_wp2_with fail
    go_roundw
    case rel=>exact⟨3,by omega,by go_num,zh ⟨fun _=>hz.out.1 (by omega),fun _=>hz.out.2.1 (by omega),fun _=>HV.out,by omega⟩,trivial⟩
    case measure=>simp[intOf]
   have gv:(e3 != 0)=true:=by simpa using hv
   have h0:z2k g=e3:=by rw[HE.out.1];rw[if_neg (by simpa using hz.out.1 (by omega))];rw[if_neg (by simpa using hz.out.2.1 (by omega))];rw[if_pos hv]
   have hh:er=e3:=by rw[HE.out.2.2.2.1,HE.out.2.2.1,h0,if_pos hv]
   have HH:=zh hh
   clear hv h0 hh
   go_wp2_with fail
   refine bpr Tryz.results12 (.int .i64 e3) ?_
   rw[HH.out]
   exact⟨rfl,hBx⟩
  ·by_cases hv:e4=0
   ·have gv:(e4 != 0)=false:=by simpa using hv
    have HV:=zh hv
    clear hv
    go_wp2_with fail
    go_roundw
    case rel=>exact⟨4,by omega,by go_num,zh ⟨fun _=>hz.out.1 (by omega),fun _=>hz.out.2.1 (by omega),fun _=>hz.out.2.2.1 (by omega),fun _=>HV.out⟩,trivial⟩
    case measure=>simp[intOf]
   have gv:(e4 != 0)=true:=by simpa using hv
   have h0:z2k g=e4:=by rw[HE.out.1];rw[if_neg (by simpa using hz.out.1 (by omega))];rw[if_neg (by simpa using hz.out.2.1 (by omega))];rw[if_neg (by simpa using hz.out.2.2.1 (by omega))];rw[if_pos hv]
   have hh:er=e4:=by rw[HE.out.2.2.2.1,HE.out.2.2.1,h0,if_pos hv]
   have HH:=zh hh
   clear hv h0 hh
   go_wp2_with fail
   refine bpr Tryz.results12 (.int .i64 e4) ?_
   rw[HH.out]
   exact⟨rfl,hBx⟩
  have hz4:e1=0/\e2=0/\e3=0/\e4=0:=⟨hz.out.1 (by omega),hz.out.2.1 (by omega),hz.out.2.2.1 (by omega),hz.out.2.2.2 (by omega)⟩
  have hn0:z2k g=if z4d now last=true then 0 else 4:=by
   rw[HE.out.1]
   rw[if_neg (by simpa using hz4.1),if_neg (by simpa using hz4.2.1),if_neg (by simpa using hz4.2.2.1),if_neg (by simpa using hz4.2.2.2)]
  cases hnk:z4d now last
  ·rw[hnk] at h5
   have hh:er=4:=by rw[HE.out.2.2.2.1,HE.out.2.2.1,hn0,hnk];rfl
   have HH:=zh hh
   clear hh hn0 hnk hz4
   go_wp2_with (go_at_call 36;refine (h5 _).mono ?_;rintro e w3 ⟨rfl,hb3⟩;refine zb hb3 ?_;rintro ⟨hc3,hf3⟩ hz3 hy3 hx3;refine szz w3 wr ?_;intros)
   refine bpr Tryz.results12 (.int .i64 4) ?_
   rw[HH.out]
   exact⟨rfl,z01 hBx hb3 hBx.size⟩
  rw[hnk] at h5
  have h0:z2k g=0:=by rw[hn0,hnk];rfl
  obtain⟨hok,hvl⟩:=HE.out.2.1 h0
  have hcl:cs.length=F.length:=hok.2.2.2.1
  have her:=HE.out.2.2.2.1
  rw[HE.out.2.2.1,h0,if_neg (by simp)] at her
  have hFl:F.length=m:=HX.out.1.2.2.2.2.1.len
  have HS:=zh (ai hok (ai hvl (ai hcl (ai her hFl))))
  clear h0 hn0 hnk hz4 hok hvl hcl her hFl hz
  go_upto_region 10 with (first
   | (go_at_call 36;refine (h5 _).mono ?_;rintro e w3 ⟨rfl,hb3⟩;refine zb hb3 ?_;rintro ⟨hc3,hf3⟩ hz3 hy3 hx3;refine szz w3 wr ?_;intros)
   | (go_at_call 13;refine (h6 _ (HX.out.now (z08 hBx (show Below wr.heap.size wr _ from bel)))).mono ?_;rintro e w4 ⟨A5,c5,A6,c6,A7,c7,A8,c8,A9,c9,N0,N1,N2,rfl,hcop,hb4⟩;refine zb hb4 ?_;rintro ⟨hc4,hf4⟩ hz4 hy4 hx4;refine szz w4 wr ?_;intros;refine szz w4 w3 ?_;intros))
  refine z0k ?_;intro W9 hW9
  obtain⟨k5,k6,k7,k8,k9,s5,s6,o7,o8,o9,q7,q8,n0,n1',n2',n3'⟩:=hcop
  have hb9:Below w4.heap.size w4 W9:=by rw[hW9];exact (Below.refl _ _).alloc (nr _) _
  have hmc:MotC W9 w4.heap.size (.slice A5 F.length c5) (.slice A6 P.length c6) p (.slice A7 ins.length c7) (.slice A8 cs.length c8) (.slice A9 vs.length c9) now last (.slice none 0 0):=by
   rw[hW9];exact⟨by go_simp,by go_simp,by go_simp,by go_simp,by go_simp,by go_simp,by go_simp,by go_simp,by go_simp,by go_simp,by go_simp⟩
  have hmf:MotF W9 w4.heap.size:=by rw[hW9];exact⟨by go_simp,by go_simp,by go_simp,by go_simp⟩
  have hB3:Below wr.heap.size wr w3:=hb3
  have hB4:Below wr.heap.size wr w4:=z08 hb3 hb4
  have hBW:Below wr.heap.size wr W9:=z01 hB4 hb9 hB4.size
  have hBw9:Below w.heap.size w W9:=z01 hBx hBW hBx.size
  have t6:=z00 d6 hBW
  have t7:=z00 d7 hBW
  have hz34:=hb4.size
  have hz3':=hb3.size
  have hz49:=hb9.size
  rw[HS.out.2.2.1,HS.out.2.1] at hmc
  rw[HS.out.2.2.1] at o8
  rw[HS.out.2.1] at o9
  rw[HS.out.2.2.1] at q8
  obtain⟨hmg,S,gS,gP,gI,gSo,gSf⟩:=mot_pack (a:=w3.heap.size) (N0:=N0) (cs:=cs) (vs:=vs) hmc hmf (s5.keepN z02 (fun b hb=>⟨hb,hb9.block b (by have:=hb.2;omega)⟩)) (s6.keepN z0d (fun b hb=>⟨hb,hb9.block b (by have:=hb.2;omega)⟩))
   (z04 o7 hb9) (z04 (z0c o8 n1') hb9) (z04 (z0c o9 (Nat.le_trans n1' n2')) hb9) HE.out.2.2.2.2.1 (by omega)
   (fun q hq=>⟨by have:=(o7.lt q hq).2;omega,fun e=>by have:=(o8.lt q e.symm).1;have:=q7 q hq;omega,fun e=>by have:=(o9.lt q e.symm).1;have:=q7 q hq;omega⟩)
  have hl1:=HE.out.2.2.2.2.2.2.2
  have hst:=zdy w4.heap.size F.length c5 F A5 S (.slice A6 P.length c6) p A7 ins.length c7 ins A8 c8 A9 c9 cs vs now last (.slice none 0 0) [] N0 W9 hmg gS gI hl1.1 gSo gSf (fun q hq=>by cases hq) (fun e=>by have:=(o8.lt _ e.symm).2;omega) (fun e=>by have:=(o9.lt _ e.symm).2;omega)
   (fun q hq e=>by have:=(o9.lt q e.symm).1;have:=q8 q hq;omega) (by omega) HE.out.2.2.2.2.2.1 HS.out.1 HS.out.2.1 (by simp) k5
  obtain⟨s,hs⟩:∃ s,s=setP F p ins now cs vs last F.length:=⟨_,rfl⟩
  have hEk:EOk p last F.length F.length s:=by rw[hs];exact (z5m (vs:=vs) HS.out.1 HS.out.2.1 (nr _)).2.1
  have hvo:∀ v∈s.vals,v.wf:=by rw[hs];exact fun v hv=>z48 (set_ok_vals HS.out.1 HS.out.2.1 v hv)
  have her:=HS.out.2.2.2.1
  rw[<-hs] at hst her
  have hbox:Mfree w4.heap.size A8 F.length c8 A9 c9 (.slice none 0 0) w.heap.size:=⟨by omega,fun e=>by have:=(o8.lt _ e.symm).1;omega,fun e=>by have:=(o9.lt _ e.symm).1;omega,fun e=>by cases e⟩
  have hwN:w.heap.size<=N0:=by omega
  have hwM:w.heap.size<=w4.heap.size:=by omega
  have hw9:w.heap.size<W9.heap.size:=by omega
  have HT:=zh (ai her (ai hEk (ai hvo (ai hbox hl1))))
  have HB9:=zh hBw9
  clear hs her hEk hvo hW9 hmc hmf s5 s6 o7 o8 o9 q7 q8 n0 n1' n2' n3' hmg gS gP gI gSo gSf hb9 hb3 hb4 hc3 hc4 hf3 hf4 hB3 hB4 hBW hbox hl1 hBw9 h5 h6
  go_upto_region 11 with (go_at_call 37;refine hst.mono ?_;rintro e w5 ⟨rfl,lv',hm5,hfr5,hob5,hbb5⟩)
  have hbq:w5.heap[w.heap.size]?=W9.heap[w.heap.size]?:=hfr5 _ hw9 HT.out.2.2.2.1
  replace t6:=(cob w.heap.size 6 hbq).trans t6
  replace t7:=(cob w.heap.size 7 hbq).trans t7
  have hlr:=hm5.2.2.2.2
  rw[List.nil_append] at hlr
  obtain⟨A4,c4,rfl,hq4⟩:=z4p hlr
  clear hlr
  have z6:=hm5.1.2.2.2.2.2.2.1
  have z7:=hm5.1.2.2.2.2.2.2.2.1
  have z10:=hm5.1.2.2.2.2.2.2.2.2.2.2
  have hB5:Below w.heap.size w w5:=HB9.out.trans (hbb5 _ hwM hwN)
  obtain⟨Ac,kc,ec,_,hsc⟩:=ownCll hm5.2.2.1 HT.out.2.1.cl (fun c hc=>zar (HT.out.2.1.ok c hc))
  cases ec
  obtain⟨Av,kv,ev,_,hsv⟩:=z6p hm5.2.2.2.1 HT.out.2.1.vl HT.out.2.2.1
  cases ev
  have hl5:w.heap.size<w5.heap.size:=by have:=hB5.size;have:=(hbb5 0 (Nat.zero_le _) (Nat.zero_le _)).size;omega
  have hM5:w4.heap.size<w5.heap.size:=block_lt_of_cell z6
  have HY:=zh (ai hB5 (ai hsc hsv))
  have h7:=fun w h h'=>equal_Cll A8 F.length c8 s.calls A2 n2 c2 cs w (by have:=HT.out.2.2.2.2.2.1;unfold inL;rw[HS.out.2.2.1] at this;exact this) (HX.out.2.2.1.1.l (by decide)) h h'
  have h8:=fun w h h'=>equal_Val A9 F.length c9 s.vals A3 n3 c3 vs w (by have:=HT.out.2.2.2.2.2.2;unfold inL;rw[HS.out.2.1] at this;exact this) (HX.out.2.2.2.1.l (by decide)) h h'
  clear hst hm5 hfr5 hob5 hbb5 hbq hq4 hB5 hsc hsv d0 d1 d2 d3 d4 d5 d6 d7 d8 d9
  by_cases hn:s.ltrs=[]
  ·have gl:decide ((0:Int)<(s.ltrs.length:Int))=false:=by rw[hn];rfl
   have gl':s.ltrs.length=0:=by rw[hn];rfl
   by_cases hc:s.calls=cs
   ·rw[decide_eq_true hc] at h7
    by_cases hv:s.vals=vs
    ·rw[decide_eq_true hv] at h8
     have HH:=zh (show er=0 by rw[HT.out.1,if_pos ⟨hn,hc,hv⟩])
     clear hn hc hv
     refine z0k ?_;intro W0 hW0
     have hS0:W0.cell? ⟨w4.heap.size,10,none⟩=some (.slice A4 s.ltrs.length c4)/\W0.cell? ⟨w4.heap.size,6,none⟩=some (.slice A8 F.length c8)/\W0.cell? ⟨w4.heap.size,7,none⟩=some (.slice A9 F.length c9)/\W0.cell? ⟨w.heap.size,6,none⟩=some (.slice A2 n2 c2)/\W0.cell? ⟨w.heap.size,7,none⟩=some (.slice A3 n3 c3)/\Below W0.heap.size W0 W0/\W0.heap.size<=W0.heap.size:=⟨by rw[hW0];go_simp,by rw[hW0];go_simp,by rw[hW0];go_simp,by rw[hW0];go_simp,by rw[hW0];go_simp,Below.refl _ _,nr _⟩
     have HW0:=zh hW0;clear hW0
     refine wp_quietC (C:=fun w'=>w'.cell? ⟨w4.heap.size,10,none⟩=some (.slice A4 s.ltrs.length c4)/\w'.cell? ⟨w4.heap.size,6,none⟩=some (.slice A8 F.length c8)/\w'.cell? ⟨w4.heap.size,7,none⟩=some (.slice A9 F.length c9)/\w'.cell? ⟨w.heap.size,6,none⟩=some (.slice A2 n2 c2)/\w'.cell? ⟨w.heap.size,7,none⟩=some (.slice A3 n3 c3)/\Below W0.heap.size W0 w'/\W0.heap.size<=w'.heap.size) (by kernel_rfl) (by kernel_rfl) (held5d hS0) ?_
     clear hS0
     repeat (first
      | go_big_quiet_skip
      | (go_big_quiet_want;go_big_quiet_op;go_big_quiet_on)
      |
       go_big_quiet_want
       apply Exists.intro
       refine⟨fun w' hw'=>?_,?_⟩
       ·unfold Oper.quietAt
        have hqs:=hw'
        obtain⟨hq0,hq1,hq2,hq3,hq4,hqb,hql⟩:=hw'
        try go_simp
        first
         | with_reducible rfl
         | exact⟨rfl,rfl⟩
         | (go_at_call 31;refine (h7 _ ((show Sl W0 (old W0) 10 RCll A8 F.length s.calls from by rw[HW0.out];exact HY.out.2.1).now hqb) (HX.out.2.2.1.2.2.now (z08 (show Below w.heap.size w W0 from by rw[HW0.out];exact HY.out.1) hqb))).mono ?_;rintro e w6 ⟨rfl,hb6⟩;exact⟨rfl,held5 hqs hb6⟩) | (go_at_call 38;refine (h8 _ ((show Sl W0 (old W0) 3 RVal A9 F.length s.vals from by rw[HW0.out];exact HY.out.2.2).now hqb) (HX.out.2.2.2.2.2.now (z08 (show Below w.heap.size w W0 from by rw[HW0.out];exact HY.out.1) hqb))).mono ?_;rintro e w6 ⟨rfl,hb6⟩;exact⟨rfl,held5 hqs hb6⟩)
       go_big_quiet_on
       try go_simp)
     refine wpQuiet_nil ?_;intro wq6;(try simp only[and_imp]);intro hq0 hq1 hq2 hq3 hq4 hb6 hql;clear hq0 hq1 hq2 hq3 hq4 hql
     have hW0:=HW0.out;clear HW0;subst hW0
     refine zb hb6 ?_;rintro ⟨hc6,hf6⟩ hz6 hy6 hx6
     go_wp2_with fail
     refine bpr Tryz.results12 (.int .i64 0) ?_
     rw[HH.out]
     exact⟨rfl,z08 HY.out.1 (show Below W0.heap.size W0 _ from bel)⟩
    rw[decide_eq_false hv] at h8
    have HH:=zh (show er=15 by rw[HT.out.1,if_neg (fun h=>hv h.2.2)])
    clear hn hc hv
    refine z0k ?_;intro W0 hW0
    have hS0:W0.cell? ⟨w4.heap.size,10,none⟩=some (.slice A4 s.ltrs.length c4)/\W0.cell? ⟨w4.heap.size,6,none⟩=some (.slice A8 F.length c8)/\W0.cell? ⟨w4.heap.size,7,none⟩=some (.slice A9 F.length c9)/\W0.cell? ⟨w.heap.size,6,none⟩=some (.slice A2 n2 c2)/\W0.cell? ⟨w.heap.size,7,none⟩=some (.slice A3 n3 c3)/\Below W0.heap.size W0 W0/\W0.heap.size<=W0.heap.size:=⟨by rw[hW0];go_simp,by rw[hW0];go_simp,by rw[hW0];go_simp,by rw[hW0];go_simp,by rw[hW0];go_simp,Below.refl _ _,nr _⟩
    have HW0:=zh hW0;clear hW0
    refine wp_quietC (C:=fun w'=>w'.cell? ⟨w4.heap.size,10,none⟩=some (.slice A4 s.ltrs.length c4)/\w'.cell? ⟨w4.heap.size,6,none⟩=some (.slice A8 F.length c8)/\w'.cell? ⟨w4.heap.size,7,none⟩=some (.slice A9 F.length c9)/\w'.cell? ⟨w.heap.size,6,none⟩=some (.slice A2 n2 c2)/\w'.cell? ⟨w.heap.size,7,none⟩=some (.slice A3 n3 c3)/\Below W0.heap.size W0 w'/\W0.heap.size<=w'.heap.size) (by kernel_rfl) (by kernel_rfl) (held5d hS0) ?_
    clear hS0
    repeat (first
     | go_big_quiet_skip
     | (go_big_quiet_want;go_big_quiet_op;go_big_quiet_on)
     |
      go_big_quiet_want
      apply Exists.intro
      refine⟨fun w' hw'=>?_,?_⟩
      ·unfold Oper.quietAt
       have hqs:=hw'
       obtain⟨hq0,hq1,hq2,hq3,hq4,hqb,hql⟩:=hw'
       try go_simp
       first
        | with_reducible rfl
        | exact⟨rfl,rfl⟩
        | (go_at_call 31;refine (h7 _ ((show Sl W0 (old W0) 10 RCll A8 F.length s.calls from by rw[HW0.out];exact HY.out.2.1).now hqb) (HX.out.2.2.1.2.2.now (z08 (show Below w.heap.size w W0 from by rw[HW0.out];exact HY.out.1) hqb))).mono ?_;rintro e w6 ⟨rfl,hb6⟩;exact⟨rfl,held5 hqs hb6⟩) | (go_at_call 38;refine (h8 _ ((show Sl W0 (old W0) 3 RVal A9 F.length s.vals from by rw[HW0.out];exact HY.out.2.2).now hqb) (HX.out.2.2.2.2.2.now (z08 (show Below w.heap.size w W0 from by rw[HW0.out];exact HY.out.1) hqb))).mono ?_;rintro e w6 ⟨rfl,hb6⟩;exact⟨rfl,held5 hqs hb6⟩)
      go_big_quiet_on
      try go_simp)
    refine wpQuiet_nil ?_;intro wq6;(try simp only[and_imp]);intro hq0 hq1 hq2 hq3 hq4 hb6 hql;clear hq0 hq1 hq2 hq3 hq4 hql
    have hW0:=HW0.out;clear HW0;subst hW0
    refine zb hb6 ?_;rintro ⟨hc6,hf6⟩ hz6 hy6 hx6
    go_wp2_with fail
    refine bpr Tryz.results12 (.int .i64 15) ?_
    rw[HH.out]
    exact⟨rfl,z08 HY.out.1 (show Below W0.heap.size W0 _ from bel)⟩
   rw[decide_eq_false hc] at h7
   have HH:=zh (show er=15 by rw[HT.out.1,if_neg (fun h=>hc h.2.1)])
   clear hn hc
   refine z0k ?_;intro W0 hW0
   have hS0:W0.cell? ⟨w4.heap.size,10,none⟩=some (.slice A4 s.ltrs.length c4)/\W0.cell? ⟨w4.heap.size,6,none⟩=some (.slice A8 F.length c8)/\W0.cell? ⟨w4.heap.size,7,none⟩=some (.slice A9 F.length c9)/\W0.cell? ⟨w.heap.size,6,none⟩=some (.slice A2 n2 c2)/\W0.cell? ⟨w.heap.size,7,none⟩=some (.slice A3 n3 c3)/\Below W0.heap.size W0 W0/\W0.heap.size<=W0.heap.size:=⟨by rw[hW0];go_simp,by rw[hW0];go_simp,by rw[hW0];go_simp,by rw[hW0];go_simp,by rw[hW0];go_simp,Below.refl _ _,nr _⟩
   have HW0:=zh hW0;clear hW0
   refine wp_quietC (C:=fun w'=>w'.cell? ⟨w4.heap.size,10,none⟩=some (.slice A4 s.ltrs.length c4)/\w'.cell? ⟨w4.heap.size,6,none⟩=some (.slice A8 F.length c8)/\w'.cell? ⟨w4.heap.size,7,none⟩=some (.slice A9 F.length c9)/\w'.cell? ⟨w.heap.size,6,none⟩=some (.slice A2 n2 c2)/\w'.cell? ⟨w.heap.size,7,none⟩=some (.slice A3 n3 c3)/\Below W0.heap.size W0 w'/\W0.heap.size<=w'.heap.size) (by kernel_rfl) (by kernel_rfl) (held5d hS0) ?_
   clear hS0
   repeat (first
    | go_big_quiet_skip
    | (go_big_quiet_want;go_big_quiet_op;go_big_quiet_on)
    |
     go_big_quiet_want
     apply Exists.intro
     refine⟨fun w' hw'=>?_,?_⟩
     ·unfold Oper.quietAt
      have hqs:=hw'
      obtain⟨hq0,hq1,hq2,hq3,hq4,hqb,hql⟩:=hw'
      try go_simp
      first
       | with_reducible rfl
       | exact⟨rfl,rfl⟩
       | (go_at_call 31;refine (h7 _ ((show Sl W0 (old W0) 10 RCll A8 F.length s.calls from by rw[HW0.out];exact HY.out.2.1).now hqb) (HX.out.2.2.1.2.2.now (z08 (show Below w.heap.size w W0 from by rw[HW0.out];exact HY.out.1) hqb))).mono ?_;rintro e w6 ⟨rfl,hb6⟩;exact⟨rfl,held5 hqs hb6⟩)
     go_big_quiet_on
     try go_simp)
   refine wpQuiet_nil ?_;intro wq6;(try simp only[and_imp]);intro hq0 hq1 hq2 hq3 hq4 hb6 hql;clear hq0 hq1 hq2 hq3 hq4 hql
   have hW0:=HW0.out;clear HW0;subst hW0
   refine zb hb6 ?_;rintro ⟨hc6,hf6⟩ hz6 hy6 hx6
   go_wp2_with fail
   refine bpr Tryz.results12 (.int .i64 15) ?_
   rw[HH.out]
   exact⟨rfl,z08 HY.out.1 (show Below W0.heap.size W0 _ from bel)⟩
  have gl:decide ((0:Int)<(s.ltrs.length:Int))=true:=by
   have:0<s.ltrs.length:=List.length_pos_iff.2 hn
   exact decide_eq_true (by omega)
  have gl':0<s.ltrs.length:=List.length_pos_iff.2 hn
  have HH:=zh (show er=15 by rw[HT.out.1,if_neg (fun h=>hn h.1)])
  clear hn
  refine z0k ?_;intro W0 hW0
  have hS0:W0.cell? ⟨w4.heap.size,10,none⟩=some (.slice A4 s.ltrs.length c4)/\W0.cell? ⟨w4.heap.size,6,none⟩=some (.slice A8 F.length c8)/\W0.cell? ⟨w4.heap.size,7,none⟩=some (.slice A9 F.length c9)/\W0.cell? ⟨w.heap.size,6,none⟩=some (.slice A2 n2 c2)/\W0.cell? ⟨w.heap.size,7,none⟩=some (.slice A3 n3 c3)/\Below W0.heap.size W0 W0/\W0.heap.size<=W0.heap.size:=⟨by rw[hW0];go_simp,by rw[hW0];go_simp,by rw[hW0];go_simp,by rw[hW0];go_simp,by rw[hW0];go_simp,Below.refl _ _,nr _⟩
  have HW0:=zh hW0;clear hW0
  refine wp_quietC (C:=fun w'=>w'.cell? ⟨w4.heap.size,10,none⟩=some (.slice A4 s.ltrs.length c4)/\w'.cell? ⟨w4.heap.size,6,none⟩=some (.slice A8 F.length c8)/\w'.cell? ⟨w4.heap.size,7,none⟩=some (.slice A9 F.length c9)/\w'.cell? ⟨w.heap.size,6,none⟩=some (.slice A2 n2 c2)/\w'.cell? ⟨w.heap.size,7,none⟩=some (.slice A3 n3 c3)/\Below W0.heap.size W0 w'/\W0.heap.size<=w'.heap.size) (by kernel_rfl) (by kernel_rfl) (held5d hS0) ?_
  clear hS0
  repeat (first
   | go_big_quiet_skip
   | (go_big_quiet_want;go_big_quiet_op;go_big_quiet_on)
   |
    go_big_quiet_want
    apply Exists.intro
    refine⟨fun w' hw'=>?_,?_⟩
    ·unfold Oper.quietAt
     have hqs:=hw'
     obtain⟨hq0,hq1,hq2,hq3,hq4,hqb,hql⟩:=hw'
     try go_simp
     first
      | with_reducible rfl
      | exact⟨rfl,rfl⟩
    go_big_quiet_on
    try go_simp)
  refine wpQuiet_nil ?_;intro wq6;(try simp only[and_imp]);intro hq0 hq1 hq2 hq3 hq4 hb6 hql;clear hq0 hq1 hq2 hq3 hq4 hql
  have hW0:=HW0.out;clear HW0;subst hW0
  refine zb hb6 ?_;rintro ⟨hc6,hf6⟩ hz6 hy6 hx6
  go_wp2_with fail
  refine bpr Tryz.results12 (.int .i64 15) ?_
  rw[HH.out]
  exact⟨rfl,z08 HY.out.1 (show Below W0.heap.size W0 _ from bel)⟩
end Go.Proofs.YtldhlpjjcnlbcaaGreat
