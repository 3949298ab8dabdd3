/- The reference becomes. (printed by mkrfe4.py) -/
import Derived.Test.YtldhlpjjcnlbcaaGreatRfe2
import Derived.Test.YtldhlpjjcnlbcaaGreatEng5
import Derived.Test.YtldhlpjjcnlbcaaGreatRowL
set_option maxRecDepth 100000
set_option maxHeartbeats 8000000
namespace Go.Proofs.YtldhlpjjcnlbcaaGreat
open Go.RowKit
theorem ref_becomes (B:Option Addr)(m d:Nat)(F:List Fld)(A:Option Addr)(n c:Nat)(P:List Pag)(p:Pol)(A1:Option Addr)(n1 c1:Nat)(ins:List Fct)(A2:Option Addr)(n2 c2:Nat)(cs:List Cll)(A3:Option Addr)(n3 c3:Nat)(vs:List Val)(now last:Int)(Am:Option Addr)(cm:Nat)(ms:List Ltr)(base:Nat)(w:World)
  (hX:REn w B m d F A n c P A1 n1 c1 ins A2 n2 c2 cs A3 n3 c3 vs)(hO:z2i F)(hok:SetOk F p ins now cs last)(hvl:vs.length=F.length)
  (hm:w.ownsRow base 48 8 (.slice Am ms.length cm) ms.length (ms.flatMap Ltr.cs))(hmw:∀ l∈ms,l.wf)(hms:ms.length<=80)(hbase:base<=w.heap.size) :
  Calls Tryz.prog 28 #[.agg #[.slice B m d,.slice A n c,.int .i64 p.tries,.int .i64 p.base,.int .i64 p.cap,.slice A1 n1 c1,.slice A2 n2 c2,.slice A3 n3 c3,.int .i64 now,.int .i64 last],.slice Am ms.length cm] w fun e w'=>EngIs base w' (becE ⟨F,P,p,ins,cs,vs,now,last⟩ ms) e/\Below base w w':=by
 have h1:=fun w h=>ref_settled B m d F A n c P p A1 n1 c1 ins A2 n2 c2 cs A3 n3 c3 vs now last w h hO hok hvl
 obtain⟨s,hs⟩:∃ s,s=setE ⟨F,P,p,ins,cs,vs,now,last⟩:=⟨_,rfl⟩
 have hte:toEng ⟨F,P,p,ins,cs,vs,now,last⟩=⟨F,P,p,ins,s.calls,s.vals,now,s.last⟩:=by rw[hs];rfl
 rw[hte,<-hs] at h1
 have hbe:becE ⟨F,P,p,ins,cs,vs,now,last⟩ ms=if z4d now s.last=true then (⟨F,P,p,ins,s.calls,s.vals,now,s.last⟩,ms++s.ltrs,0) else (noEng,[],4):=by rw[hs];rfl
 have hll:s.ltrs.length<=14:=by
  have h:=(z5m (vs:=vs) hok hvl (nr _)).2.1.ll
  have h14:=(z0h (z13 hok.1.1).1).1
  rw[hs]
  exact Nat.le_trans h h14
 have hlw:∀ l∈s.ltrs,l.wf:=by rw[hs];exact zhk hok hvl (fun f hf=>(hO.2 f hf).1) _ (nr _)
 obtain⟨rr,hrr⟩:∃ rr,rr=becE ⟨F,P,p,ins,cs,vs,now,last⟩ ms:=⟨_,rfl⟩
 rw[<-hrr]
 have HR:=zh (hrr.trans hbe)
 have HX:=zh (ai hX (ai hm (ai hmw hlw)))
 obtain⟨i0,ei,ez0,ez1,ez2⟩:=info_parts Tryz.infoLtr
 clear hX hO hok hvl hs hte hbe hrr hm hmw hlw
 go_enter Tryz.func28,Tryz.ntmps28
 go_upto_region 2 with (go_at_call 45;refine (h1 _ (HX.out.1.now bel)).mono ?_;rintro e w1 ⟨⟨Bq,dq,Aq,cq,Aq1,cq1,Aq2,cq2,Aq3,cq3,A4,c4,rfl,hlen,s1,s2,s3,s4,s5,s6⟩,hb1⟩;refine zb hb1 ?_;rintro ⟨hc1,hf1⟩ hz1 hy1 hx1;refine szz w1 w ?_;intros)
 refine z0k ?_;intro W2 hW2
 obtain⟨gb,hgb⟩:∃ gb,gb=w1.heap.size:=⟨_,rfl⟩
 have hB2:Below w.heap.size w W2:=by rw[hW2];exact bel
 have hb12:Below w1.heap.size w1 W2:=by rw[hW2];exact bel
 have hzg:w1.heap.size<W2.heap.size:=by rw[hW2];simp
 have hzw:w.heap.size+2<=w1.heap.size:=by have:=hb1.size;simp at this;omega
 have b0:W2.cell? ⟨w1.heap.size,0,none⟩=some (.slice Bq F.length dq):=by rw[hW2];first | exact (by first | (go_simp;done) | (go_simp;exact World.cell?_setCell_same' _ _ _ (by go_simp))) | go_simp
 have b1:W2.cell? ⟨w1.heap.size,1,none⟩=some (.slice Aq P.length cq):=by rw[hW2];first | exact (by first | (go_simp;done) | (go_simp;exact World.cell?_setCell_same' _ _ _ (by go_simp))) | go_simp
 have b2:W2.cell? ⟨w1.heap.size,2,none⟩=some (.int .i64 p.tries):=by rw[hW2];first | exact (by first | (go_simp;done) | (go_simp;exact World.cell?_setCell_same' _ _ _ (by go_simp))) | go_simp
 have b3:W2.cell? ⟨w1.heap.size,3,none⟩=some (.int .i64 p.base):=by rw[hW2];first | exact (by first | (go_simp;done) | (go_simp;exact World.cell?_setCell_same' _ _ _ (by go_simp))) | go_simp
 have b4:W2.cell? ⟨w1.heap.size,4,none⟩=some (.int .i64 p.cap):=by rw[hW2];first | exact (by first | (go_simp;done) | (go_simp;exact World.cell?_setCell_same' _ _ _ (by go_simp))) | go_simp
 have b5:W2.cell? ⟨w1.heap.size,5,none⟩=some (.slice Aq1 ins.length cq1):=by rw[hW2];first | exact (by first | (go_simp;done) | (go_simp;exact World.cell?_setCell_same' _ _ _ (by go_simp))) | go_simp
 have b6:W2.cell? ⟨w1.heap.size,6,none⟩=some (.slice Aq2 s.calls.length cq2):=by rw[hW2];first | exact (by first | (go_simp;done) | (go_simp;exact World.cell?_setCell_same' _ _ _ (by go_simp))) | go_simp
 have b7:W2.cell? ⟨w1.heap.size,7,none⟩=some (.slice Aq3 s.vals.length cq3):=by rw[hW2];first | exact (by first | (go_simp;done) | (go_simp;exact World.cell?_setCell_same' _ _ _ (by go_simp))) | go_simp
 have b8:W2.cell? ⟨w1.heap.size,8,none⟩=some (.int .i64 now):=by rw[hW2];first | exact (by first | (go_simp;done) | (go_simp;exact World.cell?_setCell_same' _ _ _ (by go_simp))) | go_simp
 have b9:W2.cell? ⟨w1.heap.size,9,none⟩=some (.int .i64 s.last):=by rw[hW2];first | exact (by first | (go_simp;done) | (go_simp;exact World.cell?_setCell_same' _ _ _ (by go_simp))) | go_simp
 have hqr:RBOX W2 (w.heap.size+1):=by rw[hW2];exact⟨(by and_intros<;>go_simp),by go_simp,by go_simp,by go_simp,by go_simp,by go_simp,by go_simp,by go_simp,by go_simp,by go_simp,by go_simp⟩
 rw[<-hgb]
 rw[<-hgb] at b0 b1 b2 b3 b4 b5 b6 b7 b8 b9
 simp only[World.size_alloc] at s1 s2 s3 s4 s5 s6
 have HG:=zh hgb
 have hgl:gb<W2.heap.size:=by omega
 have hgw:w.heap.size+2<=gb:=by omega
 have hrl:w.heap.size+1<W2.heap.size:=by omega
 have HS:=zh (ai s1 (ai s2 (ai s3 (ai s4 (ai s5 (ai s6 (ai hlen (ai hb12 hB2))))))))
 have hnum:=fun w=>ref_counted (.slice Bq F.length dq) (.slice Aq P.length cq) (.slice Aq1 ins.length cq1) (.slice Aq2 s.calls.length cq2) (.slice Aq3 s.vals.length cq3) p now s.last w
 clear s1 s2 s3 s4 s5 s6 hlen hW2 hb1 hc1 hf1 hgb hzg hzw hB2 hb12 h1
 by_cases hnk:z4d now s.last=true
 ·have HR1:=zh (HR.out.trans (if_pos hnk))
  rw[hnk] at hnum
  clear hnk HR
  go_upto_region 4 with (go_at_call 44;refine (hnum _).mono ?_;rintro e w3 ⟨rfl,hb3⟩)
  refine z0k ?_;intro u0' hu0'
  obtain⟨u0,hu0⟩:∃ y,y=u0'.drew:=⟨_,rfl⟩
  have hY0:Below W2.heap.size W2 u0:=by rw[hu0,hu0'];exact hb3.drew
  have hzu:=hY0.size
  have hlu:gb<u0.heap.size:=by omega
  have hru:w.heap.size+1<u0.heap.size:=by omega
  replace hqr:=hqr.block (hY0.block _ hrl)
  have hS0:u0.cell? ⟨gb,0,none⟩=some (.slice Bq F.length dq)/\(u0.cell? ⟨gb,1,none⟩=some (.slice Aq P.length cq)/\(u0.cell? ⟨gb,2,none⟩=some (.int .i64 p.tries)/\(u0.cell? ⟨gb,3,none⟩=some (.int .i64 p.base)/\(u0.cell? ⟨gb,4,none⟩=some (.int .i64 p.cap)/\(u0.cell? ⟨gb,5,none⟩=some (.slice Aq1 ins.length cq1)/\(u0.cell? ⟨gb,6,none⟩=some (.slice Aq2 s.calls.length cq2)/\(u0.cell? ⟨gb,7,none⟩=some (.slice Aq3 s.vals.length cq3)/\(u0.cell? ⟨gb,8,none⟩=some (.int .i64 now)/\u0.cell? ⟨gb,9,none⟩=some (.int .i64 s.last))))))))):=⟨z00 b0 hY0,z00 b1 hY0,z00 b2 hY0,z00 b3 hY0,z00 b4 hY0,z00 b5 hY0,z00 b6 hY0,z00 b7 hY0,z00 b8 hY0,z00 b9 hY0⟩
  have hBu:Below w.heap.size w u0:=z01 HS.out.2.2.2.2.2.2.2.2 hY0 HS.out.2.2.2.2.2.2.2.2.size
  have hb1u:Below gb W2 u0:=hY0.mono (by omega)
  have hmu:=z04 HX.out.2.1 hBu
  have hbu:base<=u0.heap.size:=by have:=hBu.size;omega
  have hmlt:∀ q,(Value.slice Am ms.length cm).ownBlock=some q->q<w.heap.size:=fun q hq=>(HX.out.2.1.lt q hq).2
  have hl6:Sl u0 (since (w.heap.size+2) u0) 8 RLtr A4 s.ltrs.length s.ltrs:=(HS.out.2.2.2.2.2.1.keep (fun b hb=>(hY0.block b (by have:=hb.2;have:=HS.out.2.2.2.2.2.2.2.1.size;omega)).trans (HS.out.2.2.2.2.2.2.2.1.block b hb.2)) (fun _ _ h=>h)).mono (fun b hb=>⟨by have:=hb.1;omega,by have:=hb.2;have:=HS.out.2.2.2.2.2.2.2.1.size;omega⟩)
  have hcl6:=zh (Sl.cellsLtr hl6)
  have hnl6:=zh (fun (h:A4=none)=>(by subst h;exact hl6.of_none.1:s.ltrs.length=0))
  refine z0r (fun w'=>w'.cell? ⟨gb,0,none⟩=some (.slice Bq F.length dq)/\(w'.cell? ⟨gb,1,none⟩=some (.slice Aq P.length cq)/\(w'.cell? ⟨gb,2,none⟩=some (.int .i64 p.tries)/\(w'.cell? ⟨gb,3,none⟩=some (.int .i64 p.base)/\(w'.cell? ⟨gb,4,none⟩=some (.int .i64 p.cap)/\(w'.cell? ⟨gb,5,none⟩=some (.slice Aq1 ins.length cq1)/\(w'.cell? ⟨gb,6,none⟩=some (.slice Aq2 s.calls.length cq2)/\(w'.cell? ⟨gb,7,none⟩=some (.slice Aq3 s.vals.length cq3)/\(w'.cell? ⟨gb,8,none⟩=some (.int .i64 now)/\w'.cell? ⟨gb,9,none⟩=some (.int .i64 s.last)))))))))) 4 (by kernel_rfl) ?_
  rw[<-hu0]
  clear hu0 hu0' hnum b0 b1 b2 b3 b4 b5 b6 b7 b8 b9 hl6
  refine zt 0 hS0 ?_
  simp only[Act.put,pq]
  refine zt 1 hS0 ?_
  simp only[Act.put,pq]
  refine zt 2 hS0 ?_
  simp only[Act.put,pq]
  refine z06 (i:=3) (o:=_) rfl (by kernel_rfl) (fun K hK=>?_)
  refine z0z rfl (.tmp 19) (.tmp 20) 33 rfl base 48 i0 _ 8 88 Tryz.underlying33 ei ez0 ez1 ez2 rfl (by decide) (.slice Am ms.length cm) ms.length _ rfl hmu A4 s.ltrs.length c4 (s.ltrs.flatMap Ltr.cs) rfl (by rw[z0w _ 8 (fun _=>rfl)]) (fun p' hp j u hj=>hcl6.out p' hp j u hj) (fun h=>hnl6.out h) (oneLtr s.ltrs) (by unfold maxLen;omega) (by omega) hbu ?_
  intro v2 u2 ho2 hgr hob
  have hzg2:=hgr.size
  have hne:∀ b:Nat,w.heap.size<=b->b<u0.heap.size->u2.heap[b]?=u0.heap[b]?:=fun b h1 h2=>hgr.block b h2 (fun e=>by have:=hmlt b e.symm;omega)
  obtain⟨⟨q0,q1,q2,q3,q4,q5,q6,q7,q8,q9⟩,r0,r1,r2,r3,r4,r5,r6,r7,r8,r9⟩:=hqr.block (hne (w.heap.size+1) (by omega) hru)
  have hS2:u2.cell? ⟨gb,0,none⟩=some (.slice Bq F.length dq)/\(u2.cell? ⟨gb,1,none⟩=some (.slice Aq P.length cq)/\(u2.cell? ⟨gb,2,none⟩=some (.int .i64 p.tries)/\(u2.cell? ⟨gb,3,none⟩=some (.int .i64 p.base)/\(u2.cell? ⟨gb,4,none⟩=some (.int .i64 p.cap)/\(u2.cell? ⟨gb,5,none⟩=some (.slice Aq1 ins.length cq1)/\(u2.cell? ⟨gb,6,none⟩=some (.slice Aq2 s.calls.length cq2)/\(u2.cell? ⟨gb,7,none⟩=some (.slice Aq3 s.vals.length cq3)/\(u2.cell? ⟨gb,8,none⟩=some (.int .i64 now)/\u2.cell? ⟨gb,9,none⟩=some (.int .i64 s.last))))))))):=eb10 (hne gb (by omega) hlu) hS0
  have hlu2:gb<u2.heap.size:=by omega
  have hru2:w.heap.size+1<u2.heap.size:=by omega
  rw[<-List.length_append] at ho2
  rw[<-List.flatMap_append] at ho2
  obtain⟨Az,cz,rfl,hqz⟩:=z4p ho2
  refine hK.out _ _ (fun _=>hS2) ?_
  clear hK K
  try simp only[Act.put,pq]
  refine z06 (i:=4) (o:=_) rfl (by kernel_rfl) (fun K hK=>?_)
  go_simp
  refine hK.out _ _ (fun h=>absurd h (by decide)) ?_
  clear hK K
  try simp only[Act.put,pq]
  refine z06 (i:=5) (o:=_) rfl (by kernel_rfl) (fun K hK=>?_)
  go_simp
  refine hK.out _ _ (fun h=>absurd h (by decide)) ?_
  clear hK K
  try simp only[Act.put,pq]
  refine z06 (i:=6) (o:=_) rfl (by kernel_rfl) (fun K hK=>?_)
  go_simp
  refine hK.out _ _ (fun h=>absurd h (by decide)) ?_
  clear hK K
  try simp only[Act.put,pq]
  refine z0f (by kernel_rfl) ?_ _
  try simp only[Act.put,pq]
  go_wp2_with fail
  refine bpr Tryz.results28 (.tuple #[.agg #[.slice Bq F.length dq,.slice Aq P.length cq,.int .i64 p.tries,.int .i64 p.base,.int .i64 p.cap,.slice Aq1 ins.length cq1,.slice Aq2 s.calls.length cq2,.slice Aq3 s.vals.length cq3,.int .i64 now,.int .i64 s.last],.slice Az (ms++s.ltrs).length cz,.int .i64 0]) ?_
  generalize hW9:World.setCell _ _ _=W9
  have hk:∀ b:Nat,b≠w.heap.size+1->W9.heap[b]?=u2.heap[b]?:=fun b hb=>by
   rw[<-hW9]
   iterate 10 rw[Below.heap_setCell _ _ _ _ (by exact hb)]
  have hz9:W9.heap.size=u2.heap.size:=by rw[<-hW9];simp
  obtain⟨s1,s2,s3,s4,s5,_,hlen,hb12,hB2⟩:=HS.out
  have hz12:=hb12.size
  have hkk:∀ b:Nat,since (w.heap.size+2) w1 b->since base W9 b/\W9.heap[b]?=w1.heap[b]?:=fun b hb=>by
   have h1:=hb.1
   have h2:=hb.2
   exact⟨⟨by omega,by omega⟩,(hk b (by omega)).trans ((hne b (by omega) (by omega)).trans ((hY0.block b (by omega)).trans (hb12.block b h2)))⟩
  obtain⟨Al,kl,el,_,hsl⟩:=z7g Ltr.cs Ltr.wf (fun _=>rfl) (z09 ho2 (w':=W9) (fun q hq _=>hk q (fun e=>by
   rcases hob with h | h
   ·have:=hmlt q (h.symm.trans hq);omega
   ·have:=Option.some.inj (h.symm.trans hq);omega))) rfl (fun l hl=>by
   rcases List.mem_append.1 hl with hl | hl
   ·exact HX.out.2.2.1 l hl
   exact HX.out.2.2.2 l hl)
  cases el
  rw[HR1.out]
  refine⟨⟨Bq,dq,Aq,cq,Aq1,cq1,Aq2,cq2,Aq3,cq3,Az,cz,rfl,⟨hlen.1,hlen.2.1,hlen.2.2.1,hlen.2.2.2.1,hlen.2.2.2.2.1,hqz⟩,s1.keepN z02 (fun b hb=>hkk b hb),s2.keepN z0d (fun b hb=>hkk b hb),(s3.keep (fun b hb=>(hkk b hb).2) (fun _ _ h=>h)).mono (fun b hb=>(hkk b hb).1),(s4.keep (fun b hb=>(hkk b hb).2) (fun _ _ h=>h)).mono (fun b hb=>(hkk b hb).1),(s5.keep (fun b hb=>(hkk b hb).2) (fun _ _ h=>h)).mono (fun b hb=>(hkk b hb).1),hsl⟩,?_⟩
  rw[<-hW9]
  iterate 10 refine z03 ?_ (by simp;omega)
  exact Below.grown (hBu.mono hbase) hgr (by omega) (fun kk hk=>(HX.out.2.1.lt kk hk).1)
 have HR1:=zh (HR.out.trans (if_neg hnk))
 have hnk':z4d now s.last=false:=by simpa using hnk
 rw[hnk'] at hnum
 clear hnk hnk' HR
 obtain⟨⟨q0,q1,q2,q3,q4,q5,q6,q7,q8,q9⟩,r0,r1,r2,r3,r4,r5,r6,r7,r8,r9⟩:=hqr
 go_wp2_with (go_at_call 44;refine (hnum _).mono ?_;rintro e w3 ⟨rfl,hb3⟩;refine zb hb3 ?_;rintro ⟨hc3,hf3⟩ hz3 hy3 hx3;refine szz w3 W2 ?_;intros)
 refine bpr Tryz.results28 (.tuple #[.agg #[.slice none 0 0,.slice none 0 0,.int .i64 0,.int .i64 0,.int .i64 0,.slice none 0 0,.slice none 0 0,.slice none 0 0,.int .i64 0,.int .i64 0],.slice none 0 0,.int .i64 4]) ?_
 rw[HR1.out]
 refine⟨EngIs.nil0 4 rfl,?_⟩
 iterate 10 refine z03 ?_ (by simp;omega)
 exact (z01 HS.out.2.2.2.2.2.2.2.2 hb3 HS.out.2.2.2.2.2.2.2.2.size).mono hbase
end Go.Proofs.YtldhlpjjcnlbcaaGreat
