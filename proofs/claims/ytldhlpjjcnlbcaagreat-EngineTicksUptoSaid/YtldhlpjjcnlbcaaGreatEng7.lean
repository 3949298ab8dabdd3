/- Texts merged (mergeh.py): EngG Eng7. -/
import Derived.Test.YtldhlpjjcnlbcaaGreatEng4
import Derived.Test.YtldhlpjjcnlbcaaGreatEng5
/- (*motor).settle at any form, one without fields too. -/
set_option maxRecDepth 100000
set_option maxHeartbeats 8000000
namespace Go.Proofs.YtldhlpjjcnlbcaaGreat
open Go.RowKit
def MotG (w:World)(M:Nat)(Af:Option Addr)(m d:Nat)(pv:Value)(p:Pol)(iv:Value)(Ac:Option Addr)(cc:Nat)(Av:Option Addr)(cv:Nat)(now:Int)(base:Nat)(lv:Value)(ls:List Ltr)(s:Est):Prop :=
 MotC w M (.slice Af m d) pv p iv (.slice Ac m cc) (.slice Av m cv) now s.last lv/\MotF w M /\
 w.ownsRow base 62 10 (.slice Ac m cc) m (s.calls.flatMap Cll.cs)/\w.ownsRow base 44 3 (.slice Av m cv) m (s.vals.flatMap Val.cs) /\
 w.ownsRow base 48 8 lv (ls++s.ltrs).length ((ls++s.ltrs).flatMap Ltr.cs)
def Mfree (M:Nat)(Ac:Option Addr)(m cc:Nat)(Av:Option Addr)(cv:Nat)(lv:Value)(b:Nat):Prop :=
 b≠M/\some b≠(Value.slice Ac m cc).ownBlock/\some b≠(Value.slice Av m cv).ownBlock/\some b≠lv.ownBlock
theorem MotG.below {w w':World}{M:Nat}{Af:Option Addr}{m d:Nat}{pv:Value}{p:Pol}{iv:Value}{Ac:Option Addr}{cc:Nat}{Av:Option Addr}{cv:Nat}{now:Int}{base:Nat}{lv:Value}{ls:List Ltr}{s:Est}(h:MotG w M Af m d pv p iv Ac cc Av cv now base lv ls s)
  (hb:Below w.heap.size w w'):MotG w' M Af m d pv p iv Ac cc Av cv now base lv ls s :=
 ⟨h.1.block (hb.block M h.1.lt),h.2.1.block (hb.block M h.1.lt),z04 h.2.2.1 hb,z04 h.2.2.2.1 hb,z04 h.2.2.2.2 hb⟩
theorem motor_settle0 (M d:Nat)(F:List Fld)(Af:Option Addr)(pv:Value)(p:Pol)(iv:Value)(Ac:Option Addr)(cc:Nat)(Av:Option Addr)(cv:Nat)(now last:Int)(lv:Value)(w:World)
  (hm:MotC w M (.slice Af 0 d) pv p iv (.slice Ac 0 cc) (.slice Av 0 cv) now last lv)(hS:Sl w (old w) 9 (RFld w (old w)) Af 0 F)(hO:z2i F)(hr:(rankR F).2.2=0) :
  Calls Tryz.prog 37 #[.pointer (some ⟨M,0,none⟩)] w fun e w'=>e=.returned (.tuple #[])/\Below w.heap.size w w':=by
 have hml:F.length=0:=hS.len
 have hor:z3u F=(toI (ordF F),0):=by unfold z3u;rw[if_pos hr]
 have hol:(ordF F).length=0:=by unfold ordF;rw[z2v,hml]
 have hil:(toI (ordF F)).length=0:=by unfold toI;rw[List.length_map,hol]
 have h2:Calls Tryz.prog 70 #[.slice Af 0 d] w (fun e w'=>∃ A c,e=.returned (.tuple #[.slice A 0 c,.int .i64 0])/\Below w.heap.size w w'):=by
  refine (z80 F Af 0 d w (by unfold inB;omega) (Nat.zero_le _) hS hO.1 hO.2).mono ?_
  rintro e w' ⟨A,c,q1,q2,q3,q4⟩
  rw[hor] at q1
  dsimp only at q1
  rw[hil] at q1
  exact⟨A,c,q1,q4⟩
 obtain⟨z0,_⟩:=hm
 have hMl:M<w.heap.size:=block_lt_of_cell z0
 clear hS hO hr hml hor hol hil
 go_enter Tryz.func37,Tryz.ntmps37
 go_wp2_with (go_at_call 70;refine h2.mono ?_;rintro e w2 ⟨A5,c5,rfl,hb2⟩;refine zb hb2 ?_;rintro ⟨hc2,hf2⟩ hz2 hy2 hx2;refine szz w2 w ?_;intros)
 go_loopw [4,22] (fun v i wr=>v=.slice none 0 0/\i=.int .i64 0/\wr=w2) (fun _ i _=>0)
 case atStart=>exact⟨rfl,rfl,rfl⟩
 case round =>
  obtain⟨rfl,rfl,rfl⟩:=hrel
  go_wp2_with fail
  go_end0
  exact⟨rfl,bel⟩
theorem zdy (M m d:Nat)(F:List Fld)(Af:Option Addr)(S:Nat -> Prop)(pv:Value)(p:Pol)(A1:Option Addr)(n1 c1:Nat)(ins:List Fct)(Ac:Option Addr)(cc:Nat)(Av:Option Addr)(cv:Nat)(cs:List Cll)(vs:List Val)(now last:Int)(lv:Value)(ls:List Ltr)(base:Nat)(w:World)
  (hm:MotG w M Af m d pv p (.slice A1 n1 c1) Ac cc Av cv now base lv ls ⟨cs,vs,last,[]⟩)(hS:Sl w S 9 (RFld w S) Af m F)(hI:Sl w S 7 RFct A1 n1 ins)(hn1:inL n1)
  (hSo:∀ b,S b->b<w.heap.size)(hSf:∀ b,S b->Mfree M Ac m cc Av cv lv b)(hl:∀ q,lv.ownBlock=some q->q≠M/\some q≠(Value.slice Ac m cc).ownBlock/\some q≠(Value.slice Av m cv).ownBlock)
  (hMc:some M≠(Value.slice Ac m cc).ownBlock)(hMv:some M≠(Value.slice Av m cv).ownBlock)(hcv:∀ q,(Value.slice Ac m cc).ownBlock=some q->some q≠(Value.slice Av m cv).ownBlock)(hbM:base<=w.heap.size)(hO:z2i F)(hok:SetOk F p ins now cs last)(hvl:vs.length=F.length)(hls:ls.length<=80)(hmd:m<=d) :
  Calls Tryz.prog 37 #[.pointer (some ⟨M,0,none⟩)] w fun e w'=>e=.returned (.tuple #[])/\∃ lv',MotG w' M Af m d pv p (.slice A1 n1 c1) Ac cc Av cv now base lv' ls (setP F p ins now cs vs last F.length) /\
   (∀ b,b<w.heap.size->Mfree M Ac m cc Av cv lv b->w'.heap[b]?=w.heap[b]?)/\(lv'.ownBlock=lv.ownBlock\/∃ k,lv'.ownBlock=some k/\w.heap.size<=k)/\(∀ B,B<=M->B<=base->Below B w w'):=by
 rcases Nat.eq_zero_or_pos m with h0 | h0
 ·subst h0
  have hS':Sl w (old w) 9 (RFld w (old w)) Af 0 F:=hS.keepN z02 (fun b hb=>⟨hSo b hb,rfl⟩)
  refine (motor_settle0 M d F Af pv p _ Ac cc Av cv now last lv w hm.1 hS' hO hok.1.1).mono ?_
  rintro e w' ⟨rfl,hb⟩
  refine⟨rfl,lv,?_,fun b hb' _=>hb.block b hb',.inl rfl,fun B _ h=>hb.mono (by omega)⟩
  rw[show F.length=0 from hS.len,set_zero]
  exact hm.below hb
 obtain⟨fb,fo,rfl,_⟩:=hS.2 h0
 obtain⟨gc,kc,ec,hbc,_⟩:=hm.2.2.1.form h0
 cases ec
 obtain⟨gv,kv,ev,hbv,_⟩:=hm.2.2.2.1.form h0
 cases ev
 have e1:∀ q,lv.ownBlock=some q->q≠gc:=fun q hq e=>(hl q hq).2.1 (by rw[e];rfl)
 have e2:∀ q,lv.ownBlock=some q->q≠gv:=fun q hq e=>(hl q hq).2.2 (by rw[e];rfl)
 have hMc':M≠gc:=fun e=>hMc (by rw[e];rfl)
 have hMv':M≠gv:=fun e=>hMv (by rw[e];rfl)
 have hcv':gc≠gv:=fun e=>hcv gc rfl (by rw[e];rfl)
 refine (motor_settle M m d F fb fo S pv p A1 n1 c1 ins gc cc gv cv cs vs now last lv ls base w hm hS hI hn1 hSo (fun h=>(hSf M h).1 rfl) (fun h=>(hSf gc h).2.1 rfl) (fun h=>(hSf gv h).2.2.1 rfl) (fun q hq h=>(hSf q h).2.2.2 hq.symm)
  (fun e=>(hl M e).1 rfl) (fun e=>e1 gc e rfl) (fun e=>e2 gv e rfl) hMc' hMv' hcv' hbM hO hok hvl hls hmd).mono ?_
 rintro e w' ⟨rfl,lv',h1,h2,h3,h4⟩
 exact⟨rfl,lv',h1,fun b hb hf=>h2 b hb hf.1 (fun e=>hf.2.1 (by rw[e];rfl)) (fun e=>hf.2.2.1 (by rw[e];rfl)) hf.2.2.2,h3,h4⟩
open Go.RowKit
def EngIs (a:Nat)(w':World)(r:Eng×List Ltr×Int)(e:Ending):Prop :=
 ∃ B d A c A1 c1 A2 c2 A3 c3 A4 c4,e=.returned (.tuple #[.agg #[.slice B r.1.F.length d,.slice A r.1.P.length c,.int .i64 r.1.p.tries,.int .i64 r.1.p.base,.int .i64 r.1.p.cap,.slice A1 r.1.ins.length c1,.slice A2 r.1.cs.length c2,.slice A3 r.1.vs.length c3,.int .i64 r.1.now,.int .i64 r.1.last],.slice A4 r.2.1.length c4,.int .i64 r.2.2]) /\
  (r.1.F.length<=d/\r.1.P.length<=c/\r.1.ins.length<=c1/\r.1.cs.length<=c2/\r.1.vs.length<=c3/\r.2.1.length<=c4) /\
  Sl w' (since a w') 9 (RFld w' (since a w')) B r.1.F.length r.1.F/\Sl w' (since a w') 8 (RPag w' (since a w')) A r.1.P.length r.1.P/\Sl w' (since a w') 7 RFct A1 r.1.ins.length r.1.ins/\Sl w' (since a w') 10 RCll A2 r.1.cs.length r.1.cs/\Sl w' (since a w') 3 RVal A3 r.1.vs.length r.1.vs/\Sl w' (since a w') 8 RLtr A4 r.2.1.length r.2.1
theorem EngIs.nil0 {a:Nat}{w':World}(er:Int){e:Ending}(h:e=.returned (.tuple #[.agg #[.slice none 0 0,.slice none 0 0,.int .i64 0,.int .i64 0,.int .i64 0,.slice none 0 0,.slice none 0 0,.slice none 0 0,.int .i64 0,.int .i64 0],.slice none 0 0,.int .i64 er])):EngIs a w' (noEng,[],er) e :=
 ⟨none,0,none,0,none,0,none,0,none,0,none,0,h,⟨nr _,nr _,nr _,nr _,nr _,nr _⟩,Sl.nil,Sl.nil,Sl.nil,Sl.nil,Sl.nil,Sl.nil⟩
def RetEng (w:World)(r:Eng×List Ltr×Int)(e:Ending)(w':World):Prop:=EngIs w.heap.size w' r e/\Below w.heap.size w w'
theorem motor_done (M m d:Nat)(F:List Fld)(Af:Option Addr)(S:Nat -> Prop)(A:Option Addr)(n c:Nat)(P:List Pag)(p:Pol)(A1:Option Addr)(n1 c1:Nat)(ins:List Fct)(Ac:Option Addr)(cc:Nat)(Av:Option Addr)(cv:Nat)(cs:List Cll)(vs:List Val)(now last:Int)(lv:Value)(ls:List Ltr)(base:Nat)(w:World)
  (hm:MotG w M Af m d (.slice A n c) p (.slice A1 n1 c1) Ac cc Av cv now base lv ls ⟨cs,vs,last,[]⟩)(hS:Sl w S 9 (RFld w S) Af m F)(hP:Sl w S 8 (RPag w S) A n P)(hI:Sl w S 7 RFct A1 n1 ins)(hn1:inL n1)
  (hSo:∀ b,S b->b<w.heap.size)(hSf:∀ b,S b->Mfree M Ac m cc Av cv lv b)(hl:∀ q,lv.ownBlock=some q->q≠M/\some q≠(Value.slice Ac m cc).ownBlock/\some q≠(Value.slice Av m cv).ownBlock)
  (hMc:some M≠(Value.slice Ac m cc).ownBlock)(hMv:some M≠(Value.slice Av m cv).ownBlock)(hdv:∀ q,(Value.slice Ac m cc).ownBlock=some q->some q≠(Value.slice Av m cv).ownBlock)(hbM:base<=w.heap.size)(hO:z2i F)(hok:SetOk F p ins now cs last)(hvl:vs.length=F.length)(hls:ls.length<=80)(hlw:∀ l∈ls,l.wf)(hmd:m<=d)(hnc:n<=c)(hn1c:n1<=c1)(hcc:m<=cc)(hcv:m<=cv)(a:Nat)(haS:∀ b,S b->a<=b)(hab:a<=base) :
  Calls Tryz.prog 25 #[.pointer (some ⟨M,0,none⟩)] w fun e w'=>EngIs a w' (becE ⟨F,P,p,ins,cs,vs,now,last⟩ ls) e/\(∀ B,B<=M->B<=base->Below B w w'):=by
 have hml:F.length=m:=hS.len
 have hPl:P.length=n:=hP.len
 have hIl:ins.length=n1:=hI.len
 have hMl:M<w.heap.size:=hm.1.lt
 have hrb:Mfree M Ac m cc Av cv lv w.heap.size:=⟨by omega,fun e=>by have:=(hm.2.2.1.lt _ e.symm).2;omega,fun e=>by have:=(hm.2.2.2.1.lt _ e.symm).2;omega,fun e=>by have:=(hm.2.2.2.2.lt _ e.symm).2;omega⟩
 have hlvl:∀ q,lv.ownBlock=some q->q<w.heap.size:=fun q hq=>(hm.2.2.2.2.lt q hq).2
 have hcl:∀ q,(Value.slice Ac m cc).ownBlock=some q->q≠w.heap.size:=fun q hq=>by have:=(hm.2.2.1.lt q hq).2;omega
 have hvl':∀ q,(Value.slice Av m cv).ownBlock=some q->q≠w.heap.size:=fun q hq=>by have:=(hm.2.2.2.1.lt q hq).2;omega
 obtain⟨s,hs⟩:∃ s,s=setP F p ins now cs vs last F.length:=⟨_,rfl⟩
 have hEk:EOk p last F.length F.length s:=by rw[hs];exact (z5m (vs:=vs) hok hvl (nr _)).2.1
 have hvo:∀ v∈s.vals,v.wf:=by rw[hs];exact fun v hv=>z48 (set_ok_vals hok hvl v hv)
 have hlo:∀ l∈s.ltrs,l.wf:=by rw[hs];exact zhk hok hvl (fun f hf=>(hO.2 f hf).1) _ (nr _)
 have hbe:becE ⟨F,P,p,ins,cs,vs,now,last⟩ ls=if z4d now s.last=true then (⟨F,P,p,ins,s.calls,s.vals,now,s.last⟩,ls++s.ltrs,0) else (noEng,[],4):=by rw[hs];rfl
 obtain⟨rr,hrr⟩:∃ rr,rr=becE ⟨F,P,p,ins,cs,vs,now,last⟩ ls:=⟨_,rfl⟩
 rw[<-hrr]
 have HR:=zh (hrr.trans hbe)
 have HE:=zh (ai hml (ai hPl (ai hIl (ai hEk (ai hvo (ai hlo (ai hlw (ai hmd (ai hnc (ai hn1c (ai hcc hcv)))))))))))
 have HA:=zh (ai haS hab)
 have HS:=zh (ai hS (ai hP (ai hI (ai hSo (ai hSf (ai hrb (ai hlvl (ai hcl hvl'))))))))
 have hset:=fun W (hB:Below w.heap.size w W)=>zdy M m d F Af S (.slice A n c) p A1 n1 c1 ins Ac cc Av cv cs vs now last lv ls base W (hm.below hB) (hS.keepN z02 (fun b hb=>⟨hb,hB.block b (hSo b hb)⟩)) (hI.keep (fun b hb=>hB.block b (hSo b hb)) (fun _ _ h=>h)) hn1
  (fun b hb=>Nat.lt_of_lt_of_le (hSo b hb) hB.size) hSf hl hMc hMv hdv (Nat.le_trans hbM hB.size) hO hok hvl hls hmd
 rw[<-hs] at hset
 clear haS hab hm hS hP hI hSo hSf hl hMc hMv hdv hO hok hvl hls hlw hml hPl hIl hEk hvo hlo hs hrb hlvl hcl hvl' hmd hnc hn1c hcc hcv hbe hrr
 go_enter Tryz.func25,Tryz.ntmps25
 go_upto_region 1 with fail
 refine z0k ?_;intro W0 hW0
 have hB0:Below w.heap.size w W0:=by rw[hW0];exact bel
 have hz0:W0.heap.size=w.heap.size+1:=by rw[hW0];simp
 have hqr:RBOX W0 w.heap.size:=by rw[hW0];exact⟨(by and_intros<;>go_simp),by go_simp,by go_simp,by go_simp,by go_simp,by go_simp,by go_simp,by go_simp,by go_simp,by go_simp,by go_simp⟩
 clear hW0
 go_upto_region 2 with (go_at_call 37;refine (hset W0 hB0).mono ?_;rintro e w2 ⟨rfl,lv',hm2,hfr2,hob2,hbb2⟩)
 have hrb:w2.heap[w.heap.size]?=W0.heap[w.heap.size]?:=hfr2 w.heap.size (by omega) HS.out.2.2.2.2.2.1
 replace hqr:=hqr.block hrb
 obtain⟨A4,c4,rfl,hq4⟩:=z4p hm2.2.2.2.2
 have hz02:W0.heap.size<=w2.heap.size:=(hbb2 0 (Nat.zero_le _) (Nat.zero_le _)).size
 have hl2:w.heap.size<w2.heap.size:=by omega
 have hMl2:M<w2.heap.size:=by omega
 have hC:=hm2.1
 obtain⟨z0,z1,z2,z3,z4,z5,z6,z7,z8,z9,z10⟩:=hC
 have hfS:∀ b,S b->w2.heap[b]?=w.heap[b]?:=fun b hb=>(hfr2 b (by have:=HS.out.2.2.2.1 b hb;omega) (HS.out.2.2.2.2.1 b hb)).trans (hB0.block b (HS.out.2.2.2.1 b hb))
 have hBB:∀ B,B<=M->B<=base->Below B w w2:=fun B h h'=>(hB0.mono (by omega)).trans (hbb2 B h h')
 have hlq:∀ q,(Value.slice A4 (ls++s.ltrs).length c4).ownBlock=some q->q≠w.heap.size:=fun q hq e=>by
  rcases hob2 with h | ⟨k,h,hk⟩
  ·have:=HS.out.2.2.2.2.2.2.1 q (h.symm.trans hq);omega
  have:=Option.some.inj (h.symm.trans hq);omega
 have H2:=zh (ai hm2 (ai hfS (ai hBB (ai hq4 hlq))))
 have hnum:=fun w=>zc8 (.slice Af m d) (.slice A n c) (.slice A1 n1 c1) (.slice Ac m cc) (.slice Av m cv) p now s.last w
 clear hset hm2 hfr2 hob2 hbb2 hrb hfS hBB hq4 hlq
 by_cases hnk:z4d now s.last=true
 ·have HR1:=zh (HR.out.trans (if_pos hnk))
  rw[hnk] at hnum
  clear hnk HR
  go_upto_region 4 with (go_at_call 36;refine (hnum _).mono ?_;rintro e w3 ⟨rfl,hb3⟩)
  refine z0k ?_;intro u0' hu0'
  obtain⟨u0,hu0⟩:∃ y,y=u0'.drew:=⟨_,rfl⟩
  have hY0:Below w2.heap.size w2 u0:=by rw[hu0,hu0'];exact hb3.drew
  have hzu:=hY0.size
  have hlu:w.heap.size<u0.heap.size:=by omega
  have hMu:M<u0.heap.size:=by omega
  obtain⟨⟨q0,q1,q2,q3,q4,q5,q6,q7,q8,q9⟩,r0,r1,r2,r3,r4,r5,r6,r7,r8,r9⟩:=hqr.block (hY0.block _ hl2)
  have hS0:u0.cell? ⟨M,0,none⟩=some (.slice Af m d)/\(u0.cell? ⟨M,1,none⟩=some (.slice A n c)/\(u0.cell? ⟨M,2,none⟩=some (.int .i64 p.tries)/\(u0.cell? ⟨M,3,none⟩=some (.int .i64 p.base)/\(u0.cell? ⟨M,4,none⟩=some (.int .i64 p.cap)/\(u0.cell? ⟨M,5,none⟩=some (.slice A1 n1 c1)/\(u0.cell? ⟨M,6,none⟩=some (.slice Ac m cc)/\(u0.cell? ⟨M,7,none⟩=some (.slice Av m cv)/\(u0.cell? ⟨M,8,none⟩=some (.int .i64 now)/\(u0.cell? ⟨M,9,none⟩=some (.int .i64 s.last)/\u0.cell? ⟨M,10,none⟩=some (.slice A4 (ls++s.ltrs).length c4)))))))))):=⟨z00 z0 hY0,z00 z1 hY0,z00 z2 hY0,z00 z3 hY0,z00 z4 hY0,z00 z5 hY0,z00 z6 hY0,z00 z7 hY0,z00 z8 hY0,z00 z9 hY0,z00 z10 hY0⟩
  refine z0r (fun w'=>w'.cell? ⟨M,0,none⟩=some (.slice Af m d)/\(w'.cell? ⟨M,1,none⟩=some (.slice A n c)/\(w'.cell? ⟨M,2,none⟩=some (.int .i64 p.tries)/\(w'.cell? ⟨M,3,none⟩=some (.int .i64 p.base)/\(w'.cell? ⟨M,4,none⟩=some (.int .i64 p.cap)/\(w'.cell? ⟨M,5,none⟩=some (.slice A1 n1 c1)/\(w'.cell? ⟨M,6,none⟩=some (.slice Ac m cc)/\(w'.cell? ⟨M,7,none⟩=some (.slice Av m cv)/\(w'.cell? ⟨M,8,none⟩=some (.int .i64 now)/\(w'.cell? ⟨M,9,none⟩=some (.int .i64 s.last)/\w'.cell? ⟨M,10,none⟩=some (.slice A4 (ls++s.ltrs).length c4))))))))))) 9 (by kernel_rfl) ?_
  rw[<-hu0]
  clear hqr hu0 hu0' hnum z0 z1 z2 z3 z4 z5 z6 z7 z8 z9 z10
  refine zt 0 hS0 ?_
  simp only[Act.put,pq]
  refine zt 1 hS0 ?_
  simp only[Act.put,pq]
  refine zt 2 hS0 ?_
  simp only[Act.put,pq]
  refine zt 3 hS0 ?_
  simp only[Act.put,pq]
  refine zt 4 hS0 ?_
  simp only[Act.put,pq]
  refine zt 5 hS0 ?_
  simp only[Act.put,pq]
  refine zt 6 hS0 ?_
  simp only[Act.put,pq]
  refine zt 7 hS0 ?_
  simp only[Act.put,pq]
  have hSS:=zh (show ∀ y:World,y.heap[M]?=u0.heap[M]?->(y.cell? ⟨M,0,none⟩=some (.slice Af m d)/\(y.cell? ⟨M,1,none⟩=some (.slice A n c)/\(y.cell? ⟨M,2,none⟩=some (.int .i64 p.tries)/\(y.cell? ⟨M,3,none⟩=some (.int .i64 p.base)/\(y.cell? ⟨M,4,none⟩=some (.int .i64 p.cap)/\(y.cell? ⟨M,5,none⟩=some (.slice A1 n1 c1)/\(y.cell? ⟨M,6,none⟩=some (.slice Ac m cc)/\(y.cell? ⟨M,7,none⟩=some (.slice Av m cv)/\(y.cell? ⟨M,8,none⟩=some (.int .i64 now)/\(y.cell? ⟨M,9,none⟩=some (.int .i64 s.last)/\y.cell? ⟨M,10,none⟩=some (.slice A4 (ls++s.ltrs).length c4))))))))))) from fun y h=>⟨(cob M 0 h).trans hS0.1,(cob M 1 h).trans hS0.2.1,(cob M 2 h).trans hS0.2.2.1,(cob M 3 h).trans hS0.2.2.2.1,(cob M 4 h).trans hS0.2.2.2.2.1,(cob M 5 h).trans hS0.2.2.2.2.2.1,(cob M 6 h).trans hS0.2.2.2.2.2.2.1,(cob M 7 h).trans hS0.2.2.2.2.2.2.2.1,(cob M 8 h).trans hS0.2.2.2.2.2.2.2.2.1,(cob M 9 h).trans hS0.2.2.2.2.2.2.2.2.2.1,(cob M 10 h).trans hS0.2.2.2.2.2.2.2.2.2.2⟩)
  refine z06 (i:=8) (o:=_) rfl (by kernel_rfl) (fun K hK=>?_)
  go_simp
  refine hK.out _ _ (fun _=>hSS.out _ (by iterate 10 rw[Below.heap_setCell _ _ _ _ (by simp only[ne_eq];omega)])) ?_
  clear hK K
  try simp only[Act.put,pq]
  refine z06 (i:=9) (o:=_) rfl (by kernel_rfl) (fun K hK=>?_)
  go_simp
  refine hK.out _ _ (fun h=>absurd h (by decide)) ?_
  clear hK K
  try simp only[Act.put,pq]
  refine z06 (i:=10) (o:=_) rfl (by kernel_rfl) (fun K hK=>?_)
  go_simp
  refine hK.out _ _ (fun h=>absurd h (by decide)) ?_
  clear hK K
  try simp only[Act.put,pq]
  refine z0f (by kernel_rfl) ?_ _
  try simp only[Act.put,pq]
  go_wp2_with fail
  refine bpr Tryz.results25 (.tuple #[.agg #[.slice Af m d,.slice A n c,.int .i64 p.tries,.int .i64 p.base,.int .i64 p.cap,.slice A1 n1 c1,.slice Ac m cc,.slice Av m cv,.int .i64 now,.int .i64 s.last],.slice A4 (ls++s.ltrs).length c4,.int .i64 0]) ?_
  generalize hW9:World.setCell _ _ _=W9
  have hk:∀ b:Nat,b<w.heap.size->W9.heap[b]?=u0.heap[b]?:=fun b hb=>by
   rw[<-hW9]
   iterate 10 rw[Below.heap_setCell _ _ _ _ (by simp only[ne_eq];omega)]
  have hk9:∀ b:Nat,b≠w.heap.size->W9.heap[b]?=u0.heap[b]?:=fun b hb=>by
   rw[<-hW9]
   iterate 10 rw[Below.heap_setCell _ _ _ _ (by simp only[ne_eq];omega)]
  have hz9:W9.heap.size=u0.heap.size:=by rw[<-hW9];simp
  have hS9:∀ b,S b->since a W9 b/\W9.heap[b]?=w.heap[b]?:=fun b hb=>by
   have hbl:=HS.out.2.2.2.1 b hb
   exact⟨⟨HA.out.1 b hb,by omega⟩,(hk b hbl).trans ((hY0.block b (by omega)).trans (H2.out.2.1 b hb))⟩
  have hb9:∀ B,B<=M->B<=base->Below B w W9:=fun B h h'=>by
   rw[<-hW9]
   iterate 10 refine z03 ?_ (by simp;omega)
   exact z01 (H2.out.2.2.1 B h h') hY0 (by omega)
  have hm9:=H2.out.1
  have hrow:∀ (e:TypeId) (sz:Nat) (v:Value) (nn:Nat) (xs:List Value),w2.ownsRow base e sz v nn xs->(∀ q,v.ownBlock=some q->q≠w.heap.size)->W9.ownsRow base e sz v nn xs:=fun e sz v nn xs h h'=>z09 (z04 h hY0) (fun q hq _=>hk9 q (h' q hq))
  obtain⟨gml,gPl,gIl,gEk,gvo,glo,glw,gmd,gnc,gn1c,gcc,gcv⟩:=HE.out
  have gcl:s.calls.length=m:=by rw[gEk.cl,gml]
  have gvl:s.vals.length=m:=by rw[gEk.vl,gml]
  obtain⟨Ac,kc,ec,_,hsc⟩:=z7g Cll.cs Cll.wf lenCll (hrow _ _ _ _ _ hm9.2.2.1 HS.out.2.2.2.2.2.2.2.1) gcl (fun c hc=>zar (gEk.ok c hc))
  cases ec
  obtain⟨Av,kv,ev,_,hsv⟩:=z7g Val.cs Val.wf z7f (hrow _ _ _ _ _ hm9.2.2.2.1 HS.out.2.2.2.2.2.2.2.2) gvl gvo
  cases ev
  obtain⟨Al,kl,el,_,hsl⟩:=z7g Ltr.cs Ltr.wf (fun _=>rfl) (hrow _ _ _ _ _ hm9.2.2.2.2 H2.out.2.2.2.2) rfl (fun l hl=>by
   rcases List.mem_append.1 hl with hl | hl
   ·exact glw l hl
   exact glo l hl)
  cases el
  replace hsc:=hsc.mono (S':=since a W9) (fun b hb=>⟨Nat.le_trans HA.out.2 hb.1,hb.2⟩)
  replace hsv:=hsv.mono (S':=since a W9) (fun b hb=>⟨Nat.le_trans HA.out.2 hb.1,hb.2⟩)
  replace hsl:=hsl.mono (S':=since a W9) (fun b hb=>⟨Nat.le_trans HA.out.2 hb.1,hb.2⟩)
  rw[HR1.out]
  refine⟨⟨Af,d,A,c,A1,c1,Ac,cc,Av,cv,A4,c4,?_,⟨?_,?_,?_,?_,?_,H2.out.2.2.2.1⟩,?_,?_,?_,?_,?_,hsl⟩,hb9⟩<;>dsimp only
  ·rw[gcl,gvl,gml,gPl,gIl]
  ·rw[gml];exact gmd
  ·rw[gPl];exact gnc
  ·rw[gIl];exact gn1c
  ·rw[gcl];exact gcc
  ·rw[gvl];exact gcv
  ·rw[gml];exact HS.out.1.keepN z02 hS9
  ·rw[gPl];exact HS.out.2.1.keepN z0d hS9
  ·rw[gIl];exact (HS.out.2.2.1.keep (fun b hb=>(hS9 b hb).2) (fun _ _ h=>h)).mono (fun b hb=>(hS9 b hb).1)
  ·rw[gcl];exact hsc
  rw[gvl];exact hsv
 have HR1:=zh (HR.out.trans (if_neg hnk))
 have hnk':z4d now s.last=false:=by simpa using hnk
 rw[hnk'] at hnum
 clear hnk hnk' HR
 obtain⟨⟨q0,q1,q2,q3,q4,q5,q6,q7,q8,q9⟩,r0,r1,r2,r3,r4,r5,r6,r7,r8,r9⟩:=hqr
 go_wp2_with (go_at_call 36;refine (hnum _).mono ?_;rintro e w3 ⟨rfl,hb3⟩;refine zb hb3 ?_;rintro ⟨hc3,hf3⟩ hz3 hy3 hx3;refine szz w3 w2 ?_;intros)
 refine bpr Tryz.results25 (.tuple #[.agg #[.slice none 0 0,.slice none 0 0,.int .i64 0,.int .i64 0,.int .i64 0,.slice none 0 0,.slice none 0 0,.slice none 0 0,.int .i64 0,.int .i64 0],.slice none 0 0,.int .i64 4]) ?_
 rw[HR1.out]
 refine⟨EngIs.nil0 4 rfl,fun B h h'=>?_⟩
 iterate 10 refine z03 ?_ (by simp;omega)
 exact z01 (H2.out.2.2.1 B h h') hb3 (by omega)
end Go.Proofs.YtldhlpjjcnlbcaaGreat
