/- The reference settled. (printed by mkrfe2.py) -/
import Derived.Test.YtldhlpjjcnlbcaaGreatRfe1
import Derived.Test.YtldhlpjjcnlbcaaGreatEng7
import Derived.Test.YtldhlpjjcnlbcaaGreatCall6r
import Derived.Test.YtldhlpjjcnlbcaaGreatCall3
import Derived.Test.YtldhlpjjcnlbcaaGreatWhlG
set_option maxRecDepth 100000
set_option maxHeartbeats 8000000
namespace Go.Proofs.YtldhlpjjcnlbcaaGreat
open Go.RowKit
def OutS (y:World)(g:Nat)(fv pv:Value)(p:Pol)(iv:Value)(m:Nat)(Ac:Option Addr)(cc:Nat)(Av:Option Addr)(cv:Nat)(now:Int)(base:Nat)(cs:List Cll)(vs:List Val)(last:Int):Prop :=
 (y.cell? ⟨g,0,none⟩=some (fv)/\(y.cell? ⟨g,1,none⟩=some (pv)/\(y.cell? ⟨g,2,none⟩=some (.int .i64 p.tries)/\(y.cell? ⟨g,3,none⟩=some (.int .i64 p.base)/\(y.cell? ⟨g,4,none⟩=some (.int .i64 p.cap)/\(y.cell? ⟨g,5,none⟩=some (iv)/\(y.cell? ⟨g,6,none⟩=some (.slice Ac m cc)/\(y.cell? ⟨g,7,none⟩=some (.slice Av m cv)/\(y.cell? ⟨g,8,none⟩=some (.int .i64 now)/\y.cell? ⟨g,9,none⟩=some (.int .i64 last))))))))))/\y.frozen? ⟨g,9,none⟩=false /\
 y.ownsRow base 62 10 (.slice Ac m cc) m (cs.flatMap Cll.cs)/\y.ownsRow base 44 3 (.slice Av m cv) m (vs.flatMap Val.cs)
theorem OutS.keep {w w':World}{g:Nat}{fv pv:Value}{p:Pol}{iv:Value}{m:Nat}{Ac:Option Addr}{cc:Nat}{Av:Option Addr}{cv:Nat}{now:Int}{base:Nat}{cs:List Cll}{vs:List Val}{last:Int}(h:OutS w g fv pv p iv m Ac cc Av cv now base cs vs last)
  (hg:w'.heap[g]?=w.heap[g]?)(hc:∀ q,(Value.slice Ac m cc).ownBlock=some q->w'.heap[q]?=w.heap[q]?)(hv:∀ q,(Value.slice Av m cv).ownBlock=some q->w'.heap[q]?=w.heap[q]?):OutS w' g fv pv p iv m Ac cc Av cv now base cs vs last :=
 ⟨eb10 hg h.1,(fob g 9 hg).trans h.2.1,z09 h.2.2.1 (fun q hq _=>hc q hq),z09 h.2.2.2 (fun q hq _=>hv q hq)⟩
theorem OutS.lt {w:World}{g:Nat}{fv pv:Value}{p:Pol}{iv:Value}{m:Nat}{Ac:Option Addr}{cc:Nat}{Av:Option Addr}{cv:Nat}{now:Int}{base:Nat}{cs:List Cll}{vs:List Val}{last:Int}(h:OutS w g fv pv p iv m Ac cc Av cv now base cs vs last):g<w.heap.size:=block_lt_of_cell h.1.1
theorem OutS.below {w w':World}{g:Nat}{fv pv:Value}{p:Pol}{iv:Value}{m:Nat}{Ac:Option Addr}{cc:Nat}{Av:Option Addr}{cv:Nat}{now:Int}{base:Nat}{cs:List Cll}{vs:List Val}{last:Int}(h:OutS w g fv pv p iv m Ac cc Av cv now base cs vs last)
  (hb:Below w.heap.size w w'):OutS w' g fv pv p iv m Ac cc Av cv now base cs vs last :=
 h.keep (hb.block g h.lt) (fun q hq=>hb.block q (h.2.2.1.lt q hq).2) (fun q hq=>hb.block q (h.2.2.2.lt q hq).2)
theorem OutS.vset {w w':World}{g:Nat}{fv pv:Value}{p:Pol}{iv:Value}{m:Nat}{Ac:Option Addr}{cc gv cv:Nat}{now:Int}{base:Nat}{cs:List Cll}{vs vs':List Val}{last:Int}(h:OutS w g fv pv p iv m Ac cc (some ⟨gv,0,none⟩) cv now base cs vs last)
  (hb:∀ b:Nat,b≠gv->w'.heap[b]?=w.heap[b]?)(hg:g≠gv)(hc:∀ q,(Value.slice Ac m cc).ownBlock=some q->q≠gv)(hst:w'.ownsRow base 44 3 (.slice (some ⟨gv,0,none⟩) m cv) m (vs'.flatMap Val.cs)):OutS w' g fv pv p iv m Ac cc (some ⟨gv,0,none⟩) cv now base cs vs' last :=
 ⟨eb10 (hb g hg) h.1,(fob g 9 (hb g hg)).trans h.2.1,z09 h.2.2.1 (fun q hq _=>hb q (hc q hq)),hst⟩
theorem namedF_wfE {F:List Fld}{vs:List Val}(hF:∀ f∈F,inS f.name)(hv:∀ v∈vs,v.wf):∀ a∈z1k F vs,a.wf:=by
 intro a ha
 obtain⟨i,f,v,hf,hq,rfl⟩:=z6n ha
 exact⟨hF f (List.mem_of_getElem? hf),z9v,hv v (List.mem_of_getElem? hq)⟩
def SetIs (a:Nat)(w':World)(r:Eng×List Ltr)(e:Ending):Prop :=
 ∃ B d A c A1 c1 A2 c2 A3 c3 A4 c4,e=.returned (.tuple #[.agg #[.slice B r.1.F.length d,.slice A r.1.P.length c,.int .i64 r.1.p.tries,.int .i64 r.1.p.base,.int .i64 r.1.p.cap,.slice A1 r.1.ins.length c1,.slice A2 r.1.cs.length c2,.slice A3 r.1.vs.length c3,.int .i64 r.1.now,.int .i64 r.1.last],.slice A4 r.2.length c4]) /\
  (r.1.F.length<=d/\r.1.P.length<=c/\r.1.ins.length<=c1/\r.1.cs.length<=c2/\r.1.vs.length<=c3/\r.2.length<=c4) /\
  Sl w' (since a w') 9 (RFld w' (since a w')) B r.1.F.length r.1.F/\Sl w' (since a w') 8 (RPag w' (since a w')) A r.1.P.length r.1.P/\Sl w' (since a w') 7 RFct A1 r.1.ins.length r.1.ins/\Sl w' (since a w') 10 RCll A2 r.1.cs.length r.1.cs/\Sl w' (since a w') 3 RVal A3 r.1.vs.length r.1.vs/\Sl w' (since a w') 8 RLtr A4 r.2.length r.2
theorem ref_settled (B:Option Addr)(m d:Nat)(F:List Fld)(A:Option Addr)(n c:Nat)(P:List Pag)(p:Pol)(A1:Option Addr)(n1 c1:Nat)(ins:List Fct)(A2:Option Addr)(n2 c2:Nat)(cs:List Cll)(A3:Option Addr)(n3 c3:Nat)(vs:List Val)(now last:Int)(w:World)
  (hX:REn w B m d F A n c P A1 n1 c1 ins A2 n2 c2 cs A3 n3 c3 vs)(hO:z2i F)(hok:SetOk F p ins now cs last)(hvl:vs.length=F.length) :
  Calls Tryz.prog 45 #[.agg #[.slice B m d,.slice A n c,.int .i64 p.tries,.int .i64 p.base,.int .i64 p.cap,.slice A1 n1 c1,.slice A2 n2 c2,.slice A3 n3 c3,.int .i64 now,.int .i64 last]] w fun e w'=>SetIs w.heap.size w' (toEng ⟨F,P,p,ins,cs,vs,now,last⟩,(setE ⟨F,P,p,ins,cs,vs,now,last⟩).ltrs) e/\Below w.heap.size w w':=by
 have h1:=fun w h=>zcg B m d F A n c P p A1 n1 c1 ins A2 n2 c2 cs A3 n3 c3 vs now last w h
 have hml:F.length=m:=hX.1.2.2.2.2.1.len
 have h14:m<=14:=by rw[<-hml];exact (z0h (z13 hok.1.1).1).1
 have hor:z3u F=(toI (ordF F),0):=by unfold z3u;rw[if_pos hok.1.1]
 have hol:(ordF F).length=m:=by unfold ordF;rw[z2v,hml]
 have hil:(toI (ordF F)).length=m:=by unfold toI;rw[List.length_map,hol]
 have h2:∀ w,REn w B m d F A n c P A1 n1 c1 ins A2 n2 c2 cs A3 n3 c3 vs->Calls Tryz.prog 75 #[.slice B m d] w (fun e w'=>∃ A c,e=.returned (.tuple #[.slice A m c,.int .i64 0])/\m<=c/\Sl w' (since w.heap.size w') 1 RInt A m (toI (ordF F))/\Below w.heap.size w w'):=by
  intro w h
  refine (z90 F B m d w h.1.1 h.1.2.2.2.2.1 hO.1 hO.2).mono ?_
  rintro e w' ⟨A,c,q1,q2,q3,q4⟩
  rw[hor] at q1 q2 q3
  dsimp only at q1 q2 q3
  rw[hil] at q1 q2 q3
  exact⟨A,c,q1,q2,q3,q4⟩
 have hres:(toEng ⟨F,P,p,ins,cs,vs,now,last⟩,(setE ⟨F,P,p,ins,cs,vs,now,last⟩).ltrs)=((⟨F,P,p,ins,(setR F p ins now cs last F.length).calls,(setR F p ins now cs last F.length).vals,now,(setR F p ins now cs last F.length).last⟩:Eng),(setR F p ins now cs last F.length).ltrs):=by
  unfold toEng setE
  dsimp only
  rw[set_same hok hvl]
 have hlt:∀ l∈(setR F p ins now cs last F.length).ltrs,l.wf:=by rw[<-set_same hok hvl];exact zhk hok hvl (fun f hf=>(hO.2 f hf).1) _ (nr _)
 obtain⟨rr,hrr⟩:∃ rr,rr=(toEng ⟨F,P,p,ins,cs,vs,now,last⟩,(setE ⟨F,P,p,ins,cs,vs,now,last⟩).ltrs):=⟨_,rfl⟩
 rw[<-hrr]
 obtain⟨E,hE⟩:∃ E,E=setR F p ins now cs last:=⟨_,rfl⟩
 have hE0:E 0=⟨cs,List.replicate F.length pendV,last,[]⟩:=by rw[hE];rfl
 have hEs:∀ (j i:Nat) (f:Fld),(ordF F)[j]?=some i->(F)[i]?=some f->E (j+1)=eStep p ins now (z1k F (E j).vals) (E j) i f:=fun j i f h1 h2=>by rw[hE];exact zh8 h1 h2
 have hEk:∀ j,j<=m->EOk p last m j (E j):=fun j hj=>by rw[hE,<-hml];exact (z5m (vs:=vs) hok hvl (by omega)).2.2.1
 have hEv:∀ j,j<=m->∀ v∈(E j).vals,valCheck v=0:=fun j hj=>by rw[hE];exact (z5m (vs:=vs) hok hvl (by omega)).2.2.2
 have hEy:∀ (j i:Nat) (f:Fld),j<=m->(F)[i]?=some f->f.kind=3->valCheck (keyE (z1k F (E j).vals) f)=0:=fun j i f hj hf hk=>by
  have hkn:z1q (z1k F (E j).vals)=0:=z5l (hEv j hj)
  have hfo:=hok.1.2.1 f (List.mem_of_getElem? hf)
  unfold keyE
  rw[z6k (hfo.2.2 (by omega)) hkn]
  exact z5a (z4x hkn) _ _ (nr _) (z1f (hfo.2.2 (by omega)))
 rw[<-hE] at hres hlt
 have HR:=zh (ai (hrr.trans hres) hlt)
 have hwf:∀ x∈ins,x.wf:=Sl.all_wf hX.2.1.2.2 fun _ _ h=>h.2
 have hfn:∀ f∈F,inS f.name:=fun f hf=>(hO.2 f hf).1
 have hnn:n1<=140737488351232:=hX.2.1.1.l (by decide)
 have hIl:ins.length=n1:=hX.2.1.2.2.len
 have hcl0:cs.length=F.length:=hok.2.2.2.1
 have HE:=zh (ai hE0 (ai hEs (ai hEk (ai hEv (ai hEy (ai hml (ai hol (ai hwf (ai hfn (ai hok (ai hvl (ai hcl0 hIl))))))))))))
 have HX:=zh hX
 obtain⟨i0,ei,ez0,ez1,ez2⟩:=info_parts Tryz.infoLtr
 clear hX hO hok hvl hml hor hol hil hres hlt hrr hE hE0 hEs hEk hEv hEy hwf hfn hIl hcl0
 go_enter Tryz.func45,Tryz.ntmps45
 go_upto_region 3 with (go_at_call 15;refine (h1 _ (HX.out.now bel)).mono ?_;rintro e w1 ⟨Af,c5,A6,c6,A7,c7,Ac,cc,Av,cv,N0,N1,N2,rfl,hcop,hb1⟩;refine zb hb1 ?_;rintro ⟨hc1,hf1⟩ hz1 hy1 hx1;refine szz w1 w ?_;intros)
 refine z0k ?_;intro W0 hW0
 obtain⟨g,hg⟩:∃ g,g=w1.heap.size:=⟨_,rfl⟩
 have hz0:W0.heap.size=w1.heap.size+1:=by rw[hW0];simp
 have hb01:Below w1.heap.size w1 W0:=by rw[hW0];exact bel
 have hB0:Below w.heap.size w W0:=by rw[hW0];exact bel
 have e0:W0.cell? ⟨w.heap.size,0,none⟩=some (.slice B m d):=by rw[hW0];go_simp
 have z0:W0.cell? ⟨w1.heap.size,0,none⟩=some (.slice Af F.length c5):=by rw[hW0];first | exact (by first | (go_simp;done) | (go_simp;exact World.cell?_setCell_same' _ _ _ (by go_simp))) | go_simp
 have z1:W0.cell? ⟨w1.heap.size,1,none⟩=some (.slice A6 P.length c6):=by rw[hW0];first | exact (by first | (go_simp;done) | (go_simp;exact World.cell?_setCell_same' _ _ _ (by go_simp))) | go_simp
 have z2:W0.cell? ⟨w1.heap.size,2,none⟩=some (.int .i64 p.tries):=by rw[hW0];first | exact (by first | (go_simp;done) | (go_simp;exact World.cell?_setCell_same' _ _ _ (by go_simp))) | go_simp
 have z3:W0.cell? ⟨w1.heap.size,3,none⟩=some (.int .i64 p.base):=by rw[hW0];first | exact (by first | (go_simp;done) | (go_simp;exact World.cell?_setCell_same' _ _ _ (by go_simp))) | go_simp
 have z4:W0.cell? ⟨w1.heap.size,4,none⟩=some (.int .i64 p.cap):=by rw[hW0];first | exact (by first | (go_simp;done) | (go_simp;exact World.cell?_setCell_same' _ _ _ (by go_simp))) | go_simp
 have z5:W0.cell? ⟨w1.heap.size,5,none⟩=some (.slice A7 ins.length c7):=by rw[hW0];first | exact (by first | (go_simp;done) | (go_simp;exact World.cell?_setCell_same' _ _ _ (by go_simp))) | go_simp
 have z6:W0.cell? ⟨w1.heap.size,6,none⟩=some (.slice Ac cs.length cc):=by rw[hW0];first | exact (by first | (go_simp;done) | (go_simp;exact World.cell?_setCell_same' _ _ _ (by go_simp))) | go_simp
 have z7:W0.cell? ⟨w1.heap.size,7,none⟩=some (.slice Av vs.length cv):=by rw[hW0];first | exact (by first | (go_simp;done) | (go_simp;exact World.cell?_setCell_same' _ _ _ (by go_simp))) | go_simp
 have z8:W0.cell? ⟨w1.heap.size,8,none⟩=some (.int .i64 now):=by rw[hW0];first | exact (by first | (go_simp;done) | (go_simp;exact World.cell?_setCell_same' _ _ _ (by go_simp))) | go_simp
 have z9:W0.cell? ⟨w1.heap.size,9,none⟩=some (.int .i64 last):=by rw[hW0];first | exact (by first | (go_simp;done) | (go_simp;exact World.cell?_setCell_same' _ _ _ (by go_simp))) | go_simp
 have zf:W0.frozen? ⟨w1.heap.size,9,none⟩=false:=by rw[hW0];go_simp
 have q0:W0.cell? ⟨w.heap.size+1,0,none⟩=some (.slice none 0 0):=by rw[hW0];go_simp
 have q1:W0.cell? ⟨w.heap.size+1,1,none⟩=some (.slice none 0 0):=by rw[hW0];go_simp
 have q2:W0.cell? ⟨w.heap.size+1,2,none⟩=some (.int .i64 0):=by rw[hW0];go_simp
 have q3:W0.cell? ⟨w.heap.size+1,3,none⟩=some (.int .i64 0):=by rw[hW0];go_simp
 have q4:W0.cell? ⟨w.heap.size+1,4,none⟩=some (.int .i64 0):=by rw[hW0];go_simp
 have q5:W0.cell? ⟨w.heap.size+1,5,none⟩=some (.slice none 0 0):=by rw[hW0];go_simp
 have q6:W0.cell? ⟨w.heap.size+1,6,none⟩=some (.slice none 0 0):=by rw[hW0];go_simp
 have q7:W0.cell? ⟨w.heap.size+1,7,none⟩=some (.slice none 0 0):=by rw[hW0];go_simp
 have q8:W0.cell? ⟨w.heap.size+1,8,none⟩=some (.int .i64 0):=by rw[hW0];go_simp
 have q9:W0.cell? ⟨w.heap.size+1,9,none⟩=some (.int .i64 0):=by rw[hW0];go_simp
 have r0:W0.frozen? ⟨w.heap.size+1,0,none⟩=false:=by rw[hW0];go_simp
 have r1:W0.frozen? ⟨w.heap.size+1,1,none⟩=false:=by rw[hW0];go_simp
 have r2:W0.frozen? ⟨w.heap.size+1,2,none⟩=false:=by rw[hW0];go_simp
 have r3:W0.frozen? ⟨w.heap.size+1,3,none⟩=false:=by rw[hW0];go_simp
 have r4:W0.frozen? ⟨w.heap.size+1,4,none⟩=false:=by rw[hW0];go_simp
 have r5:W0.frozen? ⟨w.heap.size+1,5,none⟩=false:=by rw[hW0];go_simp
 have r6:W0.frozen? ⟨w.heap.size+1,6,none⟩=false:=by rw[hW0];go_simp
 have r7:W0.frozen? ⟨w.heap.size+1,7,none⟩=false:=by rw[hW0];go_simp
 have r8:W0.frozen? ⟨w.heap.size+1,8,none⟩=false:=by rw[hW0];go_simp
 have r9:W0.frozen? ⟨w.heap.size+1,9,none⟩=false:=by rw[hW0];go_simp
 have hz1:w.heap.size+2<=w1.heap.size:=by have:=hb1.size;simp at this;omega
 rw[<-hg]
 rw[<-hg] at z0 z1 z2 z3 z4 z5 z6 z7 z8 z9 zf
 obtain⟨k5,k6,k7,k8,k9,s5,s6,o7,o8,o9,q7',q8',n0,n1',n2',n3'⟩:=hcop
 simp only[World.size_alloc] at n0
 have hmm:F.length=m:=HE.out.2.2.2.2.2.1
 have hcm:cs.length=m:=HE.out.2.2.2.2.2.2.2.2.2.2.2.1.trans hmm
 have hvm:vs.length=m:=HE.out.2.2.2.2.2.2.2.2.2.2.1.trans hmm
 rw[hmm] at z0 s5 k5
 rw[hcm] at z6 o8 q8' k8
 rw[hvm] at z7 o9 k9
 have hlg:∀ q,(Value.slice Ac m cc).ownBlock=some q->q≠g/\q<W0.heap.size/\some q≠(Value.slice Av m cv).ownBlock:=fun q hq=>⟨by have:=(o8.lt q hq).2;omega,by have:=(o8.lt q hq).2;omega,fun e=>by have:=(o9.lt q e.symm).1;have:=q8' q hq;omega⟩
 have hlv:∀ q,(Value.slice Av m cv).ownBlock=some q->q≠g/\q<W0.heap.size:=fun q hq=>⟨by have:=(o9.lt q hq).2;omega,by have:=(o9.lt q hq).2;omega⟩
 have hOS0:OutS W0 g (.slice Af m c5) (.slice A6 P.length c6) p (.slice A7 ins.length c7) m Ac cc Av cv now N0 cs vs last:=⟨⟨z0,z1,z2,z3,z4,z5,z6,z7,z8,z9⟩,zf,z04 (z0c o8 n1') hb01,z04 (z0c o9 (Nat.le_trans n1' n2')) hb01⟩
 obtain⟨S,hS⟩:∃ S:Nat -> Prop,S=fun b=>z2u (w.heap.size+2) N0 b\/(Value.slice A7 ins.length c7).ownBlock=some b:=⟨_,rfl⟩
 have gF:Sl W0 S 9 (RFld W0 S) Af m F:=s5.keepN z02 (fun b hb=>⟨by rw[hS];have h9:=hb.1;simp only[World.size_alloc] at h9;exact .inl ⟨by omega,hb.2⟩,hb01.block b (by have:=hb.2;omega)⟩)
 have gP:Sl W0 S 8 (RPag W0 S) A6 P.length P:=s6.keepN z0d (fun b hb=>⟨by rw[hS];have h9:=hb.1;simp only[World.size_alloc] at h9;exact .inl ⟨by omega,hb.2⟩,hb01.block b (by have:=hb.2;omega)⟩)
 have gI:Sl W0 S 7 RFct A7 ins.length ins:=by
  obtain⟨A',c',e',_,hs'⟩:=ownFct (z04 o7 hb01) rfl HE.out.2.2.2.2.2.2.2.1
  cases e'
  refine⟨hs'.1,fun h0=>?_⟩
  obtain⟨b,o,e,_,hc⟩:=hs'.2 h0
  exact⟨b,o,e,by rw[hS];exact .inr (by rw[e];rfl),hc⟩
 have gSo:∀ b,S b->b<W0.heap.size/\b≠g/\some b≠(Value.slice Ac m cc).ownBlock/\some b≠(Value.slice Av m cv).ownBlock/\w.heap.size+2<=b:=fun b hb=>by
  rw[hS] at hb
  rcases hb with hb | hb
  ·have h1:=hb.1
   have h2:=hb.2
   exact⟨by omega,by omega,fun e=>by have:=(o8.lt b e.symm).1;omega,fun e=>by have:=(o9.lt b e.symm).1;omega,h1⟩
  have h2:=(o7.lt b hb).2
  have h3:=q7' b hb
  have h4:=(o7.lt b hb).1
  exact⟨by omega,by omega,fun e=>by have:=(o8.lt b e.symm).1;omega,fun e=>by have:=(o9.lt b e.symm).1;omega,by omega⟩
 have hNw:w.heap.size<=N0:=by omega
 have hgw:w.heap.size+2<=g:=by omega
 have hgW:g<W0.heap.size:=by omega
 have hNW:N0<=W0.heap.size:=by omega
 have hcb:∀ q,(Value.slice Ac m cc).ownBlock=some q->w.heap.size+2<=q:=fun q hq=>by have:=(o8.lt q hq).1;omega
 have hvb:∀ q,(Value.slice Av m cv).ownBlock=some q->w.heap.size+2<=q:=fun q hq=>by have:=(o9.lt q hq).1;omega
 have HC:=zh (ai hOS0 (ai gF (ai gP (ai gI (ai gSo (ai hlg (ai hlv (ai hcb (ai hvb (ai k5 (ai k6 (ai k7 (ai k8 k9)))))))))))))
 clear hW0 hz0 hb01 s5 s6 o7 o8 o9 q7' q8' n0 n1' n2' n3' hS hOS0 gF gP gI gSo hlg hlv hcb hvb hb1 hc1 hf1 hg hz1 z0 z1 z2 z3 z4 z5 z6 z8 z9 zf h1 k5 k6 k7 k8 k9 hcm hvm hmm
 generalize hdq:c5=d9 at *
 clear hdq
 go_upto_region 4 with (go_at_call 75;refine (h2 _ (HX.out.now hB0)).mono ?_;rintro e w2 ⟨A5,c5',rfl,hc5,hs5,hb2⟩)
 have hz2:=hb2.size
 have HS5:=zh hs5
 have HB2:=zh hb2
 replace z7:=z00 z7 hb2
 replace q0:=z00 q0 hb2
 replace r0:=(hb2.frozen (p:=⟨w.heap.size+1,0,none⟩) (by show w.heap.size+1<_;omega)).trans r0
 replace q1:=z00 q1 hb2
 replace r1:=(hb2.frozen (p:=⟨w.heap.size+1,1,none⟩) (by show w.heap.size+1<_;omega)).trans r1
 replace q2:=z00 q2 hb2
 replace r2:=(hb2.frozen (p:=⟨w.heap.size+1,2,none⟩) (by show w.heap.size+1<_;omega)).trans r2
 replace q3:=z00 q3 hb2
 replace r3:=(hb2.frozen (p:=⟨w.heap.size+1,3,none⟩) (by show w.heap.size+1<_;omega)).trans r3
 replace q4:=z00 q4 hb2
 replace r4:=(hb2.frozen (p:=⟨w.heap.size+1,4,none⟩) (by show w.heap.size+1<_;omega)).trans r4
 replace q5:=z00 q5 hb2
 replace r5:=(hb2.frozen (p:=⟨w.heap.size+1,5,none⟩) (by show w.heap.size+1<_;omega)).trans r5
 replace q6:=z00 q6 hb2
 replace r6:=(hb2.frozen (p:=⟨w.heap.size+1,6,none⟩) (by show w.heap.size+1<_;omega)).trans r6
 replace q7:=z00 q7 hb2
 replace r7:=(hb2.frozen (p:=⟨w.heap.size+1,7,none⟩) (by show w.heap.size+1<_;omega)).trans r7
 replace q8:=z00 q8 hb2
 replace r8:=(hb2.frozen (p:=⟨w.heap.size+1,8,none⟩) (by show w.heap.size+1<_;omega)).trans r8
 replace q9:=z00 q9 hb2
 replace r9:=(hb2.frozen (p:=⟨w.heap.size+1,9,none⟩) (by show w.heap.size+1<_;omega)).trans r9
 clear hs5 hb2 e0 h2
 have hgw2:g<w2.heap.size:=by omega
 go_wp2_with fail
 go_loopw [30] (fun i wr=>∃ k:Nat,k<=m/\i=.int .i64 k/\Hid (wr.ownsRow N0 44 3 (.slice Av m cv) m ((List.replicate k pendV++vs.drop k).flatMap Val.cs))/\Hid (∀ b,b<w2.heap.size->some b≠(Value.slice Av m cv).ownBlock->wr.heap[b]?=w2.heap[b]?)/\Hid (Below w.heap.size w wr)/\w2.heap.size<=wr.heap.size) (fun i _=>m-(intOf i).toNat)
 case atStart=>exact⟨0,by omega,rfl,zh (by simpa using z04 HC.out.1.2.2.2 HB2.out),zh (fun _ _ _=>rfl),zh (z01 hB0 HB2.out hB0.size),nr _⟩
 case round =>
  obtain⟨k,hk,rfl,hrow,hfr,hbw,hzr⟩:=hrel
  have hvl2:vs.length=m:=HE.out.2.2.2.2.2.2.2.2.2.2.1.trans HE.out.2.2.2.2.2.1
  by_cases hlt:k<m
  ·obtain⟨gv,kv,ev,hbv,_⟩:=hrow.out.form (by omega)
   cases ev
   have hgg:g≠gv:=fun e=>(HC.out.2.2.2.2.2.2.1 gv rfl).1 e.symm
   have y7:=(cob g 7 (hfr.out g hgw2 (fun e=>hgg (Option.some.inj e)))).trans z7
   obtain⟨ov,hov⟩:∃ ov,(List.replicate k pendV++vs.drop k)[k]?=some ov:=⟨_,gq (by simp;omega)⟩
   obtain⟨e0,e1,e2⟩:=z2z hrow.out hov hlt
   have f0:=hrow.out.frozenAt (k*3)
   have f1:=hrow.out.frozenAt (k*3+1)
   have f2:=hrow.out.frozenAt (k*3+2)
   have hgu:gv<wr.heap.size:=block_lt_of_cell e0
   have hgr:g<wr.heap.size:=by omega
   have hki:(k:Int)<(m:Int):=by omega
   have hst:=(((hrow.out.stored (k*3) (.int .i64 pendV.k)).1.stored (k*3+1) (.int .i64 pendV.n)).1.stored (k*3+2) (.string pendV.s)).1
   rw[z4y _ k pendV (by simp;omega)] at hst
   have hrs:(List.replicate k pendV++vs.drop k).set k pendV=List.replicate (k+1) pendV++vs.drop (k+1):=by
    rw[List.set_append_right _ _ (by simp)]
    rw[List.length_replicate,Nat.sub_self,List.drop_eq_getElem_cons (by omega),List.set_cons_zero,List.replicate_succ']
    simp
   rw[hrs] at hst
   have HST:=zh hst
   clear hst hrs hov
   go_wp2_with fail
   go_roundw
   case rel =>
    refine⟨k+1,by omega,by go_num,zh HST.out,zh (fun b hb hne=>?_),zh ?_,by simp;omega⟩
    ·have hne':b≠gv:=fun e=>hne (by rw[e];rfl)
     iterate 3 rw[Below.heap_setCell _ _ _ _ (by exact hne')]
     exact hfr.out b hb hne
    have:=HC.out.2.2.2.2.2.2.2.2.1 gv rfl
    iterate 3 refine z03 ?_ (by show w.heap.size<=gv;omega)
    exact hbw.out
   case measure=>simp[intOf];omega
  have hke:k=m:=by omega
  subst hke
  generalize hwq:wr=wq at *
  clear hwq
  have hrow':=hrow.out
  rw[show List.replicate k pendV++vs.drop k=List.replicate F.length pendV by rw[List.drop_of_length_le (by omega),List.append_nil,HE.out.2.2.2.2.2.1]] at hrow'
  have hfw:∀ b,b<W0.heap.size->some b≠(Value.slice Av k cv).ownBlock->wq.heap[b]?=W0.heap[b]?:=fun b hb hne=>(hfr.out b (by omega) hne).trans (HB2.out.block b hb)
  have hgA:some g≠(Value.slice Av k cv).ownBlock:=fun e=>(HC.out.2.2.2.2.2.2.1 g e.symm).1 rfl
  have hO2:OutS wq g (.slice Af k d9) (.slice A6 P.length c6) p (.slice A7 ins.length c7) k Ac cc Av cv now N0 cs (List.replicate F.length pendV) last:=by
   have h:=HC.out.1
   refine⟨eb10 (hfw g hgW hgA) h.1,(fob g 9 (hfw g hgW hgA)).trans h.2.1,?_,hrow'⟩
   exact z09 h.2.2.1 (fun q hq _=>hfw q (HC.out.2.2.2.2.2.1 q hq).2.1 (HC.out.2.2.2.2.2.1 q hq).2.2)
  have HO2:=zh hO2
  have HFW:=zh (ai hfw (ai hfr.out hbw.out))
  have hzq:W0.heap.size<=wq.heap.size:=by omega
  have hq1:some (w.heap.size+1)≠(Value.slice Av k cv).ownBlock:=fun e=>by have:=HC.out.2.2.2.2.2.2.2.2.1 _ e.symm;omega
  have hqb:=hfr.out (w.heap.size+1) (by omega) hq1
  replace q0:=(cob (w.heap.size+1) (0) hqb).trans q0
  replace r0:=(fob (w.heap.size+1) (0) hqb).trans r0
  replace q1:=(cob (w.heap.size+1) (1) hqb).trans q1
  replace r1:=(fob (w.heap.size+1) (1) hqb).trans r1
  replace q2:=(cob (w.heap.size+1) (2) hqb).trans q2
  replace r2:=(fob (w.heap.size+1) (2) hqb).trans r2
  replace q3:=(cob (w.heap.size+1) (3) hqb).trans q3
  replace r3:=(fob (w.heap.size+1) (3) hqb).trans r3
  replace q4:=(cob (w.heap.size+1) (4) hqb).trans q4
  replace r4:=(fob (w.heap.size+1) (4) hqb).trans r4
  replace q5:=(cob (w.heap.size+1) (5) hqb).trans q5
  replace r5:=(fob (w.heap.size+1) (5) hqb).trans r5
  replace q6:=(cob (w.heap.size+1) (6) hqb).trans q6
  replace r6:=(fob (w.heap.size+1) (6) hqb).trans r6
  replace q7:=(cob (w.heap.size+1) (7) hqb).trans q7
  replace r7:=(fob (w.heap.size+1) (7) hqb).trans r7
  replace q8:=(cob (w.heap.size+1) (8) hqb).trans q8
  replace r8:=(fob (w.heap.size+1) (8) hqb).trans r8
  replace q9:=(cob (w.heap.size+1) (9) hqb).trans q9
  replace r9:=(fob (w.heap.size+1) (9) hqb).trans r9
  have hgq:g<wq.heap.size:=by omega
  have hs5q:Sl wq (since W0.heap.size w2) 1 RInt A5 k (toI (ordF F)):=HS5.out.keep (fun b hb=>hfr.out b hb.2 (fun e=>by have:=(HC.out.2.2.2.2.2.2.1 b e.symm).2;have:=hb.1;omega)) (fun _ _ h=>h)
  have HS6:=zh hs5q
  clear hrow hrow' hfw hgA hO2 hqb hs5q z7 hfr hbw hvl2 hlt hk
  go_wp2_with fail
  go_loopw [5,41] (fun v i wr=>∃ j:Nat,j<=k/\i=.int .i64 j/\Hid (OutS wr g (.slice Af k d9) (.slice A6 P.length c6) p (.slice A7 ins.length c7) k Ac cc Av cv now N0 (E j).calls (E j).vals (E j).last)/\Hid (wr.ownsRow wq.heap.size 48 8 v (E j).ltrs.length ((E j).ltrs.flatMap Ltr.cs))/\Hid (∀ b,b<wq.heap.size->b≠g->some b≠(Value.slice Ac k cc).ownBlock->some b≠(Value.slice Av k cv).ownBlock->wr.heap[b]?=wq.heap[b]?)/\Hid (Below w.heap.size w wr)/\wq.heap.size<=wr.heap.size) (fun _ i _=>k-(intOf i).toNat)
  case atStart =>
   refine⟨0,by omega,rfl,zh ?_,zh ?_,zh (fun _ _ _ _ _=>rfl),zh HFW.out.2.2,nr _⟩
   ·rw[HE.out.1];exact HO2.out
   rw[HE.out.1];exact World.ownsRow_nil _ _ _ _
  case round =>
   obtain⟨j,hj,rfl,hos,hlr,hfr,hbw,hzr⟩:=hrel
   by_cases hlt:j<k
   ·have hzwq:=hzr
    obtain⟨s,hs⟩:∃ s,s=E j:=⟨_,rfl⟩
    have hEj:=HE.out.2.2.1 j hj
    have hEvj:=HE.out.2.2.2.1 j hj
    rw[<-hs] at hos hlr hEj hEvj
    have hframe:∀ b,b<W0.heap.size->b≠g->some b≠(Value.slice Ac k cc).ownBlock->some b≠(Value.slice Av k cv).ownBlock->wr.heap[b]?=W0.heap[b]?:=fun b hb h1 h2 h3=>(hfr.out b (by omega) h1 h2 h3).trans (HFW.out.1 b hb h3)
    have hfS:∀ b,S b->wr.heap[b]?=W0.heap[b]?:=fun b hb=>have h:=HC.out.2.2.2.2.1 b hb;hframe b h.1 h.2.1 h.2.2.1 h.2.2.2.1
    have hSr:Sl wr S 9 (RFld wr S) Af k F:=HC.out.2.1.keepN z02 (fun b hb=>⟨hb,hfS b hb⟩)
    have hIr:Sl wr S 7 RFct A7 ins.length ins:=HC.out.2.2.2.1.keep hfS (fun _ _ h=>h)
    have hSor:∀ b,S b->b<wr.heap.size:=fun b hb=>by have:=(HC.out.2.2.2.2.1 b hb).1;omega
    have hs5r:Sl wr (since W0.heap.size w2) 1 RInt A5 k (toI (ordF F)):=HS6.out.keep (fun b hb=>hfr.out b (by have:=hb.2;omega) (by have:=hb.1;omega) (fun e=>by have:=(HC.out.2.2.2.2.2.1 b e.symm).2.1;have:=hb.1;omega) (fun e=>by have:=(HC.out.2.2.2.2.2.2.1 b e.symm).2;have:=hb.1;omega)) (fun _ _ h=>h)
    obtain⟨b,o,pi,hAe,hbs,hlp,hpi,y0⟩:=z5c hs5r hlt
    subst hAe
    have hbl':b<wr.heap.size:=by have:=hbs.2;omega
    obtain⟨x,hx,rfl,hxF'⟩:=ord_at hlp
    have hxF:x<k:=by rw[<-HE.out.2.2.2.2.2.1];exact hxF'
    have hxi:(x:Int)<(k:Int):=by omega
    obtain⟨fb,fo,f,X,C,hAf,hb8,hf,hrep,x0,x1,x2,x3,x4,x5,x6,x7,x8⟩:=z25 hSr hxF
    subst hAf
    have hbl8:fb<wr.heap.size:=hSor _ hb8
    obtain⟨gc,kc,ec,hbgc,_⟩:=hos.out.2.2.1.form (by omega)
    cases ec
    obtain⟨gv,kv,ev,hbgv,_⟩:=hos.out.2.2.2.form (by omega)
    cases ev
    have hgc:g≠gc:=fun e=>(HC.out.2.2.2.2.2.1 gc rfl).1 e.symm
    have hgv:g≠gv:=fun e=>(HC.out.2.2.2.2.2.2.1 gv rfl).1 e.symm
    have hgcv:gc≠gv:=fun e=>(HC.out.2.2.2.2.2.1 gc rfl).2.2 (by rw[e];rfl)
    have hgcl:gc<W0.heap.size:=(HC.out.2.2.2.2.2.1 gc rfl).2.1
    have hgvl:gv<W0.heap.size:=(HC.out.2.2.2.2.2.2.1 gv rfl).2
    have hgcw:w.heap.size<=gc:=by have:=HC.out.2.2.2.2.2.2.2.1 gc rfl;omega
    have hgvw:w.heap.size<=gv:=by have:=HC.out.2.2.2.2.2.2.2.2.1 gv rfl;omega
    have hgr:g<wr.heap.size:=by omega
    obtain⟨kn,hknq⟩:∃ kn,kn=z1k F s.vals:=⟨_,rfl⟩
    have hvls:s.vals.length=k:=hEj.vl
    have hknl:kn.length=k:=by rw[hknq,z3o (by rw[hvls,HE.out.2.2.2.2.2.1]),HE.out.2.2.2.2.2.1]
    have hknw:∀ a∈kn,a.wf:=by rw[hknq];exact namedF_wfE HE.out.2.2.2.2.2.2.2.2.1 (fun v hv=>z48 (hEvj v hv))
    obtain⟨Aq,cq',eq9,_,hsv⟩:=z6p hos.out.2.2.2 hvls (fun v hv=>z48 (hEvj v hv))
    cases eq9
    have hstep:=HE.out.2.1 j x f hx hf
    have hkey:=HE.out.2.2.2.2.1 j x f hj hf
    rw[<-hs,<-hknq] at hstep hkey
    have hnm:=fun w h h'=>zeg (some ⟨fb,fo,none⟩) k d9 F (some ⟨gv,0,none⟩) cv s.vals w h14 h h'
    rw[<-hknq] at hnm
    obtain⟨zg0,zg1,zg2,zg3,zg4,zg5,zg6,zg7,zg8,zg9⟩:=hos.out.1
    have hvb5:∀ q,u5.ownBlock=some q->wq.heap.size<=q:=fun q hq=>(hlr.out.lt q hq).1
    have HF:=zh (ai hf (ai hstep (ai hkey (ai hEj (ai hknl (ai hrep (ai hknw (ai hSr (ai hIr (ai hSor hsv))))))))))
    have hfr2:∀ b,b<wq.heap.size->b≠g->b≠gc->b≠gv->wr.heap[b]?=wq.heap[b]?:=fun b hb h1 h2 h3=>hfr.out b hb h1 (fun e=>h2 (Option.some.inj e)) (fun e=>h3 (Option.some.inj e))
    have HFR:=zh (ai hfr2 hvb5)
    clear hframe hfS hSr hIr hSor hs5r hbs hlp hpi hxF' hb8 hf hrep hstep hkey hEj hEvj hvls hknl hknw hsv hx hs hknq hfr hbgc hbgv hfr2 hvb5 zg1 zg3 zg4 zg8
    go_upto_region 13 with fail
    refine z0k ?_;intro W1 hW1
    have hB1:Below wr.heap.size wr W1:=by rw[hW1];exact bel
    have hz1:wr.heap.size<W1.heap.size:=by rw[hW1];simp
    have b0':W1.cell? ⟨wr.heap.size,0,none⟩=some (.string f.name):=by rw[hW1];go_simp
    have b1':W1.cell? ⟨wr.heap.size,1,none⟩=some (.int .i64 f.kind):=by rw[hW1];go_simp
    have b2':W1.cell? ⟨wr.heap.size,2,none⟩=some (.int .i64 f.type):=by rw[hW1];go_simp
    have b3':W1.cell? ⟨wr.heap.size,3,none⟩=some (.int .i64 f.source.op):=by rw[hW1];go_simp
    have b4':W1.cell? ⟨wr.heap.size,4,none⟩=some (.int .i64 f.source.v.k):=by rw[hW1];go_simp
    have b5':W1.cell? ⟨wr.heap.size,5,none⟩=some (.int .i64 f.source.v.n):=by rw[hW1];go_simp
    have b6':W1.cell? ⟨wr.heap.size,6,none⟩=some (.string f.source.v.s):=by rw[hW1];go_simp
    have b7':W1.cell? ⟨wr.heap.size,7,none⟩=some (.string f.source.name):=by rw[hW1];go_simp
    have b8':W1.cell? ⟨wr.heap.size,8,none⟩=some (.slice X f.source.args.length C):=by rw[hW1];go_simp
    have t0:=z00 hos.out.1.1 hB1
    have t7:=z00 zg7 hB1
    have hg1:g<W1.heap.size:=by omega
    have hwB:Below w.heap.size w wr:=hbw.out
    have hgrw:w.heap.size<=wr.heap.size:=hwB.size
    clear hW1 x0 x1 x2 x3 x4 x5 x6 x7 x8 y0 zg0 zg7 zg9 zg2 zg5 zg6
    go_upto_if 59 with (go_at_call 76;refine (hnm _ ((HF.out.2.2.2.2.2.2.2.1.keepN z02 (fun b hb=>⟨HF.out.2.2.2.2.2.2.2.2.2.1 b hb,rfl⟩):Sl wr (old wr) 9 (RFld wr (old wr)) (some ⟨fb,fo,none⟩) k F).nowN z02 hB1) (HF.out.2.2.2.2.2.2.2.2.2.2.now hB1)).mono ?_;rintro e w3 ⟨v9,rfl,ho9,hb9⟩;rw[HF.out.2.2.2.2.1] at ho9;obtain⟨A9,c9,rfl,hc9,hs9⟩:=ownFct ho9 HF.out.2.2.2.2.1 HF.out.2.2.2.2.2.2.1;have b1'':=z00 b1' hb9;have hl3:wr.heap.size<w3.heap.size:=Nat.lt_of_lt_of_le hz1 hb9.size)
    have hB3:Below wr.heap.size wr w3:=z01 hB1 hb9 hB1.size
    have hOS3:=hos.out.below hB3
    replace b0':=z00 b0' hb9
    replace b1':=z00 b1' hb9
    replace b2':=z00 b2' hb9
    replace b3':=z00 b3' hb9
    replace b4':=z00 b4' hb9
    replace b5':=z00 b5' hb9
    replace b6':=z00 b6' hb9
    replace b7':=z00 b7' hb9
    replace b8':=z00 b8' hb9
    have hLR3:=zh (z04 hlr.out hB3)
    have hFR3:∀ b,b<wq.heap.size->b≠g->b≠gc->b≠gv->w3.heap[b]?=wq.heap[b]?:=fun b hb h1 h2 h3=>(hB3.block b (by omega)).trans (HFR.out.1 b hb h1 h2 h3)
    have hW3w:Below w.heap.size w w3:=z01 hwB hB3 hgrw
    have hz3w:=hB3.size
    have H3:=zh (ai hOS3 (ai hs9 (ai hFR3 (ai hW3w hB3))))
    have r5:=hOS3.1.2.2.2.2.2.1
    have r7:=hOS3.1.2.2.2.2.2.2.2.1
    clear t0 t7 b1'' hb9 ho9 hc9 hs9 hOS3 hFR3 hW3w hB1 hB3 hnm hz1 hg1
    by_cases hk3:f.kind=3
    ·have g59:(f.kind != 3)=false:=by simpa using hk3
     have g59':(f.kind==3)=true:=by simpa using hk3
     obtain⟨key,hkq⟩:∃ key,key=keyE kn f:=⟨_,rfl⟩
     obtain⟨cq,hc,hcc⟩:=HF.out.2.2.2.1.call hxF
     obtain⟨r,hr⟩:∃ r,r=z1p cq p (s.last+1) key now:=⟨_,rfl⟩
     have hrt:turnE p now s x key=r:=by unfold turnE;rw[hc,Option.getD_some,<-hr]
     have hvk:=HF.out.2.2.1 hk3
     rw[<-hkq] at hvk
     have hE1:E (j+1)=⟨s.calls.set x r.1,s.vals.set x (valE key r.1),tLast r s.last,tLs r f.name s.ltrs⟩:=by
      rw[HF.out.2.1,eStep,if_pos hk3]
      unfold lookE
      rw[<-hkq,hrt]
      rfl
     have hlo:=HF.out.2.2.2.1.lo
     have hhi:=HF.out.2.2.2.1.hi
     have hokk:=HE.out.2.2.2.2.2.2.2.2.2.1
     have hlast:=hokk.2.2.1
     rw[HE.out.2.2.2.2.2.1] at hlast
     have ht:=zfn (id:=s.last+1) hcc (by omega) hokk.2.1 hvk
     rw[<-hr] at ht
     have hwl:IntKind.i64.wrap (s.last+1)=s.last+1:=IntWalk.i64_in _ (by omega)
     have hcw:=zar hcc
     have hkw:=z48 hvk
     have htu:=fun w=>zcf cq.state cq.id cq.tries cq.key.k cq.key.n cq.key.s cq.has.k cq.has.n cq.has.s cq.next p.tries p.base p.cap (s.last+1) key.k key.n key.s now w (z0s hcw.2.2.2.1.2.2) (z0s hcw.2.2.2.2.1.2.2) (z0s hkw.2.2)
     simp only at htu
     rw[show z1p ⟨cq.state,cq.id,cq.tries,⟨cq.key.k,cq.key.n,cq.key.s⟩,⟨cq.has.k,cq.has.n,cq.has.s⟩,cq.next⟩ ⟨p.tries,p.base,p.cap⟩ (s.last+1) ⟨key.k,key.n,key.s⟩ now=r from hr.symm] at htu
     have h4:=fun w h h'=>za3 kn A9 k c9 f.source X C w (by unfold inL;omega) h h'
     obtain⟨er,her⟩:∃ er,er=(evalRes kn f.source).2:=⟨_,rfl⟩
     have hke:evalRes kn f.source=(key,er):=by rw[hkq,her];rfl
     rw[hke] at h4
     obtain⟨_,_,_,hxr⟩:=HF.out.2.2.2.2.2.1.parts
     have HXR:=zh (hxr.keep (fun b hb=>⟨HF.out.2.2.2.2.2.2.2.2.2.1 b hb,rfl⟩):XRep wr (old wr) _ f.source)
     have HX1:=zh (ai hE1 (ai hc ht))
     obtain⟨y0,y1,y2,y3,y4,y5,y6,y7,y8,y9⟩:=z5q H3.out.1.2.2.1 hc hxF
     obtain⟨zg0,zg1,zg2,zg3,zg4,zg5,zg6,zg7,zg8,zg9⟩:=H3.out.1.1
     clear hk3 hkq hc hcc hr hrt hvk hE1 hlo hhi hokk hlast ht hcw hkw her hke hxr zg0 zg1 zg5 zg7 r5 r7
     go_upto_region 17 with (go_at_call 78;refine (h4 _ (HXR.out.keep (z05 H3.out.2.2.2.2)) H3.out.2.1).mono ?_;rintro e w4 ⟨rfl,hb4⟩;refine zb hb4 ?_;rintro ⟨hc4,hf4⟩ hz4 hy4 hx4;refine szz w4 w3 ?_;intros)
     refine z0k ?_;intro W4 hW4
     obtain⟨kb,hkb⟩:∃ kb,kb=w4.heap.size:=⟨_,rfl⟩
     have hB4:Below w3.heap.size w3 W4:=by rw[hW4];exact bel
     have hz4:w4.heap.size<W4.heap.size:=by rw[hW4];simp
     have hz4':=hb4.size
     have k0:W4.cell? ⟨w4.heap.size,0,none⟩=some (.int .i64 key.k):=by rw[hW4];go_simp
     have k1:W4.cell? ⟨w4.heap.size,1,none⟩=some (.int .i64 key.n):=by rw[hW4];go_simp
     have k2:W4.cell? ⟨w4.heap.size,2,none⟩=some (.string key.s):=by rw[hW4];go_simp
     rw[<-hkb] at k0 k1 k2
     rw[<-hkb]
     have hkbw:w3.heap.size<=kb:=by omega
     have hkbl:kb<W4.heap.size:=by omega
     clear hW4 hkb hb4 hc4 hf4 hz4 hz4' h4
     have HSS:=zh (show ∀ y:World,Below W4.heap.size W4 y->(y.cell? ⟨g,6,none⟩=some (.slice (some ⟨gc,0,none⟩) k cc)/\(y.cell? ⟨g,2,none⟩=some (.int .i64 p.tries)/\(y.cell? ⟨g,3,none⟩=some (.int .i64 p.base)/\(y.cell? ⟨g,4,none⟩=some (.int .i64 p.cap)/\(y.cell? ⟨g,9,none⟩=some (.int .i64 s.last)/\(y.cell? ⟨g,8,none⟩=some (.int .i64 now)/\(CLr y gc (x*10) cq/\(y.cell? ⟨kb,0,none⟩=some (.int .i64 key.k)/\(y.cell? ⟨kb,1,none⟩=some (.int .i64 key.n)/\y.cell? ⟨kb,2,none⟩=some (.string key.s)))))))))) from fun y h=>have h':=z01 hB4 h hB4.size;⟨z00 zg6 h',z00 zg2 h',z00 zg3 h',z00 zg4 h',z00 zg9 h',z00 zg8 h',⟨z00 y0 h',z00 y1 h',z00 y2 h',z00 y3 h',z00 y4 h',z00 y5 h',z00 y6 h',z00 y7 h',z00 y8 h',z00 y9 h'⟩,z00 k0 h,z00 k1 h,z00 k2 h⟩)
     clear zg2 zg3 zg4 zg6 zg8 zg9 y0 y1 y2 y3 y4 y5 y6 y7 y8 y9
     go_cut [15,16] (fun s15 s16 wx=>∃ cb:Nat,s15=.pointer (some ⟨cb,0,none⟩)/\s16=.bool r.2.1/\W4.heap.size<=cb/\CL wx cb r.1/\Below W4.heap.size W4 wx)
     case first =>
      refine z0k ?_;intro u0' hu0'
      obtain⟨y0,hy0⟩:∃ y,y=u0'.drew:=⟨_,rfl⟩
      have hY0:Below W4.heap.size W4 y0:=by rw[hy0,hu0'];exact (Below.refl _ _).drew
      have hS0:=HSS.out y0 hY0
      refine z0r (fun w'=>w'.cell? ⟨g,6,none⟩=some (.slice (some ⟨gc,0,none⟩) k cc)/\(w'.cell? ⟨g,2,none⟩=some (.int .i64 p.tries)/\(w'.cell? ⟨g,3,none⟩=some (.int .i64 p.base)/\(w'.cell? ⟨g,4,none⟩=some (.int .i64 p.cap)/\(w'.cell? ⟨g,9,none⟩=some (.int .i64 s.last)/\(w'.cell? ⟨g,8,none⟩=some (.int .i64 now)/\(CLr w' gc (x*10) cq/\(w'.cell? ⟨kb,0,none⟩=some (.int .i64 key.k)/\(w'.cell? ⟨kb,1,none⟩=some (.int .i64 key.n)/\w'.cell? ⟨kb,2,none⟩=some (.string key.s)))))))))) 21 (by kernel_rfl) ?_
      rw[<-hy0]
      clear hu0' hy0 k0 k1 k2 b0' b1' b2' b3' b4' b5' b6' b7' b8'
      refine zt 0 hS0 ?_
      simp only[Act.put,pq]
      refine zt 1 hS0 ?_
      simp only[Act.put,pq]
      refine zt 2 hS0 ?_
      simp only[Act.put,pq]
      refine zt 3 hS0 ?_
      simp only[Act.put,pq]
      refine zt 4 hS0 ?_
      simp only[Act.put,pq]
      refine zt 5 hS0 ?_
      simp only[Act.put,pq]
      refine zt 6 hS0 ?_
      simp only[Act.put,pq]
      refine zt 7 hS0 ?_
      simp only[Act.put,pq]
      refine zt 8 hS0 ?_
      simp only[Act.put,pq]
      refine zt 9 hS0 ?_
      simp only[Act.put,pq]
      refine zt 10 hS0 ?_
      simp only[Act.put,pq]
      refine zt 11 hS0 ?_
      simp only[Act.put,pq]
      refine zt 12 hS0 ?_
      simp only[Act.put,pq]
      refine z2s (i:=13) (j:=18) (o:=_) (p:=_) rfl rfl (by kernel_rfl) (fun K hK=>?_) (fun K hK=>?_)
      ·go_simp
       go_at_call 79;refine (htu _).mono ?_;rintro e y1 ⟨rfl,hb1⟩
       have hY1:=z01 hY0 hb1 hY0.size
       have hS1:=HSS.out y1 hY1
       refine hK.out _ _ (fun _=>hS1) ?_
       clear hK K
       try simp only[Act.put,pq]
       refine zt 14 hS1 ?_
       simp only[Act.put,pq]
       refine zt 15 hS1 ?_
       simp only[Act.put,pq]
       refine zt 16 hS1 ?_
       simp only[Act.put,pq]
       refine zt 17 hS1 ?_
       simp only[Act.put,pq]
       refine z06 (i:=18) (o:=_) rfl (by kernel_rfl) (fun K hK=>?_)
       go_simp
       obtain⟨y2,hy2⟩:∃ y,y=y1.alloc (.cells #[.int .i64 0,.int .i64 0,.int .i64 0,.int .i64 0,.int .i64 0,.string ⟨#[]⟩,.int .i64 0,.int .i64 0,.string ⟨#[]⟩,.int .i64 0] 62):=⟨_,rfl⟩
       rw[<-hy2]
       have hb2:Below y1.heap.size y1 y2:=by rw[hy2];exact (Below.refl _ _).alloc (nr _) _
       have hY2:=z01 hY1 hb2 hY1.size
       have hS2:=HSS.out y2 hY2
       have hG2:CBOX y2 y1.heap.size:=by rw[hy2];and_intros<;>go_simp
       clear hy2
       refine hK.out _ _ (fun _=>hS2) ?_
       clear hK K
       try simp only[Act.put,pq]
       have hgl':y1.heap.size<y2.heap.size:=hG2.lt
       obtain⟨l0,l1,l2,l3,l4,l5,l6,l7,l8,l9,n0',n1',n2',n3',n4',n5',n6',n7',n8',n9'⟩:=hG2
       refine z06 (i:=19) (o:=_) rfl (by kernel_rfl) (fun K hK=>?_)
       go_simp
       refine hK.out _ _ (fun _=>HSS.out _ (bel10 hY2 (show W4.heap.size<=y1.heap.size from hY1.size))) ?_
       clear hK K
       try simp only[Act.put,pq]
       refine z06 (i:=20) (o:=_) rfl (by kernel_rfl) (fun K hK=>?_)
       go_simp
       refine hK.out _ _ (fun _=>HSS.out _ (bel10 hY2 (show W4.heap.size<=y1.heap.size from hY1.size))) ?_
       clear hK K
       try simp only[Act.put,pq]
       refine z06 (i:=21) (o:=_) rfl (by kernel_rfl) (fun K hK=>?_)
       go_simp
       refine hK.out _ _ (fun h=>absurd h (by decide)) ?_
       clear hK K
       refine z0f (by kernel_rfl) ?_ _
       try simp only[Act.put,pq]
       go_wp2_with fail
       go_meet
       refine⟨y1.heap.size,rfl,rfl,(show W4.heap.size<=y1.heap.size from hY1.size),(by and_intros<;>go_simp),bel10 hY2 (show W4.heap.size<=y1.heap.size from hY1.size)⟩
      go_simp
      obtain⟨y1,hy1⟩:∃ y,y=y0.alloc (.cells #[.int .i64 0,.int .i64 0,.int .i64 0,.int .i64 0,.int .i64 0,.string ⟨#[]⟩,.int .i64 0,.int .i64 0,.string ⟨#[]⟩,.int .i64 0] 62):=⟨_,rfl⟩
      rw[<-hy1]
      have hb1:Below y0.heap.size y0 y1:=by rw[hy1];exact (Below.refl _ _).alloc (nr _) _
      have hY1:=z01 hY0 hb1 hY0.size
      have hS1:=HSS.out y1 hY1
      have hG1:CBOX y1 y0.heap.size:=by rw[hy1];and_intros<;>go_simp
      clear hy1
      refine hK.out _ _ (fun _=>hS1) ?_
      clear hK K
      try simp only[Act.put,pq]
      refine z06 (i:=13) (o:=_) rfl (by kernel_rfl) (fun K hK=>?_)
      go_simp
      go_at_call 79;refine (htu _).mono ?_;rintro e y2 ⟨rfl,hb2⟩
      have hY2:=z01 hY1 hb2 hY1.size
      have hS2:=HSS.out y2 hY2
      have hG2:=hG1.keep hb2
      refine hK.out _ _ (fun _=>hS2) ?_
      clear hK K
      try simp only[Act.put,pq]
      refine zt 14 hS2 ?_
      simp only[Act.put,pq]
      refine zt 15 hS2 ?_
      simp only[Act.put,pq]
      refine zt 16 hS2 ?_
      simp only[Act.put,pq]
      refine zt 17 hS2 ?_
      simp only[Act.put,pq]
      have hgl':y0.heap.size<y2.heap.size:=hG2.lt
      obtain⟨l0,l1,l2,l3,l4,l5,l6,l7,l8,l9,n0',n1',n2',n3',n4',n5',n6',n7',n8',n9'⟩:=hG2
      refine z06 (i:=19) (o:=_) rfl (by kernel_rfl) (fun K hK=>?_)
      go_simp
      refine hK.out _ _ (fun _=>HSS.out _ (bel10 hY2 (show W4.heap.size<=y0.heap.size from hY0.size))) ?_
      clear hK K
      try simp only[Act.put,pq]
      refine z06 (i:=20) (o:=_) rfl (by kernel_rfl) (fun K hK=>?_)
      go_simp
      refine hK.out _ _ (fun _=>HSS.out _ (bel10 hY2 (show W4.heap.size<=y0.heap.size from hY0.size))) ?_
      clear hK K
      try simp only[Act.put,pq]
      refine z06 (i:=21) (o:=_) rfl (by kernel_rfl) (fun K hK=>?_)
      go_simp
      refine hK.out _ _ (fun h=>absurd h (by decide)) ?_
      clear hK K
      refine z0f (by kernel_rfl) ?_ _
      try simp only[Act.put,pq]
      go_wp2_with fail
      go_meet
      refine⟨y0.heap.size,rfl,rfl,(show W4.heap.size<=y0.heap.size from hY0.size),(by and_intros<;>go_simp),bel10 hY2 (show W4.heap.size<=y0.heap.size from hY0.size)⟩
     case rest =>
      obtain⟨cb,rfl,rfl,hcbW,hL,hbc⟩:=hcut
      obtain⟨p0,p1,p2,p3,p4,p5,p6,p7,p8,p9⟩:=hL
      have hzc:=hbc.size
      have hB4c:Below w3.heap.size w3 wc:=z01 hB4 hbc hB4.size
      have hcbl:cb<wc.heap.size:=block_lt_of_cell p0
      replace k0:=z00 k0 hbc
      replace k1:=z00 k1 hbc
      replace k2:=z00 k2 hbc
      have hz34:=hB4.size
      have hOSc:=H3.out.1.below hB4c
      have hLRc:=z04 hLR3.out hB4c
      have hFRc:∀ b,b<wq.heap.size->b≠g->b≠gc->b≠gv->wc.heap[b]?=wq.heap[b]?:=fun b hb h1 h2 h3=>(hB4c.block b (by omega)).trans (H3.out.2.2.1 b hb h1 h2 h3)
      have hWc:Below w.heap.size w wc:=z01 H3.out.2.2.2.1 hB4c H3.out.2.2.2.1.size
      have hcbc:cb≠gc:=by omega
      have hcbv:cb≠gv:=by omega
      have hkbc:kb≠gc:=by omega
      have hkbv:kb≠gv:=by omega
      have hv5:∀ q,u5.ownBlock=some q->q<wr.heap.size:=fun q hq=>(hlr.out.lt q hq).2
      cases ha:r.2.1
      ·have hA:=t_no ha s.last 0 f.name s.ltrs
       have HOV:=zh (show OutS wc g (.slice (some ⟨fb,fo,none⟩) k d9) (.slice A6 P.length c6) p (.slice A7 ins.length c7) k (some ⟨gc,0,none⟩) cc (some ⟨gv,0,none⟩) cv now N0 s.calls s.vals (tLast r s.last) by rw[hA.1];exact hOSc)
       have HLV:=zh (show wc.ownsRow wq.heap.size 48 8 u5 (tLs r f.name s.ltrs).length ((tLs r f.name s.ltrs).flatMap Ltr.cs) by rw[hA.2.2];exact hLRc)
       have HWV:=zh (ai hWc (ai hFRc (show wq.heap.size<=wc.heap.size by omega)))
       have HVB:=zh (show ∀ q,u5.ownBlock=some q->q≠gc/\q≠gv from fun q hq=>by have:=HFR.out.2 q hq;exact⟨by omega,by omega⟩)
       have hgV:g<wc.heap.size:=by omega
       have hgcV:gc<wc.heap.size:=by omega
       have hgvV:gv<wc.heap.size:=by omega
       have hkbV:kb<wc.heap.size:=by omega
       clear hA ha hOSc hLRc hFRc hWc
       obtain⟨zg0,zg1,zg2,zg3,zg4,zg5,zg6,zg7,zg8,zg9⟩:=HOV.out.1
       have hroc:=HOV.out.2.2.1
       obtain⟨e0,e1,e2,e3,e4,e5,e6,e7,e8,e9⟩:=z5q hroc HX1.out.2.1 hxF
       have f0:=hroc.frozenAt (x*10)
       have f1:=hroc.frozenAt (x*10+1)
       have f2:=hroc.frozenAt (x*10+2)
       have f3:=hroc.frozenAt (x*10+3)
       have f4:=hroc.frozenAt (x*10+4)
       have f5:=hroc.frozenAt (x*10+5)
       have f6:=hroc.frozenAt (x*10+6)
       have f7:=hroc.frozenAt (x*10+7)
       have f8:=hroc.frozenAt (x*10+8)
       have f9:=hroc.frozenAt (x*10+9)
       have hrov:=HOV.out.2.2.2
       obtain⟨ov,hov⟩:∃ ov,s.vals[x]?=some ov:=⟨_,gq (by rw[HF.out.2.2.2.1.vl];exact hxF)⟩
       obtain⟨d0,d1,d2⟩:=z2z hrov hov hxF
       have m0:=hrov.frozenAt (x*3)
       have m1:=hrov.frozenAt (x*3+1)
       have m2:=hrov.frozenAt (x*3+2)
       have HRO:=zh (ai hroc hrov)
       clear zg0 zg1 zg2 zg3 zg4 zg5 zg8 zg9 hroc hrov
       go_upto_if 120 with fail
       refine z0k ?_;intro V2 hV2
       obtain⟨V1,hV2',hV1⟩:∃ V1,V2=(((V1.setCell ⟨gv,x*3,none⟩ (.int .i64 key.k)).setCell ⟨gv,x*3+1,none⟩ (.int .i64 key.n)).setCell ⟨gv,x*3+2,none⟩ (.string key.s))/\V1=((((((((((wc.setCell ⟨gc,x*10,none⟩ (.int .i64 r.1.state)).setCell ⟨gc,x*10+1,none⟩ (.int .i64 r.1.id)).setCell ⟨gc,x*10+2,none⟩ (.int .i64 r.1.tries)).setCell ⟨gc,x*10+3,none⟩ (.int .i64 r.1.key.k)).setCell ⟨gc,x*10+4,none⟩ (.int .i64 r.1.key.n)).setCell ⟨gc,x*10+5,none⟩ (.string r.1.key.s)).setCell ⟨gc,x*10+6,none⟩ (.int .i64 r.1.has.k)).setCell ⟨gc,x*10+7,none⟩ (.int .i64 r.1.has.n)).setCell ⟨gc,x*10+8,none⟩ (.string r.1.has.s)).setCell ⟨gc,x*10+9,none⟩ (.int .i64 r.1.next)):=⟨_,hV2,rfl⟩
       clear hV2
       have hblk1:∀ bb:Nat,bb≠gc->V1.heap[bb]?=wc.heap[bb]?:=fun bb hne=>by
        rw[hV1]
        iterate 10 rw[Below.heap_setCell _ _ _ _ (by exact hne)]
       have hblk2:∀ bb:Nat,bb≠gv->V2.heap[bb]?=V1.heap[bb]?:=fun bb hne=>by
        rw[hV2']
        iterate 3 rw[Below.heap_setCell _ _ _ _ (by exact hne)]
       have hst1:=((((((((((HRO.out.1.stored (x*10) (.int .i64 r.1.state)).1.stored (x*10+1) (.int .i64 r.1.id)).1.stored (x*10+2) (.int .i64 r.1.tries)).1.stored (x*10+3) (.int .i64 r.1.key.k)).1.stored (x*10+4) (.int .i64 r.1.key.n)).1.stored (x*10+5) (.string r.1.key.s)).1.stored (x*10+6) (.int .i64 r.1.has.k)).1.stored (x*10+7) (.int .i64 r.1.has.n)).1.stored (x*10+8) (.string r.1.has.s)).1.stored (x*10+9) (.int .i64 r.1.next)).1
       rw[z99 _ x r.1 (by rw[HF.out.2.2.2.1.cl];exact hxF),<-hV1] at hst1
       have hrv1:=z09 HRO.out.2 (w':=V1) (fun q hq _=>hblk1 q (by have e:gv=q:=Option.some.inj hq;omega))
       have hst2:=(((hrv1.stored (x*3) (.int .i64 key.k)).1.stored (x*3+1) (.int .i64 key.n)).1.stored (x*3+2) (.string key.s)).1
       rw[z4y _ x key (by rw[HF.out.2.2.2.1.vl];exact hxF),<-hV2'] at hst2
       have hzV2:V2.heap.size=wc.heap.size:=by rw[hV2',hV1];simp
       have hBV2:Below w.heap.size w V2:=by
        rw[hV2',hV1]
        iterate 3 refine z03 ?_ hgvw
        iterate 10 refine z03 ?_ hgcw
        exact HWV.out.1
       have hbb:∀ bb:Nat,bb≠gc->bb≠gv->V2.heap[bb]?=wc.heap[bb]?:=fun bb h1 h2=>(hblk2 bb h2).trans (hblk1 bb h1)
       have hg2:=hbb g hgc hgv
       have hO2:OutS V2 g (.slice (some ⟨fb,fo,none⟩) k d9) (.slice A6 P.length c6) p (.slice A7 ins.length c7) k (some ⟨gc,0,none⟩) cc (some ⟨gv,0,none⟩) cv now N0 (s.calls.set x r.1) (s.vals.set x key) (tLast r s.last):=⟨eb10 hg2 HOV.out.1,(fob g 9 hg2).trans HOV.out.2.1,z09 hst1 (fun q hq _=>hblk2 q (by have e:gc=q:=Option.some.inj hq;omega)),hst2⟩
       have hL2:=z09 HLV.out (w':=V2) (fun q hq _=>hbb q (HVB.out q hq).1 (HVB.out q hq).2)
       have hcb2:=hbb cb hcbc hcbv
       have hkb2:=hbb kb hkbc hkbv
       replace p0:=(cob cb 0 hcb2).trans p0
       replace p1:=(cob cb 1 hcb2).trans p1
       replace p2:=(cob cb 2 hcb2).trans p2
       replace p3:=(cob cb 3 hcb2).trans p3
       replace p4:=(cob cb 4 hcb2).trans p4
       replace p5:=(cob cb 5 hcb2).trans p5
       replace p6:=(cob cb 6 hcb2).trans p6
       replace p7:=(cob cb 7 hcb2).trans p7
       replace p8:=(cob cb 8 hcb2).trans p8
       replace p9:=(cob cb 9 hcb2).trans p9
       replace k0:=(cob kb 0 hkb2).trans k0
       replace k1:=(cob kb 1 hkb2).trans k1
       replace k2:=(cob kb 2 hkb2).trans k2
       have hzl2:wq.heap.size<=V2.heap.size:=by have:=HWV.out.2.2;omega
       have hcbl2:cb<V2.heap.size:=by omega
       have hkbl2:kb<V2.heap.size:=by omega
       have hgl2:g<V2.heap.size:=by omega
       have HO2:=zh (ai hO2 (ai hL2 (ai hBV2 hbb)))
       have z7:=hO2.1.2.2.2.2.2.2.2.1
       clear hO2 hL2 hBV2 hbb hst1 hst2 hrv1 hblk1 hblk2 hzV2 hV2' hV1 hg2 hcb2 hkb2 zg6 zg7 e0 e1 e2 e3 e4 e5 e6 e7 e8 e9 f0 f1 f2 f3 f4 f5 f6 f7 f8 f9 d0 d1 d2 m0 m1 m2 hov
       by_cases h3k:3<key.k
       ·have g120:decide (key.k<4)=false:=decide_eq_false (by omega)
        have g4:¬ key.k<4:=by omega
        have HV9:=zh (show valE key r.1=key by unfold valE;rw[if_pos h3k])
        clear h3k
        go_wp2_with fail
        go_roundw
        case measure=>simp[intOf];omega
        case rel =>
         refine⟨j+1,by omega,by go_num,zh ?_,zh ?_,zh (fun b hb h1 h2 h3=>?_),zh ?_,by (try simp);omega⟩
         ·rw[HX1.out.1]
          rw[HV9.out]
          exact HO2.out.1
         ·rw[HX1.out.1]
          exact HO2.out.2.1
         ·have g2:b≠gc:=fun e=>h2 (by rw[e];rfl)
          have g3:b≠gv:=fun e=>h3 (by rw[e];rfl)
          exact (HO2.out.2.2.2 b g2 g3).trans (HWV.out.2.1 b hb h1 g2 g3)
         exact HO2.out.2.2.1
       have g120:decide (key.k<4)=true:=decide_eq_true (by omega)
       have g4:key.k<4:=by omega
       have HV9:=zh (show valE key r.1=z0v r.1 by unfold valE;rw[if_neg h3k])
       have hcv:=fun w=>z9z r.1.state r.1.id r.1.tries r.1.key.k r.1.key.n r.1.key.s r.1.has.k r.1.has.n r.1.has.s r.1.next w
       simp only[show (⟨r.1.state,r.1.id,r.1.tries,⟨r.1.key.k,r.1.key.n,r.1.key.s⟩,⟨r.1.has.k,r.1.has.n,r.1.has.s⟩,r.1.next⟩:Cll)=r.1 from rfl] at hcv
       clear h3k
       go_upto_region 24 with fail
       refine z0k ?_;intro V3' hV3'
       obtain⟨V3,hV3⟩:∃ y,y=V3'.drew:=⟨_,rfl⟩
       have hY3:Below V2.heap.size V2 V3:=by rw[hV3,hV3'];exact (Below.refl _ _).drew
       have HSS:=zh (show ∀ y:World,Below V2.heap.size V2 y->(y.cell? ⟨g,7,none⟩=some (.slice (some ⟨gv,0,none⟩) k cv)/\CL y cb r.1) from fun y h=>⟨z00 z7 h,z00 p0 h,z00 p1 h,z00 p2 h,z00 p3 h,z00 p4 h,z00 p5 h,z00 p6 h,z00 p7 h,z00 p8 h,z00 p9 h⟩)
       have hS3:=HSS.out V3 hY3
       refine z0r (fun w'=>w'.cell? ⟨g,7,none⟩=some (.slice (some ⟨gv,0,none⟩) k cv)/\CL w' cb r.1) 6 (by kernel_rfl) ?_
       rw[<-hV3]
       clear hV3 hV3' z7 p0 p1 p2 p3 p4 p5 p6 p7 p8 p9
       refine zt 0 hS3 ?_
       simp only[Act.put,pq]
       refine zt 1 hS3 ?_
       simp only[Act.put,pq]
       refine zt 2 hS3 ?_
       simp only[Act.put,pq]
       refine zt 3 hS3 ?_
       simp only[Act.put,pq]
       refine z06 (i:=4) (o:=_) rfl (by kernel_rfl) (fun K hK=>?_)
       go_simp
       go_at_call 80;refine (hcv _).mono ?_;rintro e V4 ⟨rfl,hb7⟩
       have hY4:=z01 hY3 hb7 hY3.size
       have hS4:=HSS.out V4 hY4
       refine hK.out _ _ (fun _=>hS4) ?_
       clear hK K
       try simp only[Act.put,pq]
       refine zt 5 hS4 ?_
       simp only[Act.put,pq]
       refine z06 (i:=6) (o:=_) rfl (by kernel_rfl) (fun K hK=>?_)
       have hm4:=HO2.out.1.below hY4
       have hro:=hm4.2.2.2
       obtain⟨ov,hov⟩:∃ ov,(s.vals.set x key)[x]?=some ov:=⟨_,gq (by rw[List.length_set,HF.out.2.2.2.1.vl];exact hxF)⟩
       obtain⟨e0,e1,e2⟩:=z2z hro hov hxF
       have f0:=hro.frozenAt (x*3)
       have f1:=hro.frozenAt (x*3+1)
       have f2:=hro.frozenAt (x*3+2)
       have hgu:gv<V4.heap.size:=block_lt_of_cell e0
       go_simp
       refine hK.out _ _ (fun h=>absurd h (by decide)) ?_
       clear hK K
       refine z0f (by kernel_rfl) ?_ _
       try simp only[Act.put,pq]
       have hst:=(((hro.stored (x*3) (.int .i64 (z0v r.1).k)).1.stored (x*3+1) (.int .i64 (z0v r.1).n)).1.stored (x*3+2) (.string (z0v r.1).s)).1
       rw[z4y _ x (z0v r.1) (by rw[List.length_set,HF.out.2.2.2.1.vl];exact hxF),List.set_set] at hst
       have hblk:∀ bb:Nat,bb≠gv->((((V4.setCell ⟨gv,x*3,none⟩ (.int .i64 (z0v r.1).k)).setCell ⟨gv,x*3+1,none⟩ (.int .i64 (z0v r.1).n)).setCell ⟨gv,x*3+2,none⟩ (.string (z0v r.1).s))).heap[bb]?=V4.heap[bb]?:=fun bb hne=>by
        iterate 3 rw[Below.heap_setCell _ _ _ _ (by exact hne)]
       have hz4:=hY4.size
       go_wp2_with fail
       go_roundw
       case measure=>simp[intOf];omega
       case rel =>
        refine⟨j+1,by omega,by go_num,zh ?_,zh ?_,zh (fun b hb h1 h2 h3=>?_),zh ?_,by (try simp);omega⟩
        ·rw[HX1.out.1]
         rw[HV9.out]
         exact hm4.vset hblk hgv (fun q hq=>by have e:gc=q:=Option.some.inj hq;omega) hst
        ·rw[HX1.out.1]
         exact z09 (z04 HO2.out.2.1 hY4) (fun q hq _=>hblk q (HVB.out q hq).2)
        ·have g2:b≠gc:=fun e=>h2 (by rw[e];rfl)
         have g3:b≠gv:=fun e=>h3 (by rw[e];rfl)
         exact (hblk b g3).trans ((hY4.block b (by omega)).trans ((HO2.out.2.2.2 b g2 g3).trans (HWV.out.2.1 b hb h1 g2 g3)))
        exact z03 (z03 (z03 (z01 HO2.out.2.2.1 hY4 HO2.out.2.2.1.size) hgvw) hgvw) hgvw
      have hA:=t_yes ha s.last 0 f.name s.ltrs
      have hid:=(HX1.out.2.2.2.2.1 ha).2
      have hnk:¬ 3<key.k:=fun h3=>by have h1:=HX1.out.2.2.2.2.2.2 h3;have h2:=(HX1.out.2.2.2.2.1 ha).1;omega
      have z9:=hOSc.1.2.2.2.2.2.2.2.2.2
      have zf:=hOSc.2.1
      have hgV':g<wc.heap.size:=by omega
      replace b0':=z00 b0' hB4c
      have HAA:=zh (ai hA hid)
      clear hA ha hid
      go_upto_region 20 with fail
      refine z0k ?_;intro V0 hV0
      have hblk0:∀ bb:Nat,bb≠g->V0.heap[bb]?=wc.heap[bb]?:=fun bb hne=>by rw[hV0,Below.heap_setCell _ _ _ _ (by exact hne)]
      have hzV0:V0.heap.size=wc.heap.size:=by rw[hV0];simp
      have hz9:V0.cell? ⟨g,9,none⟩=some (.int .i64 r.1.id):=by rw[hV0];exact (by first | (go_simp;done) | (go_simp;exact World.cell?_setCell_same' _ _ _ (by go_simp)))
      have z6':=(hOSc.1.2.2.2.2.2.2.1)
      have hO0:OutS V0 g (.slice (some ⟨fb,fo,none⟩) k d9) (.slice A6 P.length c6) p (.slice A7 ins.length c7) k (some ⟨gc,0,none⟩) cc (some ⟨gv,0,none⟩) cv now N0 s.calls s.vals (s.last+1):=by
       obtain⟨zg0,zg1,zg2,zg3,zg4,zg5,zg6,zg7,zg8,zg9⟩:=hOSc.1
       rw[HAA.out.2] at hV0
       refine⟨by rw[hV0];clear hV0 hblk0 hzV0 hz9;exact(by and_intros<;>go_simp),by rw[hV0];clear hV0 hblk0 hzV0 hz9;go_simp,z09 hOSc.2.2.1 (fun q hq _=>hblk0 q (by have e:gc=q:=Option.some.inj hq;omega)),z09 hOSc.2.2.2 (fun q hq _=>hblk0 q (by have e:gv=q:=Option.some.inj hq;omega))⟩
      have hL0:=z09 hLRc (w':=V0) (fun q hq _=>hblk0 q (by have:=HFR.out.2 q hq;omega))
      have hB0':Below w.heap.size w V0:=by rw[hV0];exact z03 hWc (by simp;omega)
      have hcb0:=hblk0 cb (by omega)
      have hkb0:=hblk0 kb (by omega)
      have hfb0:=hblk0 wr.heap.size (by omega)
      replace b0':=(cob wr.heap.size 0 hfb0).trans b0'
      replace p0:=(cob cb 0 hcb0).trans p0
      replace p1:=(cob cb 1 hcb0).trans p1
      replace p2:=(cob cb 2 hcb0).trans p2
      replace p3:=(cob cb 3 hcb0).trans p3
      replace p4:=(cob cb 4 hcb0).trans p4
      replace p5:=(cob cb 5 hcb0).trans p5
      replace p6:=(cob cb 6 hcb0).trans p6
      replace p7:=(cob cb 7 hcb0).trans p7
      replace p8:=(cob cb 8 hcb0).trans p8
      replace p9:=(cob cb 9 hcb0).trans p9
      replace k0:=(cob kb 0 hkb0).trans k0
      replace k1:=(cob kb 1 hkb0).trans k1
      replace k2:=(cob kb 2 hkb0).trans k2
      have hF0:∀ b,b<wq.heap.size->b≠g->b≠gc->b≠gv->V0.heap[b]?=wq.heap[b]?:=fun b hb h1 h2 h3=>(hblk0 b h1).trans (hFRc b hb h1 h2 h3)
      have hll:s.ltrs.length<=14:=by have:=HF.out.2.2.2.1.ll;omega
      have hcbl0:cb<V0.heap.size:=by omega
      have hkbl0:kb<V0.heap.size:=by omega
      have hwrl0:wr.heap.size<V0.heap.size:=by omega
      have hwql0:wq.heap.size<=V0.heap.size:=by omega
      have HV0:=zh (ai hO0 (ai hB0' hF0))
      clear hV0 hblk0 hzV0 hz9 z6' z9 zf hO0 hB0' hF0 hcb0 hkb0 hfb0 hOSc hLRc hFRc hWc
      go_upto_region 21 with (at_builtin;refine z49 rfl _ _ 33 rfl wq.heap.size 48 i0 _ 8 88 Tryz.underlying33 ei ez0 ez1 ez2 rfl (by decide) _ s.ltrs.length _ rfl hL0 (Ltr.mk f.name r.1.id r.1.key noVal).cs 48 rfl _ rfl rfl rfl (by simp[Ltr.cs,Value.oneCell']) (by omega) (by unfold maxLen;omega) (by omega) ?_;intro v6 w6 hown6 hb6 hz6 hk6 hv6)
      have hne6:∀ q:Nat,q<V0.heap.size->(q<wq.heap.size\/wr.heap.size<=q)->w6.heap[q]?=V0.heap[q]?:=fun q hq h=>hk6 q hq (fun e=>by have h1:=HFR.out.2 q e.symm;have h2:=hv5 q e.symm;omega)
      have hO6:OutS w6 g (.slice (some ⟨fb,fo,none⟩) k d9) (.slice A6 P.length c6) p (.slice A7 ins.length c7) k (some ⟨gc,0,none⟩) cc (some ⟨gv,0,none⟩) cv now N0 s.calls s.vals (tLast r s.last):=by
       rw[HAA.out.1.1]
       exact HV0.out.1.keep (hne6 g (by omega) (.inl (by omega))) (fun q hq=>by have e:gc=q:=Option.some.inj hq;exact hne6 q (by omega) (.inl (by omega))) (fun q hq=>by have e:gv=q:=Option.some.inj hq;exact hne6 q (by omega) (.inl (by omega)))
      have HOV:=zh hO6
      have hl6:w6.ownsRow wq.heap.size 48 8 v6 (tLs r f.name s.ltrs).length ((tLs r f.name s.ltrs).flatMap Ltr.cs):=by
       rw[HAA.out.1.2.2,List.flatMap_append,List.length_append]
       simpa using hown6
      have HLV:=zh hl6
      have hcb6:=hne6 cb hcbl0 (.inr (by omega))
      have hkb6:=hne6 kb hkbl0 (.inr (by omega))
      replace p0:=(cob cb 0 hcb6).trans p0
      replace p1:=(cob cb 1 hcb6).trans p1
      replace p2:=(cob cb 2 hcb6).trans p2
      replace p3:=(cob cb 3 hcb6).trans p3
      replace p4:=(cob cb 4 hcb6).trans p4
      replace p5:=(cob cb 5 hcb6).trans p5
      replace p6:=(cob cb 6 hcb6).trans p6
      replace p7:=(cob cb 7 hcb6).trans p7
      replace p8:=(cob cb 8 hcb6).trans p8
      replace p9:=(cob cb 9 hcb6).trans p9
      replace k0:=(cob kb 0 hkb6).trans k0
      replace k1:=(cob kb 1 hkb6).trans k1
      replace k2:=(cob kb 2 hkb6).trans k2
      have HWV:=zh (show Below w.heap.size w w6/\(∀ b,b<wq.heap.size->b≠g->b≠gc->b≠gv->w6.heap[b]?=wq.heap[b]?)/\wq.heap.size<=w6.heap.size from ⟨z01 HV0.out.2.1 hb6 (by omega),fun b hb h1 h2 h3=>(hne6 b (by omega) (.inl hb)).trans (HV0.out.2.2 b hb h1 h2 h3),by omega⟩)
      have HVB:=zh (show ∀ q,v6.ownBlock=some q->q≠gc/\q≠gv from fun q hq=>by have:=(hl6.lt q hq).1;exact⟨by omega,by omega⟩)
      have hgV:g<w6.heap.size:=by omega
      have hgcV:gc<w6.heap.size:=by omega
      have hgvV:gv<w6.heap.size:=by omega
      have hkbV:kb<w6.heap.size:=by omega
      have hcbV:cb<w6.heap.size:=by omega
      have h3k:=hnk
      clear hO6 hl6 hcb6 hkb6 hown6 hb6 hk6 hv6 hne6 hL0 hnk b0'
      obtain⟨zg0,zg1,zg2,zg3,zg4,zg5,zg6,zg7,zg8,zg9⟩:=HOV.out.1
      have hroc:=HOV.out.2.2.1
      obtain⟨e0,e1,e2,e3,e4,e5,e6,e7,e8,e9⟩:=z5q hroc HX1.out.2.1 hxF
      have f0:=hroc.frozenAt (x*10)
      have f1:=hroc.frozenAt (x*10+1)
      have f2:=hroc.frozenAt (x*10+2)
      have f3:=hroc.frozenAt (x*10+3)
      have f4:=hroc.frozenAt (x*10+4)
      have f5:=hroc.frozenAt (x*10+5)
      have f6:=hroc.frozenAt (x*10+6)
      have f7:=hroc.frozenAt (x*10+7)
      have f8:=hroc.frozenAt (x*10+8)
      have f9:=hroc.frozenAt (x*10+9)
      have hrov:=HOV.out.2.2.2
      obtain⟨ov,hov⟩:∃ ov,s.vals[x]?=some ov:=⟨_,gq (by rw[HF.out.2.2.2.1.vl];exact hxF)⟩
      obtain⟨d0,d1,d2⟩:=z2z hrov hov hxF
      have m0:=hrov.frozenAt (x*3)
      have m1:=hrov.frozenAt (x*3+1)
      have m2:=hrov.frozenAt (x*3+2)
      have HRO:=zh (ai hroc hrov)
      clear zg0 zg1 zg2 zg3 zg4 zg5 zg8 zg9 hroc hrov
      go_upto_if 120 with fail
      refine z0k ?_;intro V2 hV2
      obtain⟨V1,hV2',hV1⟩:∃ V1,V2=(((V1.setCell ⟨gv,x*3,none⟩ (.int .i64 key.k)).setCell ⟨gv,x*3+1,none⟩ (.int .i64 key.n)).setCell ⟨gv,x*3+2,none⟩ (.string key.s))/\V1=((((((((((w6.setCell ⟨gc,x*10,none⟩ (.int .i64 r.1.state)).setCell ⟨gc,x*10+1,none⟩ (.int .i64 r.1.id)).setCell ⟨gc,x*10+2,none⟩ (.int .i64 r.1.tries)).setCell ⟨gc,x*10+3,none⟩ (.int .i64 r.1.key.k)).setCell ⟨gc,x*10+4,none⟩ (.int .i64 r.1.key.n)).setCell ⟨gc,x*10+5,none⟩ (.string r.1.key.s)).setCell ⟨gc,x*10+6,none⟩ (.int .i64 r.1.has.k)).setCell ⟨gc,x*10+7,none⟩ (.int .i64 r.1.has.n)).setCell ⟨gc,x*10+8,none⟩ (.string r.1.has.s)).setCell ⟨gc,x*10+9,none⟩ (.int .i64 r.1.next)):=⟨_,hV2,rfl⟩
      clear hV2
      have hblk1:∀ bb:Nat,bb≠gc->V1.heap[bb]?=w6.heap[bb]?:=fun bb hne=>by
       rw[hV1]
       iterate 10 rw[Below.heap_setCell _ _ _ _ (by exact hne)]
      have hblk2:∀ bb:Nat,bb≠gv->V2.heap[bb]?=V1.heap[bb]?:=fun bb hne=>by
       rw[hV2']
       iterate 3 rw[Below.heap_setCell _ _ _ _ (by exact hne)]
      have hst1:=((((((((((HRO.out.1.stored (x*10) (.int .i64 r.1.state)).1.stored (x*10+1) (.int .i64 r.1.id)).1.stored (x*10+2) (.int .i64 r.1.tries)).1.stored (x*10+3) (.int .i64 r.1.key.k)).1.stored (x*10+4) (.int .i64 r.1.key.n)).1.stored (x*10+5) (.string r.1.key.s)).1.stored (x*10+6) (.int .i64 r.1.has.k)).1.stored (x*10+7) (.int .i64 r.1.has.n)).1.stored (x*10+8) (.string r.1.has.s)).1.stored (x*10+9) (.int .i64 r.1.next)).1
      rw[z99 _ x r.1 (by rw[HF.out.2.2.2.1.cl];exact hxF),<-hV1] at hst1
      have hrv1:=z09 HRO.out.2 (w':=V1) (fun q hq _=>hblk1 q (by have e:gv=q:=Option.some.inj hq;omega))
      have hst2:=(((hrv1.stored (x*3) (.int .i64 key.k)).1.stored (x*3+1) (.int .i64 key.n)).1.stored (x*3+2) (.string key.s)).1
      rw[z4y _ x key (by rw[HF.out.2.2.2.1.vl];exact hxF),<-hV2'] at hst2
      have hzV2:V2.heap.size=w6.heap.size:=by rw[hV2',hV1];simp
      have hBV2:Below w.heap.size w V2:=by
       rw[hV2',hV1]
       iterate 3 refine z03 ?_ hgvw
       iterate 10 refine z03 ?_ hgcw
       exact HWV.out.1
      have hbb:∀ bb:Nat,bb≠gc->bb≠gv->V2.heap[bb]?=w6.heap[bb]?:=fun bb h1 h2=>(hblk2 bb h2).trans (hblk1 bb h1)
      have hg2:=hbb g hgc hgv
      have hO2:OutS V2 g (.slice (some ⟨fb,fo,none⟩) k d9) (.slice A6 P.length c6) p (.slice A7 ins.length c7) k (some ⟨gc,0,none⟩) cc (some ⟨gv,0,none⟩) cv now N0 (s.calls.set x r.1) (s.vals.set x key) (tLast r s.last):=⟨eb10 hg2 HOV.out.1,(fob g 9 hg2).trans HOV.out.2.1,z09 hst1 (fun q hq _=>hblk2 q (by have e:gc=q:=Option.some.inj hq;omega)),hst2⟩
      have hL2:=z09 HLV.out (w':=V2) (fun q hq _=>hbb q (HVB.out q hq).1 (HVB.out q hq).2)
      have hcb2:=hbb cb hcbc hcbv
      have hkb2:=hbb kb hkbc hkbv
      replace p0:=(cob cb 0 hcb2).trans p0
      replace p1:=(cob cb 1 hcb2).trans p1
      replace p2:=(cob cb 2 hcb2).trans p2
      replace p3:=(cob cb 3 hcb2).trans p3
      replace p4:=(cob cb 4 hcb2).trans p4
      replace p5:=(cob cb 5 hcb2).trans p5
      replace p6:=(cob cb 6 hcb2).trans p6
      replace p7:=(cob cb 7 hcb2).trans p7
      replace p8:=(cob cb 8 hcb2).trans p8
      replace p9:=(cob cb 9 hcb2).trans p9
      replace k0:=(cob kb 0 hkb2).trans k0
      replace k1:=(cob kb 1 hkb2).trans k1
      replace k2:=(cob kb 2 hkb2).trans k2
      have hzl2:wq.heap.size<=V2.heap.size:=by have:=HWV.out.2.2;omega
      have hcbl2:cb<V2.heap.size:=by omega
      have hkbl2:kb<V2.heap.size:=by omega
      have hgl2:g<V2.heap.size:=by omega
      have HO2:=zh (ai hO2 (ai hL2 (ai hBV2 hbb)))
      have z7:=hO2.1.2.2.2.2.2.2.2.1
      clear hO2 hL2 hBV2 hbb hst1 hst2 hrv1 hblk1 hblk2 hzV2 hV2' hV1 hg2 hcb2 hkb2 zg6 zg7 e0 e1 e2 e3 e4 e5 e6 e7 e8 e9 f0 f1 f2 f3 f4 f5 f6 f7 f8 f9 d0 d1 d2 m0 m1 m2 hov
      have g120:decide (key.k<4)=true:=decide_eq_true (by omega)
      have g4:key.k<4:=by omega
      have HV9:=zh (show valE key r.1=z0v r.1 by unfold valE;rw[if_neg h3k])
      have hcv:=fun w=>z9z r.1.state r.1.id r.1.tries r.1.key.k r.1.key.n r.1.key.s r.1.has.k r.1.has.n r.1.has.s r.1.next w
      simp only[show (⟨r.1.state,r.1.id,r.1.tries,⟨r.1.key.k,r.1.key.n,r.1.key.s⟩,⟨r.1.has.k,r.1.has.n,r.1.has.s⟩,r.1.next⟩:Cll)=r.1 from rfl] at hcv
      clear h3k
      go_upto_region 24 with fail
      refine z0k ?_;intro V3' hV3'
      obtain⟨V3,hV3⟩:∃ y,y=V3'.drew:=⟨_,rfl⟩
      have hY3:Below V2.heap.size V2 V3:=by rw[hV3,hV3'];exact (Below.refl _ _).drew
      have HSS:=zh (show ∀ y:World,Below V2.heap.size V2 y->(y.cell? ⟨g,7,none⟩=some (.slice (some ⟨gv,0,none⟩) k cv)/\CL y cb r.1) from fun y h=>⟨z00 z7 h,z00 p0 h,z00 p1 h,z00 p2 h,z00 p3 h,z00 p4 h,z00 p5 h,z00 p6 h,z00 p7 h,z00 p8 h,z00 p9 h⟩)
      have hS3:=HSS.out V3 hY3
      refine z0r (fun w'=>w'.cell? ⟨g,7,none⟩=some (.slice (some ⟨gv,0,none⟩) k cv)/\CL w' cb r.1) 6 (by kernel_rfl) ?_
      rw[<-hV3]
      clear hV3 hV3' z7 p0 p1 p2 p3 p4 p5 p6 p7 p8 p9
      refine zt 0 hS3 ?_
      simp only[Act.put,pq]
      refine zt 1 hS3 ?_
      simp only[Act.put,pq]
      refine zt 2 hS3 ?_
      simp only[Act.put,pq]
      refine zt 3 hS3 ?_
      simp only[Act.put,pq]
      refine z06 (i:=4) (o:=_) rfl (by kernel_rfl) (fun K hK=>?_)
      go_simp
      go_at_call 80;refine (hcv _).mono ?_;rintro e V4 ⟨rfl,hb7⟩
      have hY4:=z01 hY3 hb7 hY3.size
      have hS4:=HSS.out V4 hY4
      refine hK.out _ _ (fun _=>hS4) ?_
      clear hK K
      try simp only[Act.put,pq]
      refine zt 5 hS4 ?_
      simp only[Act.put,pq]
      refine z06 (i:=6) (o:=_) rfl (by kernel_rfl) (fun K hK=>?_)
      have hm4:=HO2.out.1.below hY4
      have hro:=hm4.2.2.2
      obtain⟨ov,hov⟩:∃ ov,(s.vals.set x key)[x]?=some ov:=⟨_,gq (by rw[List.length_set,HF.out.2.2.2.1.vl];exact hxF)⟩
      obtain⟨e0,e1,e2⟩:=z2z hro hov hxF
      have f0:=hro.frozenAt (x*3)
      have f1:=hro.frozenAt (x*3+1)
      have f2:=hro.frozenAt (x*3+2)
      have hgu:gv<V4.heap.size:=block_lt_of_cell e0
      go_simp
      refine hK.out _ _ (fun h=>absurd h (by decide)) ?_
      clear hK K
      refine z0f (by kernel_rfl) ?_ _
      try simp only[Act.put,pq]
      have hst:=(((hro.stored (x*3) (.int .i64 (z0v r.1).k)).1.stored (x*3+1) (.int .i64 (z0v r.1).n)).1.stored (x*3+2) (.string (z0v r.1).s)).1
      rw[z4y _ x (z0v r.1) (by rw[List.length_set,HF.out.2.2.2.1.vl];exact hxF),List.set_set] at hst
      have hblk:∀ bb:Nat,bb≠gv->((((V4.setCell ⟨gv,x*3,none⟩ (.int .i64 (z0v r.1).k)).setCell ⟨gv,x*3+1,none⟩ (.int .i64 (z0v r.1).n)).setCell ⟨gv,x*3+2,none⟩ (.string (z0v r.1).s))).heap[bb]?=V4.heap[bb]?:=fun bb hne=>by
       iterate 3 rw[Below.heap_setCell _ _ _ _ (by exact hne)]
      have hz4:=hY4.size
      go_wp2_with fail
      go_roundw
      case measure=>simp[intOf];omega
      case rel =>
       refine⟨j+1,by omega,by go_num,zh ?_,zh ?_,zh (fun b hb h1 h2 h3=>?_),zh ?_,by (try simp);omega⟩
       ·rw[HX1.out.1]
        rw[HV9.out]
        exact hm4.vset hblk hgv (fun q hq=>by have e:gc=q:=Option.some.inj hq;omega) hst
       ·rw[HX1.out.1]
        exact z09 (z04 HO2.out.2.1 hY4) (fun q hq _=>hblk q (HVB.out q hq).2)
       ·have g2:b≠gc:=fun e=>h2 (by rw[e];rfl)
        have g3:b≠gv:=fun e=>h3 (by rw[e];rfl)
        exact (hblk b g3).trans ((hY4.block b (by omega)).trans ((HO2.out.2.2.2 b g2 g3).trans (HWV.out.2.1 b hb h1 g2 g3)))
       exact z03 (z03 (z03 (z01 HO2.out.2.2.1 hY4 HO2.out.2.2.1.size) hgvw) hgvw) hgvw
    have g59:(f.kind != 3)=true:=by simpa using hk3
    obtain⟨vq,hvq⟩:∃ vq,vq=oneV f ins [] kn:=⟨_,rfl⟩
    have hE1:E (j+1)=⟨s.calls,s.vals.set x vq,s.last,s.ltrs⟩:=by rw[HF.out.2.1,hvq,eStep,if_neg hk3]
    have h4:=fun w h h1 h2 h3=>zee f X C A7 ins.length c7 ins none 0 0 [] A9 k c9 kn w (by unfold inL;rw[HE.out.2.2.2.2.2.2.2.2.2.2.2.2];exact hnn) (by unfold inL;omega) (by unfold inL;omega) h h1 h2 h3
    rw[<-hvq] at h4
    have HE1:=zh hE1
    clear hk3 hvq hE1
    go_upto_region 15 with fail
    refine z0k ?_;intro W4' hW4'
    obtain⟨W4,hW4⟩:∃ y,y=W4'.drew:=⟨_,rfl⟩
    have hB4:Below w3.heap.size w3 W4:=by rw[hW4,hW4'];exact (Below.refl _ _).drew
    have HSS:=zh (show ∀ y:World,Below w3.heap.size w3 y->(y.cell? ⟨g,7,none⟩=some (.slice (some ⟨gv,0,none⟩) k cv)/\(y.cell? ⟨g,5,none⟩=some (.slice A7 ins.length c7)/\(y.cell? ⟨wr.heap.size,0,none⟩=some (.string f.name)/\(y.cell? ⟨wr.heap.size,1,none⟩=some (.int .i64 f.kind)/\(y.cell? ⟨wr.heap.size,2,none⟩=some (.int .i64 f.type)/\(y.cell? ⟨wr.heap.size,3,none⟩=some (.int .i64 f.source.op)/\(y.cell? ⟨wr.heap.size,4,none⟩=some (.int .i64 f.source.v.k)/\(y.cell? ⟨wr.heap.size,5,none⟩=some (.int .i64 f.source.v.n)/\(y.cell? ⟨wr.heap.size,6,none⟩=some (.string f.source.v.s)/\(y.cell? ⟨wr.heap.size,7,none⟩=some (.string f.source.name)/\y.cell? ⟨wr.heap.size,8,none⟩=some (.slice X f.source.args.length C))))))))))) from fun y h=>⟨z00 r7 h,z00 r5 h,z00 b0' h,z00 b1' h,z00 b2' h,z00 b3' h,z00 b4' h,z00 b5' h,z00 b6' h,z00 b7' h,z00 b8' h⟩)
    have hS1:=HSS.out W4 hB4
    refine z0r (fun w'=>w'.cell? ⟨g,7,none⟩=some (.slice (some ⟨gv,0,none⟩) k cv)/\(w'.cell? ⟨g,5,none⟩=some (.slice A7 ins.length c7)/\(w'.cell? ⟨wr.heap.size,0,none⟩=some (.string f.name)/\(w'.cell? ⟨wr.heap.size,1,none⟩=some (.int .i64 f.kind)/\(w'.cell? ⟨wr.heap.size,2,none⟩=some (.int .i64 f.type)/\(w'.cell? ⟨wr.heap.size,3,none⟩=some (.int .i64 f.source.op)/\(w'.cell? ⟨wr.heap.size,4,none⟩=some (.int .i64 f.source.v.k)/\(w'.cell? ⟨wr.heap.size,5,none⟩=some (.int .i64 f.source.v.n)/\(w'.cell? ⟨wr.heap.size,6,none⟩=some (.string f.source.v.s)/\(w'.cell? ⟨wr.heap.size,7,none⟩=some (.string f.source.name)/\w'.cell? ⟨wr.heap.size,8,none⟩=some (.slice X f.source.args.length C))))))))))) 9 (by kernel_rfl) ?_
    rw[<-hW4]
    clear hW4 hW4' b0' b1' b2' b3' b4' b5' b6' b7' b8' r5 r7
    refine zt 0 hS1 ?_
    simp only[Act.put,pq]
    refine zt 1 hS1 ?_
    simp only[Act.put,pq]
    refine zt 2 hS1 ?_
    simp only[Act.put,pq]
    refine zt 3 hS1 ?_
    simp only[Act.put,pq]
    refine zt 4 hS1 ?_
    simp only[Act.put,pq]
    refine zt 5 hS1 ?_
    simp only[Act.put,pq]
    refine zt 6 hS1 ?_
    simp only[Act.put,pq]
    refine z06 (i:=7) (o:=_) rfl (by kernel_rfl) (fun K hK=>?_)
    go_simp
    have hBr1:Below wr.heap.size wr W4:=z01 H3.out.2.2.2.2 hB4 H3.out.2.2.2.2.size
    go_at_call 77;refine (h4 _ ((HF.out.2.2.2.2.2.1.keep (fun b hb=>⟨HF.out.2.2.2.2.2.2.2.2.2.1 b hb,rfl⟩):RFld wr (old wr) _ f).keep (z05 hBr1)) ((HF.out.2.2.2.2.2.2.2.2.1.mono HF.out.2.2.2.2.2.2.2.2.2.1:Sl wr (old wr) 7 RFct A7 ins.length ins).now hBr1) Sl.nil (H3.out.2.1.now hB4)).mono ?_;rintro e u1 ⟨rfl,hb6⟩
    have hB6:=z01 hB4 hb6 hB4.size
    have hS2:=HSS.out u1 hB6
    refine hK.out _ _ (fun _=>hS2) ?_
    clear hK K
    try simp only[Act.put,pq]
    refine zt 8 hS2 ?_
    simp only[Act.put,pq]
    refine z06 (i:=9) (o:=_) rfl (by kernel_rfl) (fun K hK=>?_)
    have hm5:=H3.out.1.below hB6
    have hro:=hm5.2.2.2
    obtain⟨ov,hov⟩:∃ ov,s.vals[x]?=some ov:=⟨_,gq (by rw[HF.out.2.2.2.1.vl];exact hxF)⟩
    obtain⟨e0,e1,e2⟩:=z2z hro hov hxF
    have f0:=hro.frozenAt (x*3)
    have f1:=hro.frozenAt (x*3+1)
    have f2:=hro.frozenAt (x*3+2)
    have hgu:gv<u1.heap.size:=block_lt_of_cell e0
    go_simp
    refine hK.out _ _ (fun h=>absurd h (by decide)) ?_
    clear hK K
    refine z0f (by kernel_rfl) ?_ _
    try simp only[Act.put,pq]
    have hst:=(((hro.stored (x*3) (.int .i64 vq.k)).1.stored (x*3+1) (.int .i64 vq.n)).1.stored (x*3+2) (.string vq.s)).1
    rw[z4y _ x vq (by rw[HF.out.2.2.2.1.vl];exact hxF)] at hst
    have hblk:∀ bb:Nat,bb≠gv->(((u1.setCell ⟨gv,x*3,none⟩ (.int .i64 vq.k)).setCell ⟨gv,x*3+1,none⟩ (.int .i64 vq.n)).setCell ⟨gv,x*3+2,none⟩ (.string vq.s)).heap[bb]?=u1.heap[bb]?:=fun bb hne=>by
     iterate 3 rw[Below.heap_setCell _ _ _ _ (by exact hne)]
    have hz6:=hB6.size
    go_wp2_with fail
    go_roundw
    case measure=>simp[intOf];omega
    case rel =>
    refine⟨j+1,by omega,by go_num,zh ?_,zh ?_,zh (fun b hb h1 h2 h3=>(hblk b (fun e=>h3 (by rw[e];rfl))).trans ((hB6.block b (by omega)).trans (H3.out.2.2.1 b hb h1 (fun e=>h2 (by rw[e];rfl)) (fun e=>h3 (by rw[e];rfl))))),zh ?_,by simp;omega⟩
    ·rw[HE1.out]
     exact hm5.vset hblk hgv (fun q hq=>by have e:gc=q:=Option.some.inj hq;omega) hst
    ·rw[HE1.out]
     exact z09 (z04 hLR3.out hB6) (fun q hq _=>hblk q (fun e=>by have:=HFR.out.2 q hq;omega))
    exact z03 (z03 (z03 (z01 H3.out.2.2.2.1 hB6 H3.out.2.2.2.1.size) hgvw) hgvw) hgvw
   have hke:j=k:=by omega
   subst hke
   obtain⟨A4,c4,eL,hq4⟩:=z4p hlr.out
   subst eL
   obtain⟨zg0,zg1,zg2,zg3,zg4,zg5,zg6,zg7,zg8,zg9⟩:=hos.out.1
   have hrbq:wr.heap[w.heap.size+1]?=wq.heap[w.heap.size+1]?:=hfr.out (w.heap.size+1) (by omega) (by omega) (fun e=>by have:=HC.out.2.2.2.2.2.2.2.1 _ e.symm;omega) (fun e=>by have:=HC.out.2.2.2.2.2.2.2.2.1 _ e.symm;omega)
   replace q0:=(cob (w.heap.size+1) (0) hrbq).trans q0
   replace r0:=(fob (w.heap.size+1) (0) hrbq).trans r0
   replace q1:=(cob (w.heap.size+1) (1) hrbq).trans q1
   replace r1:=(fob (w.heap.size+1) (1) hrbq).trans r1
   replace q2:=(cob (w.heap.size+1) (2) hrbq).trans q2
   replace r2:=(fob (w.heap.size+1) (2) hrbq).trans r2
   replace q3:=(cob (w.heap.size+1) (3) hrbq).trans q3
   replace r3:=(fob (w.heap.size+1) (3) hrbq).trans r3
   replace q4:=(cob (w.heap.size+1) (4) hrbq).trans q4
   replace r4:=(fob (w.heap.size+1) (4) hrbq).trans r4
   replace q5:=(cob (w.heap.size+1) (5) hrbq).trans q5
   replace r5:=(fob (w.heap.size+1) (5) hrbq).trans r5
   replace q6:=(cob (w.heap.size+1) (6) hrbq).trans q6
   replace r6:=(fob (w.heap.size+1) (6) hrbq).trans r6
   replace q7:=(cob (w.heap.size+1) (7) hrbq).trans q7
   replace r7:=(fob (w.heap.size+1) (7) hrbq).trans r7
   replace q8:=(cob (w.heap.size+1) (8) hrbq).trans q8
   replace r8:=(fob (w.heap.size+1) (8) hrbq).trans r8
   replace q9:=(cob (w.heap.size+1) (9) hrbq).trans q9
   replace r9:=(fob (w.heap.size+1) (9) hrbq).trans r9
   have hgr:g<wr.heap.size:=by omega
   have hrl:w.heap.size+1<wr.heap.size:=by omega
   go_wp2_with fail
   refine bpr Tryz.results45 (.tuple #[.agg #[.slice Af j d9,.slice A6 P.length c6,.int .i64 p.tries,.int .i64 p.base,.int .i64 p.cap,.slice A7 ins.length c7,.slice Ac j cc,.slice Av j cv,.int .i64 now,.int .i64 (E j).last],.slice A4 (E j).ltrs.length c4]) ?_
   generalize hW9:World.setCell _ _ _=W9
   have hk:∀ b:Nat,b≠w.heap.size+1->W9.heap[b]?=wr.heap[b]?:=fun b hb=>by
    rw[<-hW9]
    iterate 10 rw[Below.heap_setCell _ _ _ _ (by exact hb)]
   have hz9:W9.heap.size=wr.heap.size:=by rw[<-hW9];simp
   have hb9:Below w.heap.size w W9:=by
    rw[<-hW9]
    iterate 10 refine z03 ?_ (by simp)
    exact hbw.out
   have hS9:∀ b,S b->since w.heap.size W9 b/\W9.heap[b]?=W0.heap[b]?:=fun b hb=>by
    have h:=HC.out.2.2.2.2.1 b hb
    exact⟨⟨by omega,by omega⟩,(hk b (by omega)).trans ((hfr.out b (by omega) h.2.1 h.2.2.1 h.2.2.2.1).trans (HFW.out.1 b h.1 h.2.2.2.1))⟩
   have hrow:∀ (e:TypeId) (sz:Nat) (v:Value) (nn:Nat) (xs:List Value),wr.ownsRow N0 e sz v nn xs->(∀ q,v.ownBlock=some q->w.heap.size+2<=q)->W9.ownsRow N0 e sz v nn xs:=fun e sz v nn xs h h'=>z09 h (fun q hq _=>hk q (by have:=h' q hq;omega))
   have gml:F.length=j:=HE.out.2.2.2.2.2.1
   have gEk:=HE.out.2.2.1 j (nr _)
   obtain⟨Ac',kc,ec,_,hsc⟩:=z7g Cll.cs Cll.wf lenCll (hrow _ _ _ _ _ hos.out.2.2.1 HC.out.2.2.2.2.2.2.2.1) gEk.cl (fun c hc=>zar (gEk.ok c hc))
   cases ec
   obtain⟨Av',kv,ev,_,hsv⟩:=z7g Val.cs Val.wf z7f (hrow _ _ _ _ _ hos.out.2.2.2 HC.out.2.2.2.2.2.2.2.2.1) gEk.vl (fun v hv=>z48 (HE.out.2.2.2.1 j (nr _) v hv))
   cases ev
   obtain⟨Al,kl,el,_,hsl⟩:=z7g Ltr.cs Ltr.wf (fun _=>rfl) (z09 hlr.out (w':=W9) (fun q hq _=>hk q (by have:=(hlr.out.lt q hq).1;omega))) rfl (fun l hl=>HR.out.2 l (by rw[gml];exact hl))
   cases el
   rw[HR.out.1,gml]
   obtain⟨g5,g6,g7,g8,g9⟩:=HC.out.2.2.2.2.2.2.2.2.2
   replace hsc:=hsc.mono (S':=since w.heap.size W9) (fun b hb=>⟨by have:=hb.1;omega,hb.2⟩)
   replace hsv:=hsv.mono (S':=since w.heap.size W9) (fun b hb=>⟨by have:=hb.1;omega,hb.2⟩)
   replace hsl:=hsl.mono (S':=since w.heap.size W9) (fun b hb=>⟨by have:=hb.1;omega,hb.2⟩)
   refine⟨⟨Af,d9,A6,c6,A7,c7,Ac,cc,Av,cv,A4,c4,?_,⟨?_,g6,g7,?_,?_,hq4⟩,?_,HC.out.2.2.1.keepN z0d hS9,(HC.out.2.2.2.1.keep (fun b hb=>(hS9 b hb).2) (fun _ _ h=>h)).mono (fun b hb=>(hS9 b hb).1),?_,?_,hsl⟩,hb9⟩<;>dsimp only
   ·rw[gEk.cl,gEk.vl,gml]
   ·rw[gml];exact g5
   ·rw[gEk.cl];exact g8
   ·rw[gEk.vl];exact g9
   ·rw[gml];exact HC.out.2.1.keepN z02 hS9
   ·rw[gEk.cl];exact hsc
   rw[gEk.vl];exact hsv
end Go.Proofs.YtldhlpjjcnlbcaaGreat
