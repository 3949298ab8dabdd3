/- Texts merged (mergeh.py): Eng4. -/
import Derived.Test.YtldhlpjjcnlbcaaGreatRowL
import Derived.Test.YtldhlpjjcnlbcaaGreatEng2
import Derived.Test.YtldhlpjjcnlbcaaGreatRowV
/- (*motor).settle. (printed by mkeng4.py) -/
set_option maxRecDepth 100000
set_option maxHeartbeats 8000000
namespace Go.Proofs.YtldhlpjjcnlbcaaGreat
open Go.RowKit
def MotS (w:World)(M fb fo m d:Nat)(pv:Value)(p:Pol)(iv:Value)(gc cc gv cv:Nat)(now:Int)(base:Nat)(lv:Value)(ls:List Ltr)(s:Est):Prop :=
 MotC w M (.slice (some ⟨fb,fo,none⟩) m d) pv p iv (.slice (some ⟨gc,0,none⟩) m cc) (.slice (some ⟨gv,0,none⟩) m cv) now s.last lv/\MotF w M /\
 w.ownsRow base 62 10 (.slice (some ⟨gc,0,none⟩) m cc) m (s.calls.flatMap Cll.cs)/\w.ownsRow base 44 3 (.slice (some ⟨gv,0,none⟩) m cv) m (s.vals.flatMap Val.cs) /\
 w.ownsRow base 48 8 lv (ls++s.ltrs).length ((ls++s.ltrs).flatMap Ltr.cs)
theorem MotS.keep {w w':World}{M fb fo m d:Nat}{pv:Value}{p:Pol}{iv:Value}{gc cc gv cv:Nat}{now:Int}{base:Nat}{lv:Value}{ls:List Ltr}{s:Est}(h:MotS w M fb fo m d pv p iv gc cc gv cv now base lv ls s)
  (hM:w'.heap[M]?=w.heap[M]?)(hg:w'.heap[gc]?=w.heap[gc]?)(hv:w'.heap[gv]?=w.heap[gv]?)(hl:∀ q,lv.ownBlock=some q->w'.heap[q]?=w.heap[q]?):MotS w' M fb fo m d pv p iv gc cc gv cv now base lv ls s :=
 ⟨h.1.block hM,h.2.1.block hM,z09 h.2.2.1 (fun q hq _=>by have e:gc=q:=Option.some.inj hq;rw[<-e];exact hg),z09 h.2.2.2.1 (fun q hq _=>by have e:gv=q:=Option.some.inj hq;rw[<-e];exact hv),z09 h.2.2.2.2 (fun q hq _=>hl q hq)⟩
theorem MotS.below {w w':World}{M fb fo m d:Nat}{pv:Value}{p:Pol}{iv:Value}{gc cc gv cv:Nat}{now:Int}{base:Nat}{lv:Value}{ls:List Ltr}{s:Est}(h:MotS w M fb fo m d pv p iv gc cc gv cv now base lv ls s)
  (hb:Below w.heap.size w w'):MotS w' M fb fo m d pv p iv gc cc gv cv now base lv ls s :=
 ⟨h.1.block (hb.block M h.1.lt),h.2.1.block (hb.block M h.1.lt),z04 h.2.2.1 hb,z04 h.2.2.2.1 hb,z04 h.2.2.2.2 hb⟩
theorem motor_settle (M m d:Nat)(F:List Fld)(fb fo:Nat)(S:Nat -> Prop)(pv:Value)(p:Pol)(A1:Option Addr)(n1 c1:Nat)(ins:List Fct)(gc cc gv cv:Nat)(cs:List Cll)(vs:List Val)(now last:Int)(lv:Value)(ls:List Ltr)(base:Nat)(w:World)
  (hm:MotS w M fb fo m d pv p (.slice A1 n1 c1) gc cc gv cv now base lv ls ⟨cs,vs,last,[]⟩)(hS:Sl w S 9 (RFld w S) (some ⟨fb,fo,none⟩) m F)(hI:Sl w S 7 RFct A1 n1 ins)(hn1:inL n1)
  (hSo:∀ b,S b->b<w.heap.size)(hSM:¬ S M)(hSg:¬ S gc)(hSv:¬ S gv)(hSl:∀ q,lv.ownBlock=some q->¬ S q)
  (hM:lv.ownBlock≠some M)(hg:lv.ownBlock≠some gc)(hv:lv.ownBlock≠some gv)(hMg:M≠gc)(hMv:M≠gv)(hgv:gc≠gv)(hbM:base<=w.heap.size)(hO:z2i F)(hok:SetOk F p ins now cs last)(hvl:vs.length=F.length)(hls:ls.length<=80)(hmd:m<=d) :
  Calls Tryz.prog 37 #[.pointer (some ⟨M,0,none⟩)] w fun e w'=>e=.returned (.tuple #[])/\∃ lv',MotS w' M fb fo m d pv p (.slice A1 n1 c1) gc cc gv cv now base lv' ls (setP F p ins now cs vs last F.length) /\
   (∀ b,b<w.heap.size->b≠M->b≠gc->b≠gv->some b≠lv.ownBlock->w'.heap[b]?=w.heap[b]?)/\(lv'.ownBlock=lv.ownBlock\/∃ k,lv'.ownBlock=some k/\w.heap.size<=k)/\(∀ B,B<=M->B<=base->Below B w w'):=by
 have hml:F.length=m:=hS.len
 have h14:m<=14:=by rw[<-hml];exact (z0h (z13 hok.1.1).1).1
 have hor:z3u F=(toI (ordF F),0):=by unfold z3u;rw[if_pos hok.1.1]
 have hol:(ordF F).length=m:=by unfold ordF;rw[z2v,hml]
 have hil:(toI (ordF F)).length=m:=by unfold toI;rw[List.length_map,hol]
 have h2:Calls Tryz.prog 70 #[.slice (some ⟨fb,fo,none⟩) m d] w (fun e w'=>∃ A c,e=.returned (.tuple #[.slice A m c,.int .i64 0])/\m<=c/\Sl w' (since w.heap.size w') 1 RInt A m (toI (ordF F))/\Below w.heap.size w w'):=by
  refine (z80 F (some ⟨fb,fo,none⟩) m d w (by unfold inB;omega) hmd (hS.keepN z02 (fun b hb=>⟨hSo b hb,rfl⟩)) hO.1 hO.2).mono ?_
  rintro e w' ⟨A,c,q1,q2,q3,q4⟩
  rw[hor] at q1 q2 q3
  dsimp only at q1 q2 q3
  rw[hil] at q1 q2 q3
  exact⟨A,c,q1,q2,q3,q4⟩
 obtain⟨E,hE⟩:∃ E,E=setP F p ins now cs vs last:=⟨_,rfl⟩
 have hE0:E 0=⟨cs,vs,last,[]⟩:=by rw[hE];rfl
 have hEs:∀ (j i:Nat) (f:Fld),(ordF F)[j]?=some i->(F)[i]?=some f->E (j+1)=eStep p ins now (z1y F (E j).vals (ordF F) j) (E j) i f:=fun j i f h1 h2=>by rw[hE];exact set_step h1 h2
 have hEk:∀ j,j<=m->EOk p last m j (E j):=fun j hj=>by rw[hE,<-hml];exact (z5m (vs:=vs) hok hvl (by omega)).2.1
 have hEw:∀ j,j<=m->∀ a∈z1y F (E j).vals (ordF F) j,a.wf:=fun j hj=>by rw[hE];exact set_known_wf hok hvl (fun f hf=>(hO.2 f hf).1) (by omega)
 have hEy:∀ (j i:Nat) (f:Fld),j<=m->(F)[i]?=some f->f.kind=3->valCheck (keyE (z1y F (E j).vals (ordF F) j) f)=0:=fun j i f hj hf hk=>by rw[hE];exact set_key hok hvl (by omega) hf hk
 have hEm:∀ (j i:Nat) (f:Fld) (v:Val),j<m->(ordF F)[j]?=some i->(F)[i]?=some f->(E (j+1)).vals=(E j).vals.set i v->z1y F (E (j+1)).vals (ordF F) (j+1)=z1y F (E j).vals (ordF F) j++[⟨f.name,noVal,v⟩]:=fun j i f v hj h1 h2 h3=>by rw[hE] at h3 ⊢;exact set_more hok hvl (by omega) h1 h2 h3
 have hkl:∀ j,j<=m->(z1y F (E j).vals (ordF F) j).length=j:=fun j hj=>zd3 (by rw[hol];exact hj)
 have HE:=zh (ai hE0 (ai (fun j hj=>(hEk j hj).vl) (ai hEs (ai hEk (ai hEw (ai hEy (ai hEm (ai hkl (ai hml (ai hE hok))))))))))
 obtain⟨i0,ei,ez0,ez1,ez2⟩:=info_parts Tryz.infoFct
 have hC:=hm.1
 obtain⟨z0,z1,z2,z3,z4,z5,z6,z7,z8,z9,z10⟩:=hC
 have hMl:M<w.heap.size:=hm.1.lt
 have hgl:gc<w.heap.size:=(hm.2.2.1.lt gc rfl).2
 have hvlt:gv<w.heap.size:=(hm.2.2.2.1.lt gv rfl).2
 have hbg:base<=gc:=(hm.2.2.1.lt gc rfl).1
 have hbv:base<=gv:=(hm.2.2.2.1.lt gv rfl).1
 have hlb:∀ q,lv.ownBlock=some q->q<w.heap.size:=fun q hq=>(hm.2.2.2.2.lt q hq).2
 have HM:=zh (ai hm (ai hS (ai hI (ai hSo (ai hSM (ai hSg (ai hSv (ai hSl (ai hM (ai hg (ai hv hlb)))))))))))
 have hnow:=hok.2.1
 have hlast:=hok.2.2.1
 rw[hml] at hlast
 have HNL:=zh (ai hnow hlast)
 clear hm hS hI hSo hSM hSg hSv hSl hM hg hv hE hE0 hEs hEk hEw hEy hEm hkl hml hok hor hol hil hnow hlast hvl hlb z1 z2 z3 z4 z5 z6 z7 z8 z9 z10
 go_enter Tryz.func37,Tryz.ntmps37
 go_wp2_with (go_at_call 70;refine h2.mono ?_;rintro e w2 ⟨A5,c5,rfl,hc5,hs5,hb2⟩;refine zb hb2 ?_;rintro ⟨hc2,hf2⟩ hz2 hy2 hx2;refine szz w2 w ?_;intros)
 have hB2:Below w.heap.size w w2:=bel
 have hlw:=hB2.size
 have HS5:=zh hs5
 have HB2:=zh hB2
 clear hs5 hb2 h2 z0 hc2 hf2
 go_loopw [4,22] (fun v i wr=>∃ (j:Nat) (lw:Value),j<=m/\i=.int .i64 j/\Hid (wr.ownsRow w2.heap.size 72 7 v j ((z1y F (E j).vals (ordF F) j).flatMap Fct.cs))/\Hid (MotS wr M fb fo m d pv p (.slice A1 n1 c1) gc cc gv cv now base lw ls (E j)) /\
  Hid (∀ b,b<w2.heap.size->b≠M->b≠gc->b≠gv->some b≠lv.ownBlock->wr.heap[b]?=w2.heap[b]?)/\Hid (lw.ownBlock=lv.ownBlock\/∃ k,lw.ownBlock=some k/\w2.heap.size<=k)/\Hid (∀ q,v.ownBlock=some q->lw.ownBlock≠some q)/\Hid (∀ B,B<=M->B<=base->Below B w2 wr)/\w2.heap.size<=wr.heap.size) (fun _ i _=>m-(intOf i).toNat)
 case atStart =>
  refine⟨0,lv,by omega,rfl,zh (by simpa [z1y] using World.ownsRow_nil _ _ _ _),zh ?_,zh (fun _ _ _ _ _ _=>rfl),zh (.inl rfl),zh (fun q hq=>absurd hq (by simp[Value.ownBlock])),zh (fun B _ _=>Below.refl _ _),nr _⟩
  rw[HE.out.1]
  exact HM.out.1.below hB2
 case round =>
  obtain⟨j,lw,hj,rfl,hkn,hms,hfr,hlo,hvn,hbw,hzr⟩:=hrel
  by_cases hlt:j<m
  ·have hfw:∀ b,b<w.heap.size->b≠M->b≠gc->b≠gv->some b≠lv.ownBlock->wr.heap[b]?=w.heap[b]?:=fun b hb h1 h2 h3 h4=>(hfr.out b (by omega) h1 h2 h3 h4).trans (HB2.out.block b hb)
   have hfS:∀ b,S b->wr.heap[b]?=w.heap[b]?:=fun b hb=>hfw b (HM.out.2.2.2.1 b hb) (fun e=>HM.out.2.2.2.2.1 (e▸hb)) (fun e=>HM.out.2.2.2.2.2.1 (e▸hb)) (fun e=>HM.out.2.2.2.2.2.2.1 (e▸hb)) (fun e=>HM.out.2.2.2.2.2.2.2.1 b e.symm hb)
   have hSr:Sl wr S 9 (RFld wr S) (some ⟨fb,fo,none⟩) m F:=HM.out.2.1.keepN z02 (fun b hb=>⟨hb,hfS b hb⟩)
   have hIr:Sl wr S 7 RFct A1 n1 ins:=HM.out.2.2.1.keep hfS (fun _ _ h=>h)
   have hSor:∀ b,S b->b<wr.heap.size:=fun b hb=>by have:=HM.out.2.2.2.1 b hb;omega
   have hs5r:Sl wr (since w.heap.size w2) 1 RInt A5 m (toI (ordF F)):=HS5.out.keep (fun b hb=>hfr.out b hb.2 (by have:=hb.1;omega) (by have:=hb.1;omega) (by have:=hb.1;omega) (fun e=>by have:=HM.out.2.2.2.2.2.2.2.2.2.2.2 b e.symm;have:=hb.1;omega)) (fun _ _ h=>h)
   obtain⟨b,o,pi,hAe,hbs,hlp,hpi,y0⟩:=z5c hs5r hlt
   subst hAe
   have hbl':b<wr.heap.size:=by have:=hbs.2;omega
   obtain⟨x,hx,rfl,hxF'⟩:=ord_at hlp
   have hxF:x<m:=by rw[<-HE.out.2.2.2.2.2.2.2.2.1];exact hxF'
   have hxi:(x:Int)<(m:Int):=by omega
   obtain⟨b8,o8,f,X,C,e8,hb8,hf,hrep,x0,x1,x2,x3,x4,x5,x6,x7,x8⟩:=z25 hSr hxF
   simp only[Option.some.injEq,Addr.mk.injEq,and_true] at e8
   obtain⟨rfl,rfl⟩:=e8
   have hbl8:fb<wr.heap.size:=hSor _ hb8
   obtain⟨kn,hknq⟩:∃ kn,kn=z1y F (E j).vals (ordF F) j:=⟨_,rfl⟩
   rw[<-hknq] at hkn
   have hknl:kn.length=j:=by rw[hknq];exact HE.out.2.2.2.2.2.2.2.1 j hj
   have hknw:∀ a∈kn,a.wf:=by rw[hknq];exact HE.out.2.2.2.2.1 j hj
   obtain⟨A9,c9,hv9,hc9,hs9⟩:=ownFct hkn.out hknl hknw
   subst hv9
   have hstep:=HE.out.2.2.1 j x f hx hf
   have hkey:=HE.out.2.2.2.2.2.1 j x f hj hf
   have hmore:=fun v=>HE.out.2.2.2.2.2.2.1 j x f v hlt hx hf
   rw[<-hknq] at hstep hkey hmore
   have hEj:=HE.out.2.2.2.1 j hj
   have hlwb:∀ q,lw.ownBlock=some q->q<wr.heap.size:=fun q hq=>(hms.out.2.2.2.2.lt q hq).2
   have hlwM:lw.ownBlock≠some M:=fun e=>by
    rcases hlo.out with h | ⟨k,h,hk⟩
    ·exact HM.out.2.2.2.2.2.2.2.2.1 (h.symm.trans e)
    have:=Option.some.inj (h.symm.trans e);omega
   have hlwg:lw.ownBlock≠some gc:=fun e=>by
    rcases hlo.out with h | ⟨k,h,hk⟩
    ·exact HM.out.2.2.2.2.2.2.2.2.2.1 (h.symm.trans e)
    have:=Option.some.inj (h.symm.trans e);omega
   have hlwv:lw.ownBlock≠some gv:=fun e=>by
    rcases hlo.out with h | ⟨k,h,hk⟩
    ·exact HM.out.2.2.2.2.2.2.2.2.2.2.1 (h.symm.trans e)
    have:=Option.some.inj (h.symm.trans e);omega
   have hlwS:∀ q,lw.ownBlock=some q->¬ S q:=fun q hq hs=>by
    rcases hlo.out with h | ⟨k,h,hk⟩
    ·exact HM.out.2.2.2.2.2.2.2.1 q (h.symm.trans hq) hs
    have:=Option.some.inj (h.symm.trans hq);have:=HM.out.2.2.2.1 q hs;omega
   have hC:=hms.out.1
   obtain⟨z0,z1,z2,z3,z4,z5,z6,z7,z8,z9,z10⟩:=hC
   have hMr:M<wr.heap.size:=hms.out.1.lt
   have HF:=zh (ai hf (ai hstep (ai hkey (ai hmore (ai hEj (ai hknl (ai hrep (ai hs9 (ai hSr (ai hIr hSor))))))))))
   have HW:=zh (ai hlwb (ai hlwM (ai hlwg (ai hlwv hlwS))))
   have hl13:(ls++(E j).ltrs).length<=99:=by rw[List.length_append];have:=hEj.ll;omega
   clear hfw hfS hSr hIr hs5r hbs hlp hpi hxF' hb8 hf hrep hstep hkey hmore hEj hlwb hlwM hlwg hlwv hlwS hknl hknw hknq hs9 hx z1 z2 z3 z4 z6 z8 z9 z10
   go_upto_if 37 with fail
   refine z0k ?_;intro W0 hW0
   have hB0:Below wr.heap.size wr W0:=by rw[hW0];exact bel
   have hz0:wr.heap.size<W0.heap.size:=by rw[hW0];simp
   have b0':W0.cell? ⟨wr.heap.size,0,none⟩=some (.string f.name):=by rw[hW0];go_simp
   have b1':W0.cell? ⟨wr.heap.size,1,none⟩=some (.int .i64 f.kind):=by rw[hW0];go_simp
   have b2':W0.cell? ⟨wr.heap.size,2,none⟩=some (.int .i64 f.type):=by rw[hW0];go_simp
   have b3':W0.cell? ⟨wr.heap.size,3,none⟩=some (.int .i64 f.source.op):=by rw[hW0];go_simp
   have b4':W0.cell? ⟨wr.heap.size,4,none⟩=some (.int .i64 f.source.v.k):=by rw[hW0];go_simp
   have b5':W0.cell? ⟨wr.heap.size,5,none⟩=some (.int .i64 f.source.v.n):=by rw[hW0];go_simp
   have b6':W0.cell? ⟨wr.heap.size,6,none⟩=some (.string f.source.v.s):=by rw[hW0];go_simp
   have b7':W0.cell? ⟨wr.heap.size,7,none⟩=some (.string f.source.name):=by rw[hW0];go_simp
   have b8':W0.cell? ⟨wr.heap.size,8,none⟩=some (.slice X f.source.args.length C):=by rw[hW0];go_simp
   have r5:=z00 z5 hB0
   have r7:=z00 z7 hB0
   have hMW:M<W0.heap.size:=by omega
   clear hW0 x0 x1 x2 x3 x4 x5 x6 x7 x8 y0 z0 z5 z7
   have hm0:=zh (hms.out.below hB0)
   have hk0:=zh (z04 hkn.out hB0)
   obtain⟨vq,hvq⟩:∃ vq,vq=if f.kind=3 then valE (keyE kn f) (turnE p now (E j) x (keyE kn f)).1 else oneV f ins [] kn:=⟨_,rfl⟩
   go_cut [] (fun wx=>∃ lw':Value,Hid (MotS wx M fb fo m d pv p (.slice A1 n1 c1) gc cc gv cv now base lw' ls (E (j+1)))/\Hid ((E (j+1)).vals=(E j).vals.set x vq)/\Hid (∀ b,b<W0.heap.size->b≠M->b≠gc->b≠gv->some b≠lw.ownBlock->wx.heap[b]?=W0.heap[b]?)/\Hid (lw'.ownBlock=lw.ownBlock\/∃ k,lw'.ownBlock=some k/\W0.heap.size<=k)/\Hid (∀ B,B<=M->B<=base->Below B W0 wx)/\W0.heap.size<=wx.heap.size)
   case first =>
    by_cases hk:f.kind=3
    ·have g37:(f.kind==3)=true:=by simpa using hk
     obtain⟨key,hkq⟩:∃ key,key=keyE kn f:=⟨_,rfl⟩
     obtain⟨c,hc,hcc⟩:=HF.out.2.2.2.2.1.call hxF
     obtain⟨r,hr⟩:∃ r,r=z1p c p ((E j).last+1) key now:=⟨_,rfl⟩
     have hrt:turnE p now (E j) x key=r:=by unfold turnE;rw[hc,Option.getD_some,<-hr]
     have hvk:=HF.out.2.2.1 hk
     rw[<-hkq] at hvk
     have hE1:E (j+1)=⟨(E j).calls.set x r.1,(E j).vals.set x vq,tLast r (E j).last,tLs r f.name (E j).ltrs⟩:=by
      rw[HF.out.2.1,hvq,if_pos hk,eStep,if_pos hk]
      unfold lookE
      rw[<-hkq,hrt]
      rfl
     have hvq':vq=valE key r.1:=by rw[hvq,if_pos hk,<-hkq,hrt]
     have h4:=fun w h h'=>zf2 kn A9 j c9 f.source X C w (by unfold inL;omega) h h'
     obtain⟨er,her⟩:∃ er,er=(evalRes kn f.source).2:=⟨_,rfl⟩
     have hke:evalRes kn f.source=(key,er):=by rw[hkq,her];rfl
     rw[hke] at h4
     obtain⟨_,_,_,hxr⟩:=HF.out.2.2.2.2.2.2.1.parts
     have HX:=zh (ai (hxr.keep (fun b hb=>⟨HF.out.2.2.2.2.2.2.2.2.2.2 b hb,rfl⟩):XRep wr (old wr) _ f.source) (ai hc (ai hcc (ai hr (ai hvk (ai hE1 hvq'))))))
     clear hk hkq hc hcc hr hrt hvk hE1 hvq' hvq her hke hxr
     go_upto_region 8 with (go_at_call 71;refine (h4 _ (HX.out.1.keep (z05 hB0)) (HF.out.2.2.2.2.2.2.2.1.now hB0)).mono ?_;rintro e w4 ⟨rfl,hb4⟩;refine zb hb4 ?_;rintro ⟨hc4,hf4⟩ hz4 hy4 hx4;refine szz w4 W0 ?_;intros)
     refine z0k ?_;intro W1' hW1'
     obtain⟨kb,hkb⟩:∃ kb,kb=w4.heap.size:=⟨_,rfl⟩
     obtain⟨W1,hW1⟩:∃ y,y=W1'.drew:=⟨_,rfl⟩
     have hB1:Below W0.heap.size W0 W1:=by rw[hW1,hW1'];exact Below.drew bel
     have hz1:W1.heap.size=w4.heap.size+1:=by rw[hW1,hW1'];simp[heap_drew]
     have hz4':=hb4.size
     have k0:W1.cell? ⟨w4.heap.size,0,none⟩=some (.int .i64 key.k):=by rw[hW1,hW1',World.cell?_drew];go_simp
     have k1:W1.cell? ⟨w4.heap.size,1,none⟩=some (.int .i64 key.n):=by rw[hW1,hW1',World.cell?_drew];go_simp
     have k2:W1.cell? ⟨w4.heap.size,2,none⟩=some (.string key.s):=by rw[hW1,hW1',World.cell?_drew];go_simp
     have hkb0:W0.heap.size<=kb:=by omega
     have hkb1:kb<W1.heap.size:=by omega
     rw[<-hkb] at k0 k1 k2
     have s7:=z00 r7 hB1
     have hS1:W1.cell? ⟨M,7,none⟩=some (.slice (some ⟨gv,0,none⟩) m cv)/\(W1.cell? ⟨kb,0,none⟩=some (.int .i64 key.k)/\(W1.cell? ⟨kb,1,none⟩=some (.int .i64 key.n)/\W1.cell? ⟨kb,2,none⟩=some (.string key.s))):=⟨s7,k0,k1,k2⟩
     have hm1:=hm0.out.below hB1
     have hz01:=hB1.size
     have hSW:Sl W1 S 9 (RFld W1 S) (some ⟨fb,fo,none⟩) m F:=HF.out.2.2.2.2.2.2.2.2.1.keepN z02 (fun b hb=>⟨hb,by have h9:=HF.out.2.2.2.2.2.2.2.2.2.2 b hb;exact (hB1.block b (by omega)).trans (hB0.block b h9)⟩)
     have hlk:=zgc M x m d F fb fo S pv p (.slice A1 n1 c1) gc cc (E j).calls (.slice (some ⟨gv,0,none⟩) m cv) now (E j).last lw (ls++(E j).ltrs).length (ls++(E j).ltrs) base key W1 hm1.1 hm1.2.1 hSW (fun b hb=>by have h9:=HF.out.2.2.2.2.2.2.2.2.2.2 b hb;omega) HM.out.2.2.2.2.1 HM.out.2.2.2.2.2.1 HW.out.2.2.2.2 h14 hm1.2.2.1 hm1.2.2.2.2 hl13 hxF f HF.out.1 c HX.out.2.1 HW.out.2.1 HW.out.2.2.1 hMg (by omega) HX.out.2.2.1 (by have h1:=HF.out.2.2.2.2.1.lo;have h2:=HF.out.2.2.2.2.1.hi;have h3:=HNL.out.2;omega) HNL.out.1 HX.out.2.2.2.2.1 r HX.out.2.2.2.1
     have HM1:=zh (ai hm1 hB1)
     refine z0r (fun w'=>w'.cell? ⟨M,7,none⟩=some (.slice (some ⟨gv,0,none⟩) m cv)/\(w'.cell? ⟨kb,0,none⟩=some (.int .i64 key.k)/\(w'.cell? ⟨kb,1,none⟩=some (.int .i64 key.n)/\w'.cell? ⟨kb,2,none⟩=some (.string key.s)))) 11 (by kernel_rfl) ?_
     rw[<-hW1]
     rw[<-hkb]
     clear hW1 hW1' k0 k1 k2 s7 hm1 hSW h4 hkb hz1 hb4 hc4 hf4
     refine zt 0 hS1 ?_
     simp only[Act.put,pq]
     refine zt 1 hS1 ?_
     simp only[Act.put,pq]
     refine zt 2 hS1 ?_
     simp only[Act.put,pq]
     refine zt 3 hS1 ?_
     simp only[Act.put,pq]
     refine zt 4 hS1 ?_
     simp only[Act.put,pq]
     refine zt 5 hS1 ?_
     simp only[Act.put,pq]
     refine zt 6 hS1 ?_
     simp only[Act.put,pq]
     refine zt 7 hS1 ?_
     simp only[Act.put,pq]
     refine zt 8 hS1 ?_
     simp only[Act.put,pq]
     refine z06 (i:=9) (o:=_) rfl (by kernel_rfl) (fun K hK=>?_)
     go_simp
     go_at_call 72;refine hlk.mono ?_;rintro e u1 ⟨rfl,lw',hC2,hF2,hcs2,hls2,hfr2,hob2,hbb2⟩
     rw[<-HX.out.2.2.2.2.2.2]
     have hlwb1:∀ q,lw.ownBlock=some q->q<wr.heap.size:=HW.out.1
     have hkb2:u1.heap[kb]?=W1.heap[kb]?:=hfr2 kb hkb1 (by omega) (by omega) (fun e=>by have:=hlwb1 kb e.symm;omega)
     have hgv2:u1.heap[gv]?=W1.heap[gv]?:=hfr2 gv (by omega) (fun e=>hMv e.symm) (fun e=>hgv e.symm) (fun e=>HW.out.2.2.2.1 e.symm)
     have hS2:u1.cell? ⟨M,7,none⟩=some (.slice (some ⟨gv,0,none⟩) m cv)/\(u1.cell? ⟨kb,0,none⟩=some (.int .i64 key.k)/\(u1.cell? ⟨kb,1,none⟩=some (.int .i64 key.n)/\u1.cell? ⟨kb,2,none⟩=some (.string key.s))):=⟨hC2.2.2.2.2.2.2.2.1,(cob kb 0 hkb2).trans hS1.2.1,(cob kb 1 hkb2).trans hS1.2.2.1,(cob kb 2 hkb2).trans hS1.2.2.2⟩
     refine hK.out _ _ (fun _=>hS2) ?_
     clear hK K
     try simp only[Act.put,pq]
     refine zt 10 hS2 ?_
     simp only[Act.put,pq]
     refine z06 (i:=11) (o:=_) rfl (by kernel_rfl) (fun K hK=>?_)
     have hro:=z09 HM1.out.1.2.2.2.1 (w':=u1) (fun q hq _=>by have e:gv=q:=Option.some.inj hq;rw[<-e];exact hgv2)
     obtain⟨ov,hov⟩:∃ ov,(E j).vals[x]?=some ov:=⟨_,gq (by rw[HE.out.2.1 j (by omega)];exact hxF)⟩
     obtain⟨e0,e1,e2⟩:=z2z hro hov hxF
     have f0:=hro.frozenAt (x*3)
     have f1:=hro.frozenAt (x*3+1)
     have f2:=hro.frozenAt (x*3+2)
     have hgu:gv<u1.heap.size:=block_lt_of_cell e0
     go_simp
     refine hK.out _ _ (fun h=>absurd h (by decide)) ?_
     clear hK K
     refine z0f (by kernel_rfl) ?_ _
     try simp only[Act.put,pq]
     have hst:=(((hro.stored (x*3) (.int .i64 vq.k)).1.stored (x*3+1) (.int .i64 vq.n)).1.stored (x*3+2) (.string vq.s)).1
     rw[z4y _ x vq (by rw[HE.out.2.1 j (by omega)];exact hxF)] at hst
     have hblk:∀ bb:Nat,bb≠gv->(((u1.setCell ⟨gv,x*3,none⟩ (.int .i64 vq.k)).setCell ⟨gv,x*3+1,none⟩ (.int .i64 vq.n)).setCell ⟨gv,x*3+2,none⟩ (.string vq.s)).heap[bb]?=u1.heap[bb]?:=fun bb hne=>by
      iterate 3 rw[Below.heap_setCell _ _ _ _ (by exact hne)]
     go_wp2_with fail
     go_meet
     have hz12:W1.heap.size<=u1.heap.size:=(hbb2 0 (Nat.zero_le _) (Nat.zero_le _)).size
     refine⟨lw',zh ?_,zh ?_,zh (fun b hb h1 h2 h3 h4=>?_),zh ?_,zh (fun B h h'=>?_),by simp;omega⟩
     ·rw[HX.out.2.2.2.2.2.1]
      refine⟨hC2.block (hblk M hMv),hF2.block (hblk M hMv),z09 hcs2 (fun q hq _=>hblk q (by have e:gc=q:=Option.some.inj hq;omega)),hst,?_⟩
      have hlr:(tLs r f.name (ls++(E j).ltrs))=ls++tLs r f.name (E j).ltrs/\tN r (ls++(E j).ltrs).length=(ls++tLs r f.name (E j).ltrs).length:=by
       unfold tLs tN
       split
       ·exact⟨by rw[List.append_assoc],by simp;omega⟩
       exact⟨rfl,rfl⟩
      rw[hlr.1,hlr.2] at hls2
      refine z09 hls2 (fun q hq _=>hblk q (fun e=>?_))
      rcases hob2 with h | ⟨k,h,hk⟩
      ·exact HW.out.2.2.2.1 (h.symm.trans (by rw[hq,e]))
      have:=Option.some.inj (h.symm.trans hq);omega
     ·rw[HX.out.2.2.2.2.2.1]
     ·exact (hblk b h3).trans ((hfr2 b (by omega) h1 h2 h4).trans (HM1.out.2.block b hb))
     ·rcases hob2 with h | ⟨k,h,hk⟩
      ·exact .inl h
      exact .inr ⟨k,h,by omega⟩
     exact z03 (z03 (z03 ((HM1.out.2.mono (by omega)).trans (hbb2 B h h')) (by show B<=gv;omega)) (by show B<=gv;omega)) (by show B<=gv;omega)
    have g37:(f.kind==3)=false:=by simpa using hk
    have hE1:E (j+1)=⟨(E j).calls,(E j).vals.set x vq,(E j).last,(E j).ltrs⟩:=by
     rw[HF.out.2.1,hvq,if_neg hk,eStep,if_neg hk]
    have hvq':oneV f ins [] kn=vq:=by rw[hvq,if_neg hk]
    have h4:=fun w h h1 h2 h3=>zew f X C A1 n1 c1 ins none 0 0 [] A9 j c9 kn w hn1 (by unfold inL;omega) (by unfold inL;omega) h h1 h2 h3
    rw[hvq'] at h4
    have HX:=zh (ai hE1 (HF.out.2.2.2.2.2.2.1.keep (fun b hb=>⟨HF.out.2.2.2.2.2.2.2.2.2.2 b hb,rfl⟩):RFld wr (old wr) _ f))
    clear hk hvq' hE1 hvq
    go_upto_region 9 with fail
    refine z0k ?_;intro W1' hW1'
    obtain⟨W1,hW1⟩:∃ y,y=W1'.drew:=⟨_,rfl⟩
    have hB1:Below W0.heap.size W0 W1:=by rw[hW1,hW1'];exact Below.drew (Below.refl _ _)
    have HSS:=zh (show ∀ y:World,Below W0.heap.size W0 y->(y.cell? ⟨M,7,none⟩=some (.slice (some ⟨gv,0,none⟩) m cv)/\(y.cell? ⟨M,5,none⟩=some (.slice A1 n1 c1)/\(y.cell? ⟨wr.heap.size,0,none⟩=some (.string f.name)/\(y.cell? ⟨wr.heap.size,1,none⟩=some (.int .i64 f.kind)/\(y.cell? ⟨wr.heap.size,2,none⟩=some (.int .i64 f.type)/\(y.cell? ⟨wr.heap.size,3,none⟩=some (.int .i64 f.source.op)/\(y.cell? ⟨wr.heap.size,4,none⟩=some (.int .i64 f.source.v.k)/\(y.cell? ⟨wr.heap.size,5,none⟩=some (.int .i64 f.source.v.n)/\(y.cell? ⟨wr.heap.size,6,none⟩=some (.string f.source.v.s)/\(y.cell? ⟨wr.heap.size,7,none⟩=some (.string f.source.name)/\y.cell? ⟨wr.heap.size,8,none⟩=some (.slice X f.source.args.length C))))))))))) from fun y h=>⟨z00 r7 h,z00 r5 h,z00 b0' h,z00 b1' h,z00 b2' h,z00 b3' h,z00 b4' h,z00 b5' h,z00 b6' h,z00 b7' h,z00 b8' h⟩)
    have hS1:=HSS.out W1 hB1
    refine z0r (fun w'=>w'.cell? ⟨M,7,none⟩=some (.slice (some ⟨gv,0,none⟩) m cv)/\(w'.cell? ⟨M,5,none⟩=some (.slice A1 n1 c1)/\(w'.cell? ⟨wr.heap.size,0,none⟩=some (.string f.name)/\(w'.cell? ⟨wr.heap.size,1,none⟩=some (.int .i64 f.kind)/\(w'.cell? ⟨wr.heap.size,2,none⟩=some (.int .i64 f.type)/\(w'.cell? ⟨wr.heap.size,3,none⟩=some (.int .i64 f.source.op)/\(w'.cell? ⟨wr.heap.size,4,none⟩=some (.int .i64 f.source.v.k)/\(w'.cell? ⟨wr.heap.size,5,none⟩=some (.int .i64 f.source.v.n)/\(w'.cell? ⟨wr.heap.size,6,none⟩=some (.string f.source.v.s)/\(w'.cell? ⟨wr.heap.size,7,none⟩=some (.string f.source.name)/\w'.cell? ⟨wr.heap.size,8,none⟩=some (.slice X f.source.args.length C))))))))))) 15 (by kernel_rfl) ?_
    rw[<-hW1]
    clear hW1 hW1' b0' b1' b2' b3' b4' b5' b6' b7' b8' r5 r7
    refine zt 0 hS1 ?_
    simp only[Act.put,pq]
    refine zt 1 hS1 ?_
    simp only[Act.put,pq]
    refine zt 2 hS1 ?_
    simp only[Act.put,pq]
    refine zt 3 hS1 ?_
    simp only[Act.put,pq]
    refine zt 4 hS1 ?_
    simp only[Act.put,pq]
    refine zt 5 hS1 ?_
    simp only[Act.put,pq]
    refine zt 6 hS1 ?_
    simp only[Act.put,pq]
    refine zt 7 hS1 ?_
    simp only[Act.put,pq]
    refine zt 8 hS1 ?_
    simp only[Act.put,pq]
    refine zt 9 hS1 ?_
    simp only[Act.put,pq]
    refine zt 10 hS1 ?_
    simp only[Act.put,pq]
    refine zt 11 hS1 ?_
    simp only[Act.put,pq]
    refine zt 12 hS1 ?_
    simp only[Act.put,pq]
    refine z06 (i:=13) (o:=_) rfl (by kernel_rfl) (fun K hK=>?_)
    go_simp
    have hBr1:=z01 hB0 hB1 hB0.size
    go_at_call 73;refine (h4 _ (HX.out.2.keep (z05 hBr1)) ((HF.out.2.2.2.2.2.2.2.2.2.1.mono HF.out.2.2.2.2.2.2.2.2.2.2:Sl wr (old wr) 7 RFct A1 n1 ins).now hBr1) Sl.nil (HF.out.2.2.2.2.2.2.2.1.now hBr1)).mono ?_;rintro e u1 ⟨rfl,hb5⟩
    have hB5:=z01 hB1 hb5 hB1.size
    have hS2:=HSS.out u1 hB5
    refine hK.out _ _ (fun _=>hS2) ?_
    clear hK K
    try simp only[Act.put,pq]
    refine zt 14 hS2 ?_
    simp only[Act.put,pq]
    refine z06 (i:=15) (o:=_) rfl (by kernel_rfl) (fun K hK=>?_)
    have hm5:=hm0.out.below hB5
    have hro:=hm5.2.2.2.1
    obtain⟨ov,hov⟩:∃ ov,(E j).vals[x]?=some ov:=⟨_,gq (by rw[HE.out.2.1 j (by omega)];exact hxF)⟩
    obtain⟨e0,e1,e2⟩:=z2z hro hov hxF
    have f0:=hro.frozenAt (x*3)
    have f1:=hro.frozenAt (x*3+1)
    have f2:=hro.frozenAt (x*3+2)
    have hgu:gv<u1.heap.size:=block_lt_of_cell e0
    go_simp
    refine hK.out _ _ (fun h=>absurd h (by decide)) ?_
    clear hK K
    refine z0f (by kernel_rfl) ?_ _
    try simp only[Act.put,pq]
    have hst:=(((hro.stored (x*3) (.int .i64 vq.k)).1.stored (x*3+1) (.int .i64 vq.n)).1.stored (x*3+2) (.string vq.s)).1
    rw[z4y _ x vq (by rw[HE.out.2.1 j (by omega)];exact hxF)] at hst
    have hblk:∀ bb:Nat,bb≠gv->(((u1.setCell ⟨gv,x*3,none⟩ (.int .i64 vq.k)).setCell ⟨gv,x*3+1,none⟩ (.int .i64 vq.n)).setCell ⟨gv,x*3+2,none⟩ (.string vq.s)).heap[bb]?=u1.heap[bb]?:=fun bb hne=>by
     iterate 3 rw[Below.heap_setCell _ _ _ _ (by exact hne)]
    go_wp2_with fail
    go_meet
    have hz5:=hB5.size
    refine⟨lw,zh ?_,zh ?_,zh (fun b hb h1 h2 h3 h4=>?_),zh (.inl rfl),zh (fun B h h'=>?_),by simp;omega⟩
    ·rw[HX.out.1]
     refine⟨hm5.1.block (hblk M hMv),hm5.2.1.block (hblk M hMv),z09 hm5.2.2.1 (fun q hq _=>hblk q (by have e:gc=q:=Option.some.inj hq;omega)),hst,?_⟩
     exact z09 hm5.2.2.2.2 (fun q hq _=>hblk q (fun e=>HW.out.2.2.2.1 (by rw[hq,e])))
    ·rw[HX.out.1]
    ·exact (hblk b h3).trans (hB5.block b hb)
    exact z03 (z03 (z03 (hB5.mono (by omega)) (by show B<=gv;omega)) (by show B<=gv;omega)) (by show B<=gv;omega)
   case rest =>
    clear hvq
    obtain⟨lw',hmx,hvx,hfx,hox,hbx,hzx⟩:=hcut
    have hbox:wc.heap[wr.heap.size]?=W0.heap[wr.heap.size]?:=hfx.out wr.heap.size hz0 (by omega) (by omega) (by omega) (fun e=>by have:=HW.out.1 _ e.symm;omega)
    have c0:=(cob wr.heap.size 0 hbox).trans b0'
    have c7:=hmx.out.1.2.2.2.2.2.2.2.1
    have hnv:(E (j+1)).vals[x]?=some vq:=by rw[hvx.out,List.getElem?_set,if_pos rfl,if_pos (by rw[HE.out.2.1 j (by omega)];exact hxF)]
    obtain⟨e0,e1,e2⟩:=z2z hmx.out.2.2.2.1 hnv hxF
    have hkc:wc.ownsRow w2.heap.size 72 7 (.slice A9 j c9) j (kn.flatMap Fct.cs):=z09 hk0.out (fun q hq hl=>hfx.out q hl (by have:=(hkn.out.lt q hq).1;omega) (by have:=(hkn.out.lt q hq).1;omega) (by have:=(hkn.out.lt q hq).1;omega) (fun e=>hvn.out q hq e.symm))
    have hkq:∀ q,(Value.slice A9 j c9).ownBlock=some q->w2.heap.size<=q/\q<wr.heap.size:=fun q hq=>hkn.out.lt q hq
    have HKC:=zh (ai hkc (ai hkq (HF.out.2.2.2.1 vq hvx.out)))
    have HS1:=zh (show ∀ y:World,y.heap[M]?=wc.heap[M]?->y.heap[gv]?=wc.heap[gv]?->y.heap[wr.heap.size]?=wc.heap[wr.heap.size]?->(y.cell? ⟨M,7,none⟩=some (.slice (some ⟨gv,0,none⟩) m cv)/\(y.cell? ⟨wr.heap.size,0,none⟩=some (.string f.name)/\(y.cell? ⟨gv,x*3,none⟩=some (.int .i64 vq.k)/\(y.cell? ⟨gv,x*3+1,none⟩=some (.int .i64 vq.n)/\y.cell? ⟨gv,x*3+2,none⟩=some (.string vq.s))))) from fun y h h' h2=>⟨(cob M 7 h).trans c7,(cob wr.heap.size 0 h2).trans c0,(cob (gv) (x*3) h').trans e0,(cob (gv) (x*3+1) h').trans e1,(cob (gv) (x*3+2) h').trans e2⟩)
    clear hbox c0 c7 hnv e0 e1 e2 hkc hkq b0' b1' b2' b3' b4' b5' b6' b7' b8' r5 r7
    go_upto_region 10 with fail
    refine z0k ?_;intro u0' hu0'
    obtain⟨u0,hu0⟩:∃ y,y=u0'.drew:=⟨_,rfl⟩
    have hY0:Below wc.heap.size wc u0:=by rw[hu0,hu0'];exact (Below.refl _ _).drew
    have hS0:=HS1.out u0 (hY0.block M (by omega)) (hY0.block gv (by omega)) (hY0.block wr.heap.size (by omega))
    refine z0r (fun w'=>w'.cell? ⟨M,7,none⟩=some (.slice (some ⟨gv,0,none⟩) m cv)/\(w'.cell? ⟨wr.heap.size,0,none⟩=some (.string f.name)/\(w'.cell? ⟨gv,x*3,none⟩=some (.int .i64 vq.k)/\(w'.cell? ⟨gv,x*3+1,none⟩=some (.int .i64 vq.n)/\w'.cell? ⟨gv,x*3+2,none⟩=some (.string vq.s))))) 14 (by kernel_rfl) ?_
    rw[<-hu0]
    clear hu0' hu0
    refine zt 0 hS0 ?_
    simp only[Act.put,pq]
    refine zt 1 hS0 ?_
    simp only[Act.put,pq]
    refine zt 2 hS0 ?_
    simp only[Act.put,pq]
    refine zt 3 hS0 ?_
    simp only[Act.put,pq]
    refine zt 4 hS0 ?_
    simp only[Act.put,pq]
    refine zt 5 hS0 ?_
    simp only[Act.put,pq]
    refine zt 6 hS0 ?_
    simp only[Act.put,pq]
    refine zt 7 hS0 ?_
    simp only[Act.put,pq]
    refine zt 8 hS0 ?_
    simp only[Act.put,pq]
    refine zt 9 hS0 ?_
    simp only[Act.put,pq]
    refine zt 10 hS0 ?_
    simp only[Act.put,pq]
    refine zt 11 hS0 ?_
    simp only[Act.put,pq]
    refine z06 (i:=12) (o:=_) rfl (by kernel_rfl) (fun K hK=>?_)
    go_simp
    obtain⟨u1,hu1⟩:∃ y,y=u0.alloc (.cells #[.string f.name,.int .i64 0,.int .i64 0,.string ⟨#[]⟩,.int .i64 vq.k,.int .i64 vq.n,.string vq.s] 72):=⟨_,rfl⟩
    rw[<-hu1]
    have hb1:Below u0.heap.size u0 u1:=by rw[hu1];exact (Below.refl _ _).alloc (nr _) _
    have hY1:=z01 hY0 hb1 hY0.size
    have hnew:∀ pp,some (⟨u0.heap.size,0,none⟩:Addr)=some pp->∀ j u,(Fct.mk f.name noVal vq).cs[j]?=some u->u1.cell? (pp.add j)=some u:=by
     rw[hu1]
     exact fun pp hp j u hj=>by cases hp;exact z63 _ (Fct.mk f.name noVal vq).cs _ j u hj
    clear hu1
    have hS2:=HS1.out u1 (hY1.block M (by omega)) (hY1.block gv (by omega)) (hY1.block wr.heap.size (by omega))
    refine hK.out _ _ (fun _=>hS2) ?_
    clear hK K
    try simp only[Act.put,pq]
    refine z06 (i:=13) (o:=_) rfl (by kernel_rfl) (fun K hK=>?_)
    refine z0z rfl (.tmp 71) (.tmp 83) 28 rfl w2.heap.size 72 i0 _ 7 80 Tryz.underlying28 ei ez0 ez1 ez2 rfl (by decide) (.slice A9 j c9) j _ rfl (z04 HKC.out.1 hY1) _ 1 1 (Fct.mk f.name noVal vq).cs rfl rfl hnew (by simp) (by simp[Fct.cs,Value.oneCell']) (by unfold maxLen;omega) (by omega) (by have:=hY1.size;omega) ?_
    intro v6 u2 ho2 hgr hob
    have hz1:=hY1.size
    have hne:∀ q,q<w2.heap.size->some q≠(Value.slice A9 j c9).ownBlock:=fun q hq e=>by have:=(HKC.out.2.1 q e.symm).1;omega
    have hM2:u2.heap[M]?=wc.heap[M]?:=(hgr.block M (by omega) (hne M (by omega))).trans (hY1.block M (by omega))
    have hG2:u2.heap[gc]?=wc.heap[gc]?:=(hgr.block gc (by omega) (hne gc (by omega))).trans (hY1.block gc (by omega))
    have hV2:u2.heap[gv]?=wc.heap[gv]?:=(hgr.block gv (by omega) (hne gv (by omega))).trans (hY1.block gv (by omega))
    have hX2:u2.heap[wr.heap.size]?=wc.heap[wr.heap.size]?:=(hgr.block wr.heap.size (by omega) (fun e=>by have:=(HKC.out.2.1 _ e.symm).2;omega)).trans (hY1.block wr.heap.size (by omega))
    have hS3:=HS1.out u2 hM2 hV2 hX2
    refine hK.out _ _ (fun _=>hS3) ?_
    clear hK K
    try simp only[Act.put,pq]
    refine z06 (i:=14) (o:=_) rfl (by kernel_rfl) (fun K hK=>?_)
    go_simp
    refine hK.out _ _ (fun h=>absurd h (by decide)) ?_
    clear hK K
    refine z0f (by kernel_rfl) ?_ _
    try simp only[Act.put,pq]
    have hzg:=hgr.size
    have hmq:MotS u2 M fb fo m d pv p (.slice A1 n1 c1) gc cc gv cv now base lw' ls (E (j+1)):=hmx.out.keep hM2 hG2 hV2 (fun q hq=>by
     have hql:=(hmx.out.2.2.2.2.lt q hq).2
     refine (hgr.block q (by omega) (fun e=>?_)).trans (hY1.block q hql)
     rcases hox.out with h | ⟨k,h,hk⟩
     ·exact hvn.out q e.symm (h.symm.trans hq)
     have:=Option.some.inj (h.symm.trans hq);have:=(HKC.out.2.1 q e.symm).2;omega)
    have HQ:=zh (ai hmq (ai ho2 (ai hgr hob)))
    clear hmq ho2 hgr hob hM2 hG2 hV2 hX2 hne
    go_wp2_with fail
    go_roundw
    case rel =>
     refine⟨j+1,lw',by omega,by go_num,zh ?_,zh HQ.out.1,zh (fun b hb h1 h2 h3 h4=>?_),zh ?_,zh (fun q hq e=>?_),zh (fun B h h'=>?_),by omega⟩
     ·rw[HKC.out.2.2,List.flatMap_append]
      simpa using HQ.out.2.1
     ·refine (HQ.out.2.2.1.block b (by omega) (fun e=>by have:=(HKC.out.2.1 b e.symm).1;omega)).trans ((hY1.block b (by omega)).trans ((hfx.out b (by omega) h1 h2 h3 (fun e=>?_)).trans ((hB0.block b (by omega)).trans (hfr.out b hb h1 h2 h3 h4))))
      rcases hlo.out with h | ⟨k,h,hk⟩
      ·exact h4 (e.trans h)
      have:=Option.some.inj (e.trans h);omega
     ·rcases hox.out with h | ⟨k,h,hk⟩
      ·rw[h];exact hlo.out
      exact .inr ⟨k,h,by omega⟩
     ·rcases HQ.out.2.2.2 with h | h
      ·have hq':=h.symm.trans hq
       rcases hox.out with g | ⟨k,g,hk⟩
       ·exact hvn.out q hq' (g.symm.trans e)
       have:=Option.some.inj (g.symm.trans e);have:=(HKC.out.2.1 q hq').2;omega
      have:=Option.some.inj (h.symm.trans hq)
      have:=(hmx.out.2.2.2.2.lt q e).2
      omega
     refine (((hbw.out B h h').trans (hB0.mono (by omega))).trans (hbx.out B h h')).trans ?_
     refine Below.grown (hY1.mono (by omega)) HQ.out.2.2.1 (by omega) (fun kk hk=>?_)
     have:=(HKC.out.2.1 kk hk).1
     omega
    case measure=>simp[intOf];omega
  have hke:j=m:=by omega
  subst hke
  have hEE:=HE.out.2.2.2.2.2.2.2.2.2.1
  go_wp2_with fail
  go_end0
  refine⟨rfl,lw,?_,fun b hb h1 h2 h3 h4=>(hfr.out b (by omega) h1 h2 h3 h4).trans (HB2.out.block b hb),?_,fun B h h'=>(HB2.out.mono (by omega)).trans (hbw.out B h h')⟩
  ·rw[<-HE.out.2.2.2.2.2.2.2.2.2.1,HE.out.2.2.2.2.2.2.2.2.1]
   exact hms.out
  rcases hlo.out with h | ⟨k,h,hk⟩
  ·exact .inl h
  exact .inr ⟨k,h,by omega⟩
end Go.Proofs.YtldhlpjjcnlbcaaGreat
