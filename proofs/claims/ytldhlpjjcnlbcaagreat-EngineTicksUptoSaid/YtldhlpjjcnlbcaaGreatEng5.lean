/- Texts merged (mergeh.py): Eng3 EngD Eng5. -/
import Derived.Test.YtldhlpjjcnlbcaaGreatEng2
import Derived.Test.YtldhlpjjcnlbcaaGreatRowL
import Derived.Test.YtldhlpjjcnlbcaaGreatRowV
/- engine.numbers and the reference counted. -/
set_option maxRecDepth 100000
set_option maxHeartbeats 8000000
namespace Go.Proofs.YtldhlpjjcnlbcaaGreat
open Go.RowKit
def z4d (now last:Int):Bool:=decide (0<=now)&&(decide (now<=1073741824)&&(decide (0<=last)&&decide (last<=1073741810)))
theorem zc8 (fv pv iv cv vv:Value)(p:Pol)(now last:Int)(w:World) :
  Calls Tryz.prog 36 #[.agg #[fv,pv,.int .i64 p.tries,.int .i64 p.base,.int .i64 p.cap,iv,cv,vv,.int .i64 now,.int .i64 last]] w (RetB w (z4d now last)):=by
 obtain⟨b,hb⟩:∃ b,b=z4d now last:=⟨_,rfl⟩
 rw[<-hb]
 unfold z4d at hb
 by_cases h1:0<=now
 ·by_cases h2:now<=1073741824
  ·by_cases h3:0<=last
   ·by_cases h4:last<=1073741810
    ·have HB:=zh (show b=true by rw[hb];simp[h1,h2,h3,h4])
     clear hb
     go_enter Tryz.func36,Tryz.ntmps36
     go_wp2_with fail
     go_ret
     exact⟨by rw[HB.out];first | rfl | (simp_all;done),bel⟩
    have HB:=zh (show b=false by rw[hb];simp[h4])
    clear hb
    go_enter Tryz.func36,Tryz.ntmps36
    go_wp2_with fail
    go_ret
    exact⟨by rw[HB.out];first | rfl | (simp_all;done),bel⟩
   have HB:=zh (show b=false by rw[hb];simp[h3])
   clear hb
   go_enter Tryz.func36,Tryz.ntmps36
   go_wp2_with fail
   go_ret
   exact⟨by rw[HB.out];first | rfl | (simp_all;done),bel⟩
  have HB:=zh (show b=false by rw[hb];simp[h2])
  clear hb
  go_enter Tryz.func36,Tryz.ntmps36
  go_wp2_with fail
  go_ret
  exact⟨by rw[HB.out];first | rfl | (simp_all;done),bel⟩
 have HB:=zh (show b=false by rw[hb];simp[h1])
 clear hb
 go_enter Tryz.func36,Tryz.ntmps36
 go_wp2_with fail
 go_ret
 exact⟨by rw[HB.out];first | rfl | (simp_all;done),bel⟩
theorem ref_counted (fv pv iv cv vv:Value)(p:Pol)(now last:Int)(w:World) :
  Calls Tryz.prog 44 #[.agg #[fv,pv,.int .i64 p.tries,.int .i64 p.base,.int .i64 p.cap,iv,cv,vv,.int .i64 now,.int .i64 last]] w (RetB w (z4d now last)):=by
 obtain⟨b,hb⟩:∃ b,b=z4d now last:=⟨_,rfl⟩
 rw[<-hb]
 unfold z4d at hb
 by_cases h1:0<=now
 ·by_cases h2:now<=1073741824
  ·by_cases h3:0<=last
   ·by_cases h4:last<=1073741810
    ·have HB:=zh (show b=true by rw[hb];simp[h1,h2,h3,h4])
     clear hb
     go_enter Tryz.func44,Tryz.ntmps44
     go_wp2_with fail
     go_ret
     exact⟨by rw[HB.out];first | rfl | (simp_all;done),bel⟩
    have HB:=zh (show b=false by rw[hb];simp[h4])
    clear hb
    go_enter Tryz.func44,Tryz.ntmps44
    go_wp2_with fail
    go_ret
    exact⟨by rw[HB.out];first | rfl | (simp_all;done),bel⟩
   have HB:=zh (show b=false by rw[hb];simp[h3])
   clear hb
   go_enter Tryz.func44,Tryz.ntmps44
   go_wp2_with fail
   go_ret
   exact⟨by rw[HB.out];first | rfl | (simp_all;done),bel⟩
  have HB:=zh (show b=false by rw[hb];simp[h2])
  clear hb
  go_enter Tryz.func44,Tryz.ntmps44
  go_wp2_with fail
  go_ret
  exact⟨by rw[HB.out];first | rfl | (simp_all;done),bel⟩
 have HB:=zh (show b=false by rw[hb];simp[h1])
 clear hb
 go_enter Tryz.func44,Tryz.ntmps44
 go_wp2_with fail
 go_ret
 exact⟨by rw[HB.out];first | rfl | (simp_all;done),bel⟩
open Go.RowKit
structure Eng where (F:List Fld)(P:List Pag)(p:Pol)(ins:List Fct)(cs:List Cll)(vs:List Val)(now last:Int)
def noEng:Eng:=⟨[],[],⟨0,0,0⟩,[],[],[],0,0⟩
def z9n (p:Pol)(last:Int)(f:Fld)(c:Cll):Int :=
 if z07 c p≠0 then z07 c p else if c.state≠0/\(f.kind≠3\/last<c.id\/(c.state=2/\c.has.k≠f.type)) then 15 else 0
def z5d (F:List Fld)(p:Pol)(last:Int)(cs:List Cll)(i:Nat):Int:=match cs[i]? with
 | none=>0
 | some c=>match (F)[i]? with
  | none=>0
  | some f=>z9n p last f c
def z29 (F:List Fld)(p:Pol)(cs:List Cll)(vs:List Val)(last:Int):Int :=
 if cs.length≠F.length\/vs.length≠F.length then 1 else z0g (z5d F p last cs) cs.length
def z2k (g:Eng):Int :=
 if formErr g.F g.P≠0 then formErr g.F g.P else if gapCheck g.p≠0 then gapCheck g.p else if factsCheck g.F g.ins≠0 then factsCheck g.F g.ins
 else if z29 g.F g.p g.cs g.vs g.last≠0 then z29 g.F g.p g.cs g.vs g.last else if z4d g.now g.last=true then 0 else 4
def setE (g:Eng):Est:=setP g.F g.p g.ins g.now g.cs g.vs g.last g.F.length
def engErr (g:Eng):Int :=
 if z2k g≠0 then z2k g else if (setE g).ltrs=[]/\(setE g).calls=g.cs/\(setE g).vals=g.vs then 0 else 15
def toEng (g:Eng):Eng:={ g with cs:=(setE g).calls,vs:=(setE g).vals,last:=(setE g).last }
def becE (g:Eng)(more:List Ltr):Eng×List Ltr×Int :=
 if z4d g.now (setE g).last=true then (toEng g,more++(setE g).ltrs,0) else (noEng,[],4)
theorem zaw {F:List Fld}{p:Pol}{last:Int}{cs:List Cll}{i:Nat}{c:Cll}{f:Fld}(h:cs[i]?=some c)(hf:(F)[i]?=some f):z5d F p last cs i=z9n p last f c:=by
 unfold z5d;rw[h];simp only[hf]
theorem zft {g:Eng}(h:z2k g=0):formErr g.F g.P=0/\gapCheck g.p=0/\factsCheck g.F g.ins=0/\z29 g.F g.p g.cs g.vs g.last=0/\z4d g.now g.last=true:=by
 unfold z2k at h
 by_cases h1:formErr g.F g.P=0
 ·rw[if_neg (by simpa using h1)] at h
  by_cases h2:gapCheck g.p=0
  ·rw[if_neg (by simpa using h2)] at h
   by_cases h3:factsCheck g.F g.ins=0
   ·rw[if_neg (by simpa using h3)] at h
    by_cases h4:z29 g.F g.p g.cs g.vs g.last=0
    ·rw[if_neg (by simpa using h4)] at h
     by_cases h5:z4d g.now g.last=true
     ·exact⟨h1,h2,h3,h4,h5⟩
     rw[if_neg h5] at h;cases h
    rw[if_pos h4] at h;exact absurd h h4
   rw[if_pos h3] at h;exact absurd h h3
  rw[if_pos h2] at h;exact absurd h h2
 rw[if_pos h1] at h;exact absurd h h1
theorem callsErr_zero {F:List Fld}{p:Pol}{cs:List Cll}{vs:List Val}{last:Int}(h:z29 F p cs vs last=0):cs.length=F.length/\vs.length=F.length/\∀ c∈cs,z07 c p=0:=by
 unfold z29 at h
 by_cases h1:cs.length≠F.length\/vs.length≠F.length
 ·rw[if_pos h1] at h;cases h
 rw[if_neg h1] at h
 have h2:cs.length=F.length:=by omega
 refine⟨h2,by omega,fun c hc=>?_⟩
 obtain⟨i,hi,rfl⟩:=List.mem_iff_getElem.1 hc
 have h3:=z1n h i hi
 rw[zaw (gq hi) (gq (by omega))] at h3
 unfold z9n at h3
 by_cases h4:z07 cs[i] p=0
 ·exact h4
 rw[if_pos h4] at h3;exact h3
theorem numsOk_iff {now last:Int}:z4d now last=true↔0<=now/\now<=1073741824/\0<=last/\last<=1073741810:=by
 unfold z4d;simp only[Bool.and_eq_true,decide_eq_true_eq]
theorem form14 {F:List Fld}{P:List Pag}(h:formErr F P=0):F.length<=14:=(z0h (z13 (zaz h)).1).1
theorem set_ok_of {F:List Fld}{P:List Pag}{p:Pol}{ins:List Fct}{cs:List Cll}{now last:Int}(h1:formErr F P=0)(h2:factsCheck F ins=0)(h3:z4d now last=true)(h4:cs.length=F.length)(h5:∀ c∈cs,z07 c p=0):SetOk F p ins now cs last:=by
 obtain⟨n1,n2,n3,n4⟩:=numsOk_iff.1 h3
 have hr:=zaz h1
 have h14:=form14 h1
 exact⟨⟨hr,fields_ok (z13 hr).1,zdn h2,fun x hx=>absurd hx List.not_mem_nil⟩,⟨n1,n2⟩,⟨n3,by omega⟩,h4,h5⟩
theorem zf1 {g:Eng}(h:z2k g=0):SetOk g.F g.p g.ins g.now g.cs g.last/\g.vs.length=g.F.length:=by
 obtain⟨h1,_,h3,h4,h5⟩:=zft h
 obtain⟨c1,c2,c3⟩:=callsErr_zero h4
 exact⟨set_ok_of h1 h3 h5 c1 c3,c2⟩
open Go.RowKit
def REn (w:World)(B:Option Addr)(m d:Nat)(F:List Fld)(A:Option Addr)(n c:Nat)(P:List Pag)(A1:Option Addr)(n1 c1:Nat)(ins:List Fct)(A2:Option Addr)(n2 c2:Nat)(cs:List Cll)(A3:Option Addr)(n3 c3:Nat)(vs:List Val):Prop :=
 RFo w B m d F A n c P/\(inB 80 n1/\n1<=c1/\Sl w (old w) 7 RFct A1 n1 ins)/\(inB 96 n2/\n2<=c2/\Sl w (old w) 10 RCll A2 n2 cs)/\inB 32 n3/\n3<=c3/\Sl w (old w) 3 RVal A3 n3 vs
theorem REn.now {w w':World}{B A A1 A2 A3:Option Addr}{m d n c n1 c1 n2 c2 n3 c3:Nat}{F:List Fld}{P:List Pag}{ins:List Fct}{cs:List Cll}{vs:List Val}(h:REn w B m d F A n c P A1 n1 c1 ins A2 n2 c2 cs A3 n3 c3 vs)(hb:Below w.heap.size w w') :
  REn w' B m d F A n c P A1 n1 c1 ins A2 n2 c2 cs A3 n3 c3 vs :=
 ⟨h.1.now hb,⟨h.2.1.1,h.2.1.2.1,h.2.1.2.2.now hb⟩,⟨h.2.2.1.1,h.2.2.1.2.1,h.2.2.1.2.2.now hb⟩,h.2.2.2.1,h.2.2.2.2.1,h.2.2.2.2.2.now hb⟩
theorem z4p {w:World}{base:Nat}{e:TypeId}{size:Nat}{v:Value}{n:Nat}{xs:List Value}(h:w.ownsRow base e size v n xs):∃ A c,v=.slice A n c/\n<=c:=by
 rcases h.2 with ⟨rfl,rfl⟩ | ⟨g,cap,cur,rfl,_,_,h,_⟩
 ·exact⟨none,0,rfl,nr _⟩
 exact⟨_,cap,rfl,h⟩
def z2u (a b:Nat):Nat -> Prop:=fun k=>a<=k/\k<b
def CopE (w:World)(F:List Fld)(P:List Pag)(_:Pol)(ins:List Fct)(cs:List Cll)(vs:List Val)(_ _:Int)(w':World)(A5:Option Addr)(c5:Nat)(A6:Option Addr)(c6:Nat)(A7:Option Addr)(c7:Nat)(A8:Option Addr)(c8:Nat)(A9:Option Addr)(c9:Nat)(N0 N1 N2:Nat):Prop :=
 F.length<=c5/\P.length<=c6/\ins.length<=c7/\cs.length<=c8/\vs.length<=c9/\Sl w' (z2u w.heap.size N0) 9 (RFld w' (z2u w.heap.size N0)) A5 F.length F/\Sl w' (z2u w.heap.size N0) 8 (RPag w' (z2u w.heap.size N0)) A6 P.length P /\
 w'.ownsRow N0 72 7 (.slice A7 ins.length c7) ins.length (ins.flatMap Fct.cs)/\w'.ownsRow N1 62 10 (.slice A8 cs.length c8) cs.length (cs.flatMap Cll.cs)/\w'.ownsRow N2 44 3 (.slice A9 vs.length c9) vs.length (vs.flatMap Val.cs) /\
 (∀ q,(Value.slice A7 ins.length c7).ownBlock=some q->q<N1)/\(∀ q,(Value.slice A8 cs.length c8).ownBlock=some q->q<N2)/\w.heap.size<=N0/\N0<=N1/\N1<=N2/\N2<=w'.heap.size
def RetCop (w:World)(F:List Fld)(P:List Pag)(p:Pol)(ins:List Fct)(cs:List Cll)(vs:List Val)(now last:Int)(e:Ending)(w':World):Prop :=
 ∃ A5 c5 A6 c6 A7 c7 A8 c8 A9 c9 N0 N1 N2,e=.returned (.agg #[.slice A5 F.length c5,.slice A6 P.length c6,.int .i64 p.tries,.int .i64 p.base,.int .i64 p.cap,.slice A7 ins.length c7,.slice A8 cs.length c8,.slice A9 vs.length c9,.int .i64 now,.int .i64 last])/\CopE w F P p ins cs vs now last w' A5 c5 A6 c6 A7 c7 A8 c8 A9 c9 N0 N1 N2/\Below w.heap.size w w'
theorem engine_Copy (B:Option Addr)(m d:Nat)(F:List Fld)(A:Option Addr)(n c:Nat)(P:List Pag)(p:Pol)(A1:Option Addr)(n1 c1:Nat)(ins:List Fct)(A2:Option Addr)(n2 c2:Nat)(cs:List Cll)(A3:Option Addr)(n3 c3:Nat)(vs:List Val)(now last:Int)(w:World)
  (hX:REn w B m d F A n c P A1 n1 c1 ins A2 n2 c2 cs A3 n3 c3 vs) :
  Calls Tryz.prog 13 #[.agg #[.slice B m d,.slice A n c,.int .i64 p.tries,.int .i64 p.base,.int .i64 p.cap,.slice A1 n1 c1,.slice A2 n2 c2,.slice A3 n3 c3,.int .i64 now,.int .i64 last]] w (RetCop w F P p ins cs vs now last):=by
 have h1:=fun w (h:RFo w B m d F A n c P)=>zfl B m d F A n c P w h
 have h2:=fun w h=>clone_Fct A1 n1 c1 ins w hX.2.1.1 h
 have h3:=fun w h=>clone_Cll A2 n2 c2 cs w hX.2.2.1.1 h
 have h4:=fun w h=>clone_Val A3 n3 c3 vs w hX.2.2.2.1 h
 have HX:=zh hX
 clear hX
 go_enter Tryz.func13,Tryz.ntmps13
 go_upto_region 2 with (go_at_call 24;refine (h1 _ (HX.out.1.now bel)).mono ?_;rintro e w1 ⟨A5,c5,A6,c6,rfl,hq5,hq6,hs5,hs6,hb1⟩;refine zb hb1 ?_;rintro ⟨hc1,hf1⟩ hz1 hy1 hx1;refine szz w1 w ?_;intros)
 refine z0k ?_;intro W0 hW0
 obtain⟨y0,hy0⟩:∃ y,y=W0.drew:=⟨_,rfl⟩
 have hB0:Below w.heap.size w W0:=by rw[hW0];exact bel
 have hZ0:W0.heap.size=w1.heap.size:=by rw[hW0];simp
 have hlw:w.heap.size+1<w1.heap.size:=by have:=hb1.size;simp at this;omega
 have hs5':Sl W0 (z2u (w.heap.size+2) W0.heap.size) 9 (RFld W0 (z2u (w.heap.size+2) W0.heap.size)) A5 F.length F:=hs5.keepN z02 (fun b hb=>by
  have h9:=hb.1;have h8:=hb.2;simp at h9
  exact⟨⟨by omega,by omega⟩,by rw[hW0];iterate 2 rw[heap_setCell_other _ _ _ _ (by simp;omega)]⟩)
 have hs6':Sl W0 (z2u (w.heap.size+2) W0.heap.size) 8 (RPag W0 (z2u (w.heap.size+2) W0.heap.size)) A6 P.length P:=hs6.keepN z0d (fun b hb=>by
  have h9:=hb.1;have h8:=hb.2;simp at h9
  exact⟨⟨by omega,by omega⟩,by rw[hW0];iterate 2 rw[heap_setCell_other _ _ _ _ (by simp;omega)]⟩)
 have b0:W0.cell? ⟨w.heap.size,0,none⟩=some (.slice A5 F.length c5):=by rw[hW0];exact (by first | (go_simp;done) | (go_simp;exact World.cell?_setCell_same' _ _ _ (by go_simp)))
 have b1:W0.cell? ⟨w.heap.size,1,none⟩=some (.slice A6 P.length c6):=by rw[hW0];exact (by first | (go_simp;done) | (go_simp;exact World.cell?_setCell_same' _ _ _ (by go_simp)))
 have b2:W0.cell? ⟨w.heap.size,2,none⟩=some (.int .i64 p.tries):=by rw[hW0];exact (by first | (go_simp;done) | (go_simp;exact World.cell?_setCell_same' _ _ _ (by go_simp)))
 have b3:W0.cell? ⟨w.heap.size,3,none⟩=some (.int .i64 p.base):=by rw[hW0];exact (by first | (go_simp;done) | (go_simp;exact World.cell?_setCell_same' _ _ _ (by go_simp)))
 have b4:W0.cell? ⟨w.heap.size,4,none⟩=some (.int .i64 p.cap):=by rw[hW0];exact (by first | (go_simp;done) | (go_simp;exact World.cell?_setCell_same' _ _ _ (by go_simp)))
 have b5:W0.cell? ⟨w.heap.size,5,none⟩=some (.slice A1 n1 c1):=by rw[hW0];exact (by first | (go_simp;done) | (go_simp;exact World.cell?_setCell_same' _ _ _ (by go_simp)))
 have b6:W0.cell? ⟨w.heap.size,6,none⟩=some (.slice A2 n2 c2):=by rw[hW0];exact (by first | (go_simp;done) | (go_simp;exact World.cell?_setCell_same' _ _ _ (by go_simp)))
 have b7:W0.cell? ⟨w.heap.size,7,none⟩=some (.slice A3 n3 c3):=by rw[hW0];exact (by first | (go_simp;done) | (go_simp;exact World.cell?_setCell_same' _ _ _ (by go_simp)))
 have b8:W0.cell? ⟨w.heap.size,8,none⟩=some (.int .i64 now):=by rw[hW0];exact (by first | (go_simp;done) | (go_simp;exact World.cell?_setCell_same' _ _ _ (by go_simp)))
 have b9:W0.cell? ⟨w.heap.size,9,none⟩=some (.int .i64 last):=by rw[hW0];exact (by first | (go_simp;done) | (go_simp;exact World.cell?_setCell_same' _ _ _ (by go_simp)))
 have f5:W0.frozen? ⟨w.heap.size,5,none⟩=false:=by rw[hW0];go_simp
 have f6:W0.frozen? ⟨w.heap.size,6,none⟩=false:=by rw[hW0];go_simp
 have f7:W0.frozen? ⟨w.heap.size,7,none⟩=false:=by rw[hW0];go_simp
 have q0:W0.cell? ⟨w.heap.size+1,0,none⟩=some (.slice none 0 0):=by rw[hW0];go_simp
 have q1:W0.cell? ⟨w.heap.size+1,1,none⟩=some (.slice none 0 0):=by rw[hW0];go_simp
 have q2:W0.cell? ⟨w.heap.size+1,2,none⟩=some (.int .i64 0):=by rw[hW0];go_simp
 have q3:W0.cell? ⟨w.heap.size+1,3,none⟩=some (.int .i64 0):=by rw[hW0];go_simp
 have q4:W0.cell? ⟨w.heap.size+1,4,none⟩=some (.int .i64 0):=by rw[hW0];go_simp
 have q5:W0.cell? ⟨w.heap.size+1,5,none⟩=some (.slice none 0 0):=by rw[hW0];go_simp
 have q6:W0.cell? ⟨w.heap.size+1,6,none⟩=some (.slice none 0 0):=by rw[hW0];go_simp
 have q7:W0.cell? ⟨w.heap.size+1,7,none⟩=some (.slice none 0 0):=by rw[hW0];go_simp
 have q8:W0.cell? ⟨w.heap.size+1,8,none⟩=some (.int .i64 0):=by rw[hW0];go_simp
 have q9:W0.cell? ⟨w.heap.size+1,9,none⟩=some (.int .i64 0):=by rw[hW0];go_simp
 have r0:W0.frozen? ⟨w.heap.size+1,0,none⟩=false:=by rw[hW0];go_simp
 have r1:W0.frozen? ⟨w.heap.size+1,1,none⟩=false:=by rw[hW0];go_simp
 have r2:W0.frozen? ⟨w.heap.size+1,2,none⟩=false:=by rw[hW0];go_simp
 have r3:W0.frozen? ⟨w.heap.size+1,3,none⟩=false:=by rw[hW0];go_simp
 have r4:W0.frozen? ⟨w.heap.size+1,4,none⟩=false:=by rw[hW0];go_simp
 have r5:W0.frozen? ⟨w.heap.size+1,5,none⟩=false:=by rw[hW0];go_simp
 have r6:W0.frozen? ⟨w.heap.size+1,6,none⟩=false:=by rw[hW0];go_simp
 have r7:W0.frozen? ⟨w.heap.size+1,7,none⟩=false:=by rw[hW0];go_simp
 have r8:W0.frozen? ⟨w.heap.size+1,8,none⟩=false:=by rw[hW0];go_simp
 have r9:W0.frozen? ⟨w.heap.size+1,9,none⟩=false:=by rw[hW0];go_simp
 have hY0:Below W0.heap.size W0 y0:=by rw[hy0];exact (Below.refl _ _).drew
 have HSS:=zh (show ∀ y:World,Below W0.heap.size W0 y->(y.cell? ⟨w.heap.size,5,none⟩=some (.slice A1 n1 c1)/\(y.cell? ⟨w.heap.size,6,none⟩=some (.slice A2 n2 c2)/\y.cell? ⟨w.heap.size,7,none⟩=some (.slice A3 n3 c3))) from fun y h=>⟨z00 b5 h,z00 b6 h,z00 b7 h⟩)
 have hS0:=HSS.out y0 hY0
 have HS:=zh (ai hs5' (ai hs6' (ai hq5 hq6)))
 have hl0:w.heap.size+1<W0.heap.size:=by omega
 refine z0r (fun w'=>w'.cell? ⟨w.heap.size,5,none⟩=some (.slice A1 n1 c1)/\(w'.cell? ⟨w.heap.size,6,none⟩=some (.slice A2 n2 c2)/\w'.cell? ⟨w.heap.size,7,none⟩=some (.slice A3 n3 c3))) 10 (by kernel_rfl) ?_
 rw[<-hy0]
 clear hy0 hW0 hs5 hs6 hs5' hs6' hq5 hq6 hb1 hc1 hf1 h1
 refine zt 0 hS0 ?_
 simp only[Act.put,pq]
 refine zt 1 hS0 ?_
 simp only[Act.put,pq]
 refine zt 3 hS0 ?_
 simp only[Act.put,pq]
 refine zt 4 hS0 ?_
 simp only[Act.put,pq]
 refine zt 6 hS0 ?_
 simp only[Act.put,pq]
 refine zt 7 hS0 ?_
 simp only[Act.put,pq]
 refine z06 (i:=2) (o:=_) rfl (by kernel_rfl) (fun K hK=>?_)
 go_simp
 go_at_call 39;refine (h2 _ (HX.out.2.1.2.2.now (z01 hB0 hY0 hB0.size))).mono ?_;rintro e y1 ⟨v1,rfl,ho1,hb1⟩
 obtain⟨A7,c7,rfl,hq7⟩:=z4p ho1
 have hY1:=z01 hY0 hb1 hY0.size
 have hS1:=HSS.out y1 hY1
 refine hK.out _ _ (fun _=>hS1) ?_
 clear hK K
 try simp only[Act.put,pq]
 refine zt 9 hS1 ?_
 simp only[Act.put,pq]
 refine z06 (i:=5) (o:=_) rfl (by kernel_rfl) (fun K hK=>?_)
 go_simp
 go_at_call 40;refine (h3 _ (HX.out.2.2.1.2.2.now (z01 hB0 hY1 hB0.size))).mono ?_;rintro e y2 ⟨v2,rfl,ho2,hb2⟩
 obtain⟨A8,c8,rfl,hq8⟩:=z4p ho2
 have hY2:=z01 hY1 hb2 hY1.size
 have hS2:=HSS.out y2 hY2
 refine hK.out _ _ (fun _=>hS2) ?_
 clear hK K
 try simp only[Act.put,pq]
 refine z06 (i:=8) (o:=_) rfl (by kernel_rfl) (fun K hK=>?_)
 go_simp
 go_at_call 41;refine (h4 _ (HX.out.2.2.2.2.2.now (z01 hB0 hY2 hB0.size))).mono ?_;rintro e y3 ⟨v3,rfl,ho3,hb3⟩
 obtain⟨A9,c9,rfl,hq9⟩:=z4p ho3
 have hY3:=z01 hY2 hb3 hY2.size
 have hS3:=HSS.out y3 hY3
 refine hK.out _ _ (fun _=>hS3) ?_
 clear hK K
 try simp only[Act.put,pq]
 have hz3:=hY3.size
 have hl3:w.heap.size+1<y3.heap.size:=by omega
 have hl3':w.heap.size<y3.heap.size:=by omega
 replace b0:=z00 b0 hY3
 replace b1:=z00 b1 hY3
 replace b2:=z00 b2 hY3
 replace b3:=z00 b3 hY3
 replace b4:=z00 b4 hY3
 replace b5:=z00 b5 hY3
 replace b6:=z00 b6 hY3
 replace b7:=z00 b7 hY3
 replace b8:=z00 b8 hY3
 replace b9:=z00 b9 hY3
 replace f5:=(hY3.frozen (p:=⟨w.heap.size,5,none⟩) (by show w.heap.size<_;omega)).trans f5
 replace f6:=(hY3.frozen (p:=⟨w.heap.size,6,none⟩) (by show w.heap.size<_;omega)).trans f6
 replace f7:=(hY3.frozen (p:=⟨w.heap.size,7,none⟩) (by show w.heap.size<_;omega)).trans f7
 replace q0:=z00 q0 hY3
 replace q1:=z00 q1 hY3
 replace q2:=z00 q2 hY3
 replace q3:=z00 q3 hY3
 replace q4:=z00 q4 hY3
 replace q5:=z00 q5 hY3
 replace q6:=z00 q6 hY3
 replace q7:=z00 q7 hY3
 replace q8:=z00 q8 hY3
 replace q9:=z00 q9 hY3
 replace r0:=(hY3.frozen (p:=⟨w.heap.size+1,0,none⟩) (by show w.heap.size+1<_;omega)).trans r0
 replace r1:=(hY3.frozen (p:=⟨w.heap.size+1,1,none⟩) (by show w.heap.size+1<_;omega)).trans r1
 replace r2:=(hY3.frozen (p:=⟨w.heap.size+1,2,none⟩) (by show w.heap.size+1<_;omega)).trans r2
 replace r3:=(hY3.frozen (p:=⟨w.heap.size+1,3,none⟩) (by show w.heap.size+1<_;omega)).trans r3
 replace r4:=(hY3.frozen (p:=⟨w.heap.size+1,4,none⟩) (by show w.heap.size+1<_;omega)).trans r4
 replace r5:=(hY3.frozen (p:=⟨w.heap.size+1,5,none⟩) (by show w.heap.size+1<_;omega)).trans r5
 replace r6:=(hY3.frozen (p:=⟨w.heap.size+1,6,none⟩) (by show w.heap.size+1<_;omega)).trans r6
 replace r7:=(hY3.frozen (p:=⟨w.heap.size+1,7,none⟩) (by show w.heap.size+1<_;omega)).trans r7
 replace r8:=(hY3.frozen (p:=⟨w.heap.size+1,8,none⟩) (by show w.heap.size+1<_;omega)).trans r8
 replace r9:=(hY3.frozen (p:=⟨w.heap.size+1,9,none⟩) (by show w.heap.size+1<_;omega)).trans r9
 refine z06 (i:=10) (o:=_) rfl (by kernel_rfl) (fun K hK=>?_)
 go_simp
 refine hK.out _ _ (fun h=>absurd h (by decide)) ?_
 clear hK K
 try simp only[Act.put,pq]
 refine z06 (i:=11) (o:=_) rfl (by kernel_rfl) (fun K hK=>?_)
 go_simp
 refine hK.out _ _ (fun h=>absurd h (by decide)) ?_
 clear hK K
 try simp only[Act.put,pq]
 refine z06 (i:=12) (o:=_) rfl (by kernel_rfl) (fun K hK=>?_)
 go_simp
 refine hK.out _ _ (fun h=>absurd h (by decide)) ?_
 clear hK K
 try simp only[Act.put,pq]
 refine z06 (i:=13) (o:=_) rfl (by kernel_rfl) (fun K hK=>?_)
 go_simp
 refine hK.out _ _ (fun h=>absurd h (by decide)) ?_
 clear hK K
 try simp only[Act.put,pq]
 refine z06 (i:=14) (o:=_) rfl (by kernel_rfl) (fun K hK=>?_)
 go_simp
 refine hK.out _ _ (fun h=>absurd h (by decide)) ?_
 clear hK K
 try simp only[Act.put,pq]
 refine z0f (by kernel_rfl) ?_ _
 try simp only[Act.put,pq]
 have h01:=hY0.size
 have h12:=hb1.size
 have h23:=hb2.size
 have h34:=hb3.size
 go_wp2_with fail
 refine bpr Tryz.results13 (.agg #[.slice A5 F.length c5,.slice A6 P.length c6,.int .i64 p.tries,.int .i64 p.base,.int .i64 p.cap,.slice A7 ins.length c7,.slice A8 cs.length c8,.slice A9 vs.length c9,.int .i64 now,.int .i64 last]) ?_
 refine⟨A5,c5,A6,c6,A7,c7,A8,c8,A9,c9,W0.heap.size,y1.heap.size,y2.heap.size,rfl,?_,?_⟩
 ·generalize hW9:World.setCell _ _ _=W9
  have hk:∀ b:Nat,w.heap.size+2<=b->W9.heap[b]?=y3.heap[b]?:=fun b hb=>by
   rw[<-hW9]
   iterate 13 rw[Below.heap_setCell _ _ _ _ (by simp only[ne_eq];omega)]
  have hz9:W9.heap.size=y3.heap.size:=by rw[<-hW9];simp
  have hkw:∀ b:Nat,w.heap.size+2<=b->b<W0.heap.size->W9.heap[b]?=W0.heap[b]?:=fun b hb h=>(hk b hb).trans (hY3.block b h)
  refine⟨HS.out.2.2.1,HS.out.2.2.2,hq7,hq8,hq9,HS.out.1.keepN z02 (fun b hb=>⟨⟨by have:=hb.1;omega,hb.2⟩,hkw b hb.1 hb.2⟩),HS.out.2.1.keepN z0d (fun b hb=>⟨⟨by have:=hb.1;omega,hb.2⟩,hkw b hb.1 hb.2⟩),?_,?_,?_,fun q hq=>(ho1.lt q hq).2,fun q hq=>(ho2.lt q hq).2,by omega,by omega,by omega,by omega⟩
  ·refine z09 (z04 (z04 (z0c ho1 (by omega)) hb2) hb3) (fun q hq _=>hk q (by have:=(ho1.lt q hq).1;omega))
  ·refine z09 (z04 ho2 hb3) (fun q hq _=>hk q (by have:=(ho2.lt q hq).1;omega))
  refine z09 ho3 (fun q hq _=>hk q (by have:=(ho3.lt q hq).1;omega))
 have hBE:Below w.heap.size w y3:=z01 hB0 hY3 hB0.size
 iterate 13 refine z03 ?_ (by simp)
 exact hBE
end Go.Proofs.YtldhlpjjcnlbcaaGreat
