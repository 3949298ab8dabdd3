/- Texts merged (mergeh.py): DecX EngX. -/
import Derived.Test.YtldhlpjjcnlbcaaGreatOpen
import Derived.Test.YtldhlpjjcnlbcaaGreatRowV
import Derived.Test.YtldhlpjjcnlbcaaGreatEng5
/- More readings: policies, calls, letters, timers, events. -/
set_option maxRecDepth 100000
set_option maxHeartbeats 8000000
namespace Go.Proofs.YtldhlpjjcnlbcaaGreat
open Go.ChangeShapes Go.WideShapes Go.ChangeAt Go.RowKit
theorem cells_Pol:Tryz.prog.cellsOf 27=3:=by kernel_rfl
theorem dec_Pol:Dec 27 (fun _=>RPol) (fun _=>1):=by
 intro H enc w fuel cs x h hw
 obtain⟨xs,n,hfu,hlen,hl,hb,hf⟩:=z2e Tryz.underlying27 h hw
 rw[cells_Pol] at hl
 match cs,hl with
 | [c0,c1,c2],_ =>
  match xs,hlen with
  | [y0,y1,y2],_ =>
   obtain⟨z0,e0,g0,q0⟩:=hf 0 _ rfl
   cases e0
   change DataW.trod enc Tryz.prog w 0 (fun _=>true) true n 3 (List.take (Tryz.prog.cellsOf 3) [c0,c1,c2])=some y0 at g0
   rw[z26] at g0
   change DataW.trod enc Tryz.prog w 0 (fun _=>true) true n 3 [c0]=some y0 at g0
   obtain⟨a0,⟨r0,i0⟩,m0⟩:=z3x Tryz.underlying3 g0 q0
   simp only[List.cons.injEq,and_true] at r0
   subst r0
   obtain⟨z1,e1,g1,q1⟩:=hf 1 _ rfl
   cases e1
   change DataW.trod enc Tryz.prog w 0 (fun _=>true) true n 3 (List.take (Tryz.prog.cellsOf 3) [c1,c2])=some y1 at g1
   rw[z26] at g1
   change DataW.trod enc Tryz.prog w 0 (fun _=>true) true n 3 [c1]=some y1 at g1
   obtain⟨a1,⟨r1,i1⟩,m1⟩:=z3x Tryz.underlying3 g1 q1
   simp only[List.cons.injEq,and_true] at r1
   subst r1
   obtain⟨z2,e2,g2,q2⟩:=hf 2 _ rfl
   cases e2
   change DataW.trod enc Tryz.prog w 0 (fun _=>true) true n 3 (List.take (Tryz.prog.cellsOf 3) [c2])=some y2 at g2
   rw[z26] at g2
   change DataW.trod enc Tryz.prog w 0 (fun _=>true) true n 3 [c2]=some y2 at g2
   obtain⟨a2,⟨r2,i2⟩,m2⟩:=z3x Tryz.underlying3 g2 q2
   simp only[List.cons.injEq,and_true] at r2
   subst r2
   simp only[List.map_cons,List.map_nil,List.sum_cons,List.sum_nil] at hb
   exact⟨⟨a0,a1,a2⟩,⟨rfl,i0,i1,i2⟩,by simp only[] at *;omega⟩
theorem cells_Cll:Tryz.prog.cellsOf 62=10:=by kernel_rfl
theorem dec_Cll:Dec 62 (fun _=>RCll) (fun v=>v.key.s.size+v.has.s.size+1):=by
 intro H enc w fuel cs x h hw
 obtain⟨xs,n,hfu,hlen,hl,hb,hf⟩:=z2e Tryz.underlying62 h hw
 rw[cells_Cll] at hl
 match cs,hl with
 | [c0,c1,c2,c3,c4,c5,c6,c7,c8,c9],_ =>
  match xs,hlen with
  | [y0,y1,y2,y3,y4,y5],_ =>
   obtain⟨z0,e0,g0,q0⟩:=hf 0 _ rfl
   cases e0
   change DataW.trod enc Tryz.prog w 0 (fun _=>true) true n 3 (List.take (Tryz.prog.cellsOf 3) [c0,c1,c2,c3,c4,c5,c6,c7,c8,c9])=some y0 at g0
   rw[z26] at g0
   change DataW.trod enc Tryz.prog w 0 (fun _=>true) true n 3 [c0]=some y0 at g0
   obtain⟨a0,⟨r0,i0⟩,m0⟩:=z3x Tryz.underlying3 g0 q0
   simp only[List.cons.injEq,and_true] at r0
   subst r0
   obtain⟨z1,e1,g1,q1⟩:=hf 1 _ rfl
   cases e1
   change DataW.trod enc Tryz.prog w 0 (fun _=>true) true n 3 (List.take (Tryz.prog.cellsOf 3) [c1,c2,c3,c4,c5,c6,c7,c8,c9])=some y1 at g1
   rw[z26] at g1
   change DataW.trod enc Tryz.prog w 0 (fun _=>true) true n 3 [c1]=some y1 at g1
   obtain⟨a1,⟨r1,i1⟩,m1⟩:=z3x Tryz.underlying3 g1 q1
   simp only[List.cons.injEq,and_true] at r1
   subst r1
   obtain⟨z2,e2,g2,q2⟩:=hf 2 _ rfl
   cases e2
   change DataW.trod enc Tryz.prog w 0 (fun _=>true) true n 3 (List.take (Tryz.prog.cellsOf 3) [c2,c3,c4,c5,c6,c7,c8,c9])=some y2 at g2
   rw[z26] at g2
   change DataW.trod enc Tryz.prog w 0 (fun _=>true) true n 3 [c2]=some y2 at g2
   obtain⟨a2,⟨r2,i2⟩,m2⟩:=z3x Tryz.underlying3 g2 q2
   simp only[List.cons.injEq,and_true] at r2
   subst r2
   obtain⟨z3,e3,g3,q3⟩:=hf 3 _ rfl
   cases e3
   change DataW.trod enc Tryz.prog w 0 (fun _=>true) true n 44 (List.take (Tryz.prog.cellsOf 44) [c3,c4,c5,c6,c7,c8,c9])=some y3 at g3
   rw[z4w] at g3
   change DataW.trod enc Tryz.prog w 0 (fun _=>true) true n 44 [c3,c4,c5]=some y3 at g3
   obtain⟨a3,⟨r3,i3⟩,m3⟩:=z8x g3 q3
   simp only[List.cons.injEq,and_true] at r3
   obtain⟨rfl,rfl,rfl⟩:=r3
   obtain⟨z4,e4,g4,q4⟩:=hf 4 _ rfl
   cases e4
   change DataW.trod enc Tryz.prog w 0 (fun _=>true) true n 44 (List.take (Tryz.prog.cellsOf 44) [c6,c7,c8,c9])=some y4 at g4
   rw[z4w] at g4
   change DataW.trod enc Tryz.prog w 0 (fun _=>true) true n 44 [c6,c7,c8]=some y4 at g4
   obtain⟨a4,⟨r4,i4⟩,m4⟩:=z8x g4 q4
   simp only[List.cons.injEq,and_true] at r4
   obtain⟨rfl,rfl,rfl⟩:=r4
   obtain⟨z5,e5,g5,q5⟩:=hf 5 _ rfl
   cases e5
   change DataW.trod enc Tryz.prog w 0 (fun _=>true) true n 3 (List.take (Tryz.prog.cellsOf 3) [c9])=some y5 at g5
   rw[z26] at g5
   change DataW.trod enc Tryz.prog w 0 (fun _=>true) true n 3 [c9]=some y5 at g5
   obtain⟨a5,⟨r5,i5⟩,m5⟩:=z3x Tryz.underlying3 g5 q5
   simp only[List.cons.injEq,and_true] at r5
   subst r5
   simp only[List.map_cons,List.map_nil,List.sum_cons,List.sum_nil] at hb
   exact⟨⟨a0,a1,a2,a3,a4,a5⟩,⟨rfl,i0,i1,i2,i3,i4,i5⟩,by simp only[] at *;omega⟩
theorem cells_Ltr:Tryz.prog.cellsOf 48=8:=by kernel_rfl
theorem dec_Ltr:Dec 48 (fun _=>RLtr) (fun v=>v.field.size+v.key.s.size+v.answer.s.size+1):=by
 intro H enc w fuel cs x h hw
 obtain⟨xs,n,hfu,hlen,hl,hb,hf⟩:=z2e Tryz.underlying48 h hw
 rw[cells_Ltr] at hl
 match cs,hl with
 | [c0,c1,c2,c3,c4,c5,c6,c7],_ =>
  match xs,hlen with
  | [y0,y1,y2,y3],_ =>
   obtain⟨z0,e0,g0,q0⟩:=hf 0 _ rfl
   cases e0
   change DataW.trod enc Tryz.prog w 0 (fun _=>true) true n 9 (List.take (Tryz.prog.cellsOf 9) [c0,c1,c2,c3,c4,c5,c6,c7])=some y0 at g0
   rw[z4b] at g0
   change DataW.trod enc Tryz.prog w 0 (fun _=>true) true n 9 [c0]=some y0 at g0
   obtain⟨a0,⟨r0,i0⟩,m0⟩:=zav Tryz.underlying9 g0 q0
   simp only[List.cons.injEq,and_true] at r0
   subst r0
   obtain⟨z1,e1,g1,q1⟩:=hf 1 _ rfl
   cases e1
   change DataW.trod enc Tryz.prog w 0 (fun _=>true) true n 3 (List.take (Tryz.prog.cellsOf 3) [c1,c2,c3,c4,c5,c6,c7])=some y1 at g1
   rw[z26] at g1
   change DataW.trod enc Tryz.prog w 0 (fun _=>true) true n 3 [c1]=some y1 at g1
   obtain⟨a1,⟨r1,i1⟩,m1⟩:=z3x Tryz.underlying3 g1 q1
   simp only[List.cons.injEq,and_true] at r1
   subst r1
   obtain⟨z2,e2,g2,q2⟩:=hf 2 _ rfl
   cases e2
   change DataW.trod enc Tryz.prog w 0 (fun _=>true) true n 44 (List.take (Tryz.prog.cellsOf 44) [c2,c3,c4,c5,c6,c7])=some y2 at g2
   rw[z4w] at g2
   change DataW.trod enc Tryz.prog w 0 (fun _=>true) true n 44 [c2,c3,c4]=some y2 at g2
   obtain⟨a2,⟨r2,i2⟩,m2⟩:=z8x g2 q2
   simp only[List.cons.injEq,and_true] at r2
   obtain⟨rfl,rfl,rfl⟩:=r2
   obtain⟨z3,e3,g3,q3⟩:=hf 3 _ rfl
   cases e3
   change DataW.trod enc Tryz.prog w 0 (fun _=>true) true n 44 (List.take (Tryz.prog.cellsOf 44) [c5,c6,c7])=some y3 at g3
   rw[z4w] at g3
   change DataW.trod enc Tryz.prog w 0 (fun _=>true) true n 44 [c5,c6,c7]=some y3 at g3
   obtain⟨a3,⟨r3,i3⟩,m3⟩:=z8x g3 q3
   simp only[List.cons.injEq,and_true] at r3
   obtain⟨rfl,rfl,rfl⟩:=r3
   simp only[List.map_cons,List.map_nil,List.sum_cons,List.sum_nil] at hb
   exact⟨⟨a0,a1,a2,a3⟩,⟨rfl,i0,i1,i2,i3⟩,by simp only[] at *;omega⟩
theorem bytes_Cll:Tryz.prog.bytesOf 62=96:=by kernel_rfl
theorem dec_Clls:Dec 29 (fun w=>RSl 10 96 (fun _ _=>RCll) w (old w)) (fun l=>(l.map fun v:Cll=>v.key.s.size+v.has.s.size+1).sum+1) :=
 zaf (R:=fun _ _=>RCll) Tryz.underlying29 cells_Cll bytes_Cll (by decide) dec_Cll
open Go.ChangeShapes Go.WideShapes Go.ChangeAt Go.RowKit
def EngRd (w:World)(F:List Fld)(P:List Pag)(ins:List Fct)(cs:List Cll)(vs:List Val)(B A A1 A2 A3:Option Addr):Prop :=
 Sl w (old w) 9 (RFld w (old w)) B F.length F/\Sl w (old w) 8 (RPag w (old w)) A P.length P/\Sl w (old w) 7 RFct A1 ins.length ins/\Sl w (old w) 10 RCll A2 cs.length cs/\Sl w (old w) 3 RVal A3 vs.length vs
theorem EngRd.now {w w':World}{F:List Fld}{P:List Pag}{ins:List Fct}{cs:List Cll}{vs:List Val}{B A A1 A2 A3:Option Addr}(h:EngRd w F P ins cs vs B A A1 A2 A3)(hb:Below w.heap.size w w'):EngRd w' F P ins cs vs B A A1 A2 A3 :=
 ⟨h.1.nowN z02 hb,h.2.1.nowN z0d hb,h.2.2.1.now hb,h.2.2.2.1.now hb,h.2.2.2.2.now hb⟩
theorem CopE.rd {w w':World}{F:List Fld}{P:List Pag}{p:Pol}{ins:List Fct}{cs:List Cll}{vs:List Val}{now last:Int}{A5 A6 A7 A8 A9:Option Addr}{c5 c6 c7 c8 c9 N0 N1 N2:Nat}(h:CopE w F P p ins cs vs now last w' A5 c5 A6 c6 A7 c7 A8 c8 A9 c9 N0 N1 N2)
  (h1:∀ x∈ins,x.wf)(h2:∀ x∈cs,x.wf)(h3:∀ x∈vs,x.wf):EngRd w' F P ins cs vs A5 A6 A7 A8 A9:=by
 obtain⟨_,_,_,_,_,s5,s6,o7,o8,o9,_,_,n0,n1,n2,n3⟩:=h
 obtain⟨_,_,e7,_,g7⟩:=ownFct o7 rfl h1
 cases e7
 obtain⟨_,_,e8,_,g8⟩:=ownCll o8 rfl h2
 cases e8
 obtain⟨_,_,e9,_,g9⟩:=z6p o9 rfl h3
 cases e9
 exact⟨s5.keepN z02 (fun b hb=>⟨by have:=hb.2;unfold old;omega,rfl⟩),s6.keepN z0d (fun b hb=>⟨by have:=hb.2;unfold old;omega,rfl⟩),g7,g8,g9⟩
theorem z8h (F:List Fld)(P:List Pag)(p:Pol)(ins:List Fct)(cs:List Cll)(vs:List Val)(now last:Int)(B A A1 A2 A3 B' A' A1' A2' A3':Option Addr)(d c c1 c2 c3 d' c' c1' c2' c3':Nat)(w:World)
  (hl:inL F.length/\inL P.length/\inL ins.length/\inL cs.length/\inL vs.length)(h:EngRd w F P ins cs vs B A A1 A2 A3)(h':EngRd w F P ins cs vs B' A' A1' A2' A3') :
  Calls Tryz.prog 10 #[.agg #[.slice B F.length d,.slice A P.length c,.int .i64 p.tries,.int .i64 p.base,.int .i64 p.cap,.slice A1 ins.length c1,.slice A2 cs.length c2,.slice A3 vs.length c3,.int .i64 now,.int .i64 last],.agg #[.slice B' F.length d',.slice A' P.length c',.int .i64 p.tries,.int .i64 p.base,.int .i64 p.cap,.slice A1' ins.length c1',.slice A2' cs.length c2',.slice A3' vs.length c3',.int .i64 now,.int .i64 last]] w (RetB w true):=by
 have hpe:∀ w,(binOp .eql 27 (.agg #[.int .i64 p.tries,.int .i64 p.base,.int .i64 p.cap]) (.agg #[.int .i64 p.tries,.int .i64 p.base,.int .i64 p.cap])).run Tryz.prog w=.ok (.bool true) w:=fun w=>by go_simp
 have h1:=fun w (h:EngRd w F P ins cs vs B A A1 A2 A3) (h':EngRd w F P ins cs vs B' A' A1' A2' A3')=>same_Form F P B A B' A' d c d' c' w hl.1 hl.2.1 h.1 h.2.1 h'.1 h'.2.1
 have h2:=fun w (h:EngRd w F P ins cs vs B A A1 A2 A3) (h':EngRd w F P ins cs vs B' A' A1' A2' A3')=>same_Facts A1 _ c1 ins A1' _ c1' ins w hl.2.2.1 hl.2.2.1 h.2.2.1 h'.2.2.1
 have h3:=fun w (h:EngRd w F P ins cs vs B A A1 A2 A3) (h':EngRd w F P ins cs vs B' A' A1' A2' A3')=>equal_Cll A2 _ c2 cs A2' _ c2' cs w hl.2.2.2.1 hl.2.2.2.1 h.2.2.2.1 h'.2.2.2.1
 have h4:=fun w (h:EngRd w F P ins cs vs B A A1 A2 A3) (h':EngRd w F P ins cs vs B' A' A1' A2' A3')=>zdd A3 _ c3 vs A3' _ c3' vs w hl.2.2.2.2 hl.2.2.2.2 h.2.2.2.2 h'.2.2.2.2
 rw[decide_eq_true rfl] at h2 h3 h4
 have HH:=zh (ai h h')
 clear h h' hl
 go_enter Tryz.func10,Tryz.ntmps10
 go_wp2_with (first
  | (go_at_call 29;refine (h1 _ (HH.out.1.now bel) (HH.out.2.now bel)).mono ?_;rintro e w1 ⟨rfl,hb1⟩;refine zb hb1 ?_;rintro ⟨hc1,hf1⟩ hz1 hy1 hx1;refine szz w1 w ?_;intros)
  | (go_at_call 30;refine (h2 _ (HH.out.1.now bel) (HH.out.2.now bel)).mono ?_;rintro e w2 ⟨rfl,hb2⟩;refine zb hb2 ?_;rintro ⟨hc2,hf2⟩ hz2 hy2 hx2;refine szz w2 w ?_;intros;refine szz w2 w1 ?_;intros)
  | (go_at_call 31;refine (h3 _ (HH.out.1.now bel) (HH.out.2.now bel)).mono ?_;rintro e w3 ⟨rfl,hb3⟩;refine zb hb3 ?_;rintro ⟨hc3,hf3⟩ hz3 hy3 hx3;refine szz w3 w ?_;intros;refine szz w3 w1 ?_;intros;refine szz w3 w2 ?_;intros)
  | (go_at_call 32;refine (h4 _ (HH.out.1.now bel) (HH.out.2.now bel)).mono ?_;rintro e w4 ⟨rfl,hb4⟩;refine zb hb4 ?_;rintro ⟨hc4,hf4⟩ hz4 hy4 hx4;refine szz w4 w ?_;intros;refine szz w4 w1 ?_;intros;refine szz w4 w2 ?_;intros;refine szz w4 w3 ?_;intros))
 go_ret
 exact⟨rfl,bel⟩
def REng (w:World)(S:Nat -> Prop)(cl:List Value)(g:Eng):Prop :=
 (∀ x,S x↔x<w.heap.size)/\∃ B m d A n c A1 n1 c1 A2 n2 c2 A3 n3 c3,cl=[.slice B m d,.slice A n c,.int .i64 g.p.tries,.int .i64 g.p.base,.int .i64 g.p.cap,.slice A1 n1 c1,.slice A2 n2 c2,.slice A3 n3 c3,.int .i64 g.now,.int .i64 g.last]/\inI g.now/\inI g.last /\
  REn w B m d g.F A n c g.P A1 n1 c1 g.ins A2 n2 c2 g.cs A3 n3 c3 g.vs
def Eng.bulk (g:Eng):Nat:=(g.F.map Fld.bulk).sum+(g.P.map Pag.bulk).sum+1
theorem cells_Eng:Tryz.prog.cellsOf 32=10:=by kernel_rfl
theorem cells_Fcts9:Tryz.prog.cellsOf 28=1:=by kernel_rfl
theorem cells_Clls9:Tryz.prog.cellsOf 29=1:=by kernel_rfl
theorem cells_Vals9:Tryz.prog.cellsOf 30=1:=by kernel_rfl
theorem dec_Eng:Dec 32 (fun w=>REng w (old w)) Eng.bulk:=by
 intro H enc w fuel cs x h hw
 obtain⟨xs,n,hfu,hlen,hl,hb,hf⟩:=z2e Tryz.underlying32 h hw
 rw[cells_Eng] at hl
 match cs,hl with
 | [c0,c1,c2,c3,c4,c5,c6,c7,c8,c9],_ =>
  match xs,hlen with
  | [y0,y1,y2,y3,y4,y5,y6],_ =>
   obtain⟨z0,e0,g0,q0⟩:=hf 0 _ rfl
   cases e0
   change DataW.trod enc Tryz.prog w 0 (fun _=>true) true n 25 (List.take (Tryz.prog.cellsOf 25) [c0,c1,c2,c3,c4,c5,c6,c7,c8,c9])=some y0 at g0
   rw[cells_Frm] at g0
   change DataW.trod enc Tryz.prog w 0 (fun _=>true) true n 25 [c0,c1]=some y0 at g0
   obtain⟨f,⟨B,m,d,A,nn,c,r0,i0,i1,i2,i3,s0,s1⟩,m0⟩:=dec_Frm g0 q0
   simp only[List.cons.injEq,and_true] at r0
   obtain⟨rfl,rfl⟩:=r0
   obtain⟨z1,e1,g1,q1⟩:=hf 1 _ rfl
   cases e1
   change DataW.trod enc Tryz.prog w 0 (fun _=>true) true n 27 (List.take (Tryz.prog.cellsOf 27) [c2,c3,c4,c5,c6,c7,c8,c9])=some y1 at g1
   rw[cells_Pol] at g1
   change DataW.trod enc Tryz.prog w 0 (fun _=>true) true n 27 [c2,c3,c4]=some y1 at g1
   obtain⟨p,⟨r1,_⟩,m1⟩:=dec_Pol g1 q1
   simp only[List.cons.injEq,and_true] at r1
   obtain⟨rfl,rfl,rfl⟩:=r1
   obtain⟨z2,e2,g2,q2⟩:=hf 2 _ rfl
   cases e2
   change DataW.trod enc Tryz.prog w 0 (fun _=>true) true n 28 (List.take (Tryz.prog.cellsOf 28) [c5,c6,c7,c8,c9])=some y2 at g2
   rw[cells_Fcts9] at g2
   change DataW.trod enc Tryz.prog w 0 (fun _=>true) true n 28 [c5]=some y2 at g2
   obtain⟨l2,⟨B2,k2,d2,r2,j2,j2',t2⟩,m2⟩:=dec_Fcts g2 q2
   simp only[List.cons.injEq,and_true] at r2
   subst r2
   obtain⟨z3,e3,g3,q3⟩:=hf 3 _ rfl
   cases e3
   change DataW.trod enc Tryz.prog w 0 (fun _=>true) true n 29 (List.take (Tryz.prog.cellsOf 29) [c6,c7,c8,c9])=some y3 at g3
   rw[cells_Clls9] at g3
   change DataW.trod enc Tryz.prog w 0 (fun _=>true) true n 29 [c6]=some y3 at g3
   obtain⟨l3,⟨B3,k3,d3,r3,j3,j3',t3⟩,m3⟩:=dec_Clls g3 q3
   simp only[List.cons.injEq,and_true] at r3
   subst r3
   obtain⟨z4,e4,g4,q4⟩:=hf 4 _ rfl
   cases e4
   change DataW.trod enc Tryz.prog w 0 (fun _=>true) true n 30 (List.take (Tryz.prog.cellsOf 30) [c7,c8,c9])=some y4 at g4
   rw[cells_Vals9] at g4
   change DataW.trod enc Tryz.prog w 0 (fun _=>true) true n 30 [c7]=some y4 at g4
   obtain⟨l4,⟨B4,k4,d4,r4,j4,j4',t4⟩,m4⟩:=dec_Vals g4 q4
   simp only[List.cons.injEq,and_true] at r4
   subst r4
   obtain⟨z5,e5,g5,q5⟩:=hf 5 _ rfl
   cases e5
   change DataW.trod enc Tryz.prog w 0 (fun _=>true) true n 3 (List.take (Tryz.prog.cellsOf 3) [c8,c9])=some y5 at g5
   rw[z26] at g5
   change DataW.trod enc Tryz.prog w 0 (fun _=>true) true n 3 [c8]=some y5 at g5
   obtain⟨a5,⟨r5,ii5⟩,m5⟩:=z3x Tryz.underlying3 g5 q5
   simp only[List.cons.injEq,and_true] at r5
   subst r5
   obtain⟨z6,e6,g6,q6⟩:=hf 6 _ rfl
   cases e6
   change DataW.trod enc Tryz.prog w 0 (fun _=>true) true n 3 (List.take (Tryz.prog.cellsOf 3) [c9])=some y6 at g6
   rw[z26] at g6
   change DataW.trod enc Tryz.prog w 0 (fun _=>true) true n 3 [c9]=some y6 at g6
   obtain⟨a6,⟨r6,ii6⟩,m6⟩:=z3x Tryz.underlying3 g6 q6
   simp only[List.cons.injEq,and_true] at r6
   subst r6
   simp only[List.map_cons,List.map_nil,List.sum_cons,List.sum_nil] at hb
   exact⟨⟨f.fields,f.pages,p,l2,l3,l4,a5,a6⟩,⟨fun _=>Iff.rfl,B,m,d,A,nn,c,B2,k2,d2,B3,k3,d3,B4,k4,d4,rfl,ii5,ii6,⟨i0,i1,i2,i3,s0,s1⟩,⟨j2,j2',t2⟩,⟨j3,j3',t3⟩,j4,j4',t4⟩,by unfold Eng.bulk;unfold Frm.bulk at m0;dsimp only;omega⟩
theorem REng.parts {w:World}{cl:List Value}{g:Eng}(h:REng w (old w) cl g)(hb:g.bulk<=1048576) :
  ∃ B m d A n c A1 n1 c1 A2 n2 c2 A3 n3 c3,cl=[.slice B m d,.slice A n c,.int .i64 g.p.tries,.int .i64 g.p.base,.int .i64 g.p.cap,.slice A1 n1 c1,.slice A2 n2 c2,.slice A3 n3 c3,.int .i64 g.now,.int .i64 g.last]/\inI g.now/\inI g.last /\
   REn w B m d g.F A n c g.P A1 n1 c1 g.ins A2 n2 c2 g.cs A3 n3 c3 g.vs/\z2i g.F:=by
 obtain⟨_,B,m,d,A,n,c,A1,n1,c1,A2,n2,c2,A3,n3,c3,h1,h2,h3,h4⟩:=h
 exact⟨B,m,d,A,n,c,A1,n1,c1,A2,n2,c2,A3,n3,c3,h1,h2,h3,h4,z30 g.F (by unfold Eng.bulk at hb;omega),z5i h4.1.2.2.2.2.1⟩
end Go.Proofs.YtldhlpjjcnlbcaaGreat
