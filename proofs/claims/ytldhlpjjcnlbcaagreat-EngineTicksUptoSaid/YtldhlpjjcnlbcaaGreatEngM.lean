/- A motor that has just been made of a copy: its cells and its rows. -/
import Derived.Test.YtldhlpjjcnlbcaaGreatEng7
import Derived.Test.YtldhlpjjcnlbcaaGreatEngZ
set_option maxRecDepth 100000
set_option maxHeartbeats 8000000
namespace Go.Proofs.YtldhlpjjcnlbcaaGreat
open Go.RowKit
theorem cop_rows {w w4 W9:World}{F:List Fld}{P:List Pag}{p:Pol}{ins:List Fct}{cs:List Cll}{vs:List Val}{now last:Int}{A5 A6 A7 A8 A9:Option Addr}{c5 c6 c7 c8 c9 N0 N1 N2 m:Nat}(hcop:CopE w F P p ins cs vs now last w4 A5 c5 A6 c6 A7 c7 A8 c8 A9 c9 N0 N1 N2)
  (hb9:Below w4.heap.size w4 W9)(hF:F.length=m)(hc:cs.length=F.length)(hv:vs.length=F.length) :
  (m<=c5/\P.length<=c6/\ins.length<=c7/\m<=c8/\m<=c9) /\
  Sl W9 (z2u w.heap.size N0) 9 (RFld W9 (z2u w.heap.size N0)) A5 m F/\Sl W9 (z2u w.heap.size N0) 8 (RPag W9 (z2u w.heap.size N0)) A6 P.length P /\
  W9.ownsRow N0 72 7 (.slice A7 ins.length c7) ins.length (ins.flatMap Fct.cs)/\W9.ownsRow N0 62 10 (.slice A8 m c8) m (cs.flatMap Cll.cs)/\W9.ownsRow N0 44 3 (.slice A9 m c9) m (vs.flatMap Val.cs) /\
  (∀ q,(Value.slice A7 ins.length c7).ownBlock=some q->N0<=q/\q<w4.heap.size/\some q≠(Value.slice A8 m c8).ownBlock/\some q≠(Value.slice A9 m c9).ownBlock)/\(∀ q,(Value.slice A8 m c8).ownBlock=some q->N0<=q/\q<w4.heap.size/\some q≠(Value.slice A9 m c9).ownBlock)/\(∀ q,(Value.slice A9 m c9).ownBlock=some q->N0<=q/\q<w4.heap.size)/\w.heap.size<=N0/\N0<=w4.heap.size:=by
 obtain⟨k5,k6,k7,k8,k9,s5,s6,o7,o8,o9,q7,q8,n0,n1',n2',n3'⟩:=hcop
 rw[hc] at o8 q8 k8
 rw[hv] at o9 k9
 rw[hF] at k5 k8 k9 s5 o8 o9 q8
 refine⟨⟨k5,k6,k7,k8,k9⟩,s5.keepN z02 (fun b hb=>⟨hb,hb9.block b (by have:=hb.2;omega)⟩),s6.keepN z0d (fun b hb=>⟨hb,hb9.block b (by have:=hb.2;omega)⟩),
  z04 o7 hb9,z04 (z0c o8 n1') hb9,z04 (z0c o9 (Nat.le_trans n1' n2')) hb9,fun q hq=>?_,fun q hq=>?_,fun q hq=>?_,n0,by omega⟩
 ·have h7:=o7.lt q hq
  have h1:=q7 q hq
  exact⟨h7.1,h7.2,fun e=>by have:=(o8.lt q e.symm).1;omega,fun e=>by have:=(o9.lt q e.symm).1;omega⟩
 ·have h8:=o8.lt q hq
  have h2:=q8 q hq
  exact⟨by omega,h8.2,fun e=>by have:=(o9.lt q e.symm).1;omega⟩
 have h9:=o9.lt q hq
 exact⟨by omega,h9.2⟩
theorem mot_made {w4 W9:World}{F:List Fld}{P:List Pag}{p:Pol}{ins:List Fct}{cs:List Cll}{vs:List Val}{now last:Int}{A5 A6 A7 A8 A9:Option Addr}{c5 c6 c7 c8 c9 m:Nat}
  (hW9:W9=w4.alloc (.cells #[.slice A5 F.length c5,.slice A6 P.length c6,.int .i64 p.tries,.int .i64 p.base,.int .i64 p.cap,.slice A7 ins.length c7,.slice A8 cs.length c8,.slice A9 vs.length c9,.int .i64 now,.int .i64 last,.slice none 0 0] 59))(hF:F.length=m)(hc:cs.length=F.length)(hv:vs.length=F.length) :
  Below w4.heap.size w4 W9/\W9.heap.size=w4.heap.size+1/\MotC W9 w4.heap.size (.slice A5 m c5) (.slice A6 P.length c6) p (.slice A7 ins.length c7) (.slice A8 m c8) (.slice A9 m c9) now last (.slice none 0 0)/\MotF W9 w4.heap.size:=by
 rw[hc,hv,hF] at hW9
 refine⟨by rw[hW9];exact (Below.refl _ _).alloc (nr _) _,by rw[hW9];simp,?_,?_⟩
 ·rw[hW9];and_intros<;>go_simp
 rw[hW9];and_intros<;>go_simp
def MS (a N0:Nat)(iv:Value):Nat -> Prop:=fun b=>z2u a N0 b\/iv.ownBlock=some b
theorem mot_rows {y:World}{a N0 M m:Nat}{F:List Fld}{P:List Pag}{ins:List Fct}{A5 A6 A7 A8 A9:Option Addr}{c7 c8 c9:Nat}{lv:Value}
  (h5:Sl y (z2u a N0) 9 (RFld y (z2u a N0)) A5 m F)(h6:Sl y (z2u a N0) 8 (RPag y (z2u a N0)) A6 P.length P)(h7:y.ownsRow N0 72 7 (.slice A7 ins.length c7) ins.length (ins.flatMap Fct.cs))(hw:∀ x∈ins,x.wf)(hN:N0<=y.heap.size)(haN:a<=N0)(hM:N0<=M)
  (q7:∀ q,(Value.slice A7 ins.length c7).ownBlock=some q->q≠M/\some q≠(Value.slice A8 m c8).ownBlock/\some q≠(Value.slice A9 m c9).ownBlock/\some q≠lv.ownBlock)
  (q8:∀ q,(Value.slice A8 m c8).ownBlock=some q->N0<=q)(q9:∀ q,(Value.slice A9 m c9).ownBlock=some q->N0<=q)(ql:∀ q,lv.ownBlock=some q->N0<=q) :
  Sl y (MS a N0 (.slice A7 ins.length c7)) 9 (RFld y (MS a N0 (.slice A7 ins.length c7))) A5 m F/\Sl y (MS a N0 (.slice A7 ins.length c7)) 8 (RPag y (MS a N0 (.slice A7 ins.length c7))) A6 P.length P/\Sl y (MS a N0 (.slice A7 ins.length c7)) 7 RFct A7 ins.length ins /\
  (∀ b,MS a N0 (.slice A7 ins.length c7) b->b<y.heap.size)/\(∀ b,MS a N0 (.slice A7 ins.length c7) b->Mfree M A8 m c8 A9 c9 lv b)/\(∀ b,MS a N0 (.slice A7 ins.length c7) b->a<=b):=by
 refine⟨h5.keepN z02 (fun b hb=>⟨.inl hb,rfl⟩),h6.keepN z0d (fun b hb=>⟨.inl hb,rfl⟩),?_,fun b hb=>?_,fun b hb=>?_,fun b hb=>?_⟩
 ·obtain⟨A,c,e,_,hs⟩:=ownFct h7 rfl hw
  cases e
  refine⟨hs.1,fun h0=>?_⟩
  obtain⟨b,o,e,_,hc⟩:=hs.2 h0
  exact⟨b,o,e,.inr (by rw[e];rfl),hc⟩
 ·rcases hb with hb | hb
  ·have:=hb.2;omega
  exact (h7.lt b hb).2
 ·rcases hb with hb | hb
  ·have h2:=hb.2
   exact⟨by omega,fun e=>by have:=q8 b e.symm;omega,fun e=>by have:=q9 b e.symm;omega,fun e=>by have:=ql b e.symm;omega⟩
  exact q7 b hb
 rcases hb with hb | hb
 ·exact hb.1
 have:=(h7.lt b hb).1;omega
def EngRow (a:Nat)(w':World)(g:Eng)(ls:List Ltr)(B:Option Addr)(d:Nat)(A:Option Addr)(c:Nat)(A1:Option Addr)(c1:Nat)(A2:Option Addr)(c2:Nat)(A3:Option Addr)(c3:Nat)(A4:Option Addr)(c4:Nat):Prop :=
 (g.F.length<=d/\g.P.length<=c/\g.ins.length<=c1/\g.cs.length<=c2/\g.vs.length<=c3/\ls.length<=c4) /\
  Sl w' (since a w') 9 (RFld w' (since a w')) B g.F.length g.F/\Sl w' (since a w') 8 (RPag w' (since a w')) A g.P.length g.P/\Sl w' (since a w') 7 RFct A1 g.ins.length g.ins/\Sl w' (since a w') 10 RCll A2 g.cs.length g.cs/\Sl w' (since a w') 3 RVal A3 g.vs.length g.vs/\Sl w' (since a w') 8 RLtr A4 ls.length ls
theorem EngRow.put {a a':Nat}{w w':World}{g:Eng}{ls:List Ltr}{B A A1 A2 A3 A4:Option Addr}{d c c1 c2 c3 c4:Nat}(h:EngRow a' w g ls B d A c A1 c1 A2 c2 A3 c3 A4 c4)(ha:a<=a')(hz:w.heap.size<=w'.heap.size)(hk:∀ b,a'<=b->b<w.heap.size->w'.heap[b]?=w.heap[b]?):EngRow a w' g ls B d A c A1 c1 A2 c2 A3 c3 A4 c4:=by
 obtain⟨hl,t1,t2,t3,t4,t5,t6⟩:=h
 have hs:∀ b,since a' w b->since a w' b/\w'.heap[b]?=w.heap[b]?:=fun b hb=>⟨⟨Nat.le_trans ha hb.1,Nat.lt_of_lt_of_le hb.2 hz⟩,hk b hb.1 hb.2⟩
 have h1:=fun b hb=>(hs b hb).1
 have h2:=fun b hb=>(hs b hb).2
 exact⟨hl,t1.keepN z02 hs,t2.keepN z0d hs,(t3.keep h2 (fun _ _ h=>h)).mono h1,(t4.keep h2 (fun _ _ h=>h)).mono h1,(t5.keep h2 (fun _ _ h=>h)).mono h1,(t6.keep h2 (fun _ _ h=>h)).mono h1⟩
theorem calls_stored {w:World}{base g m cap i:Nat}{cs:List Cll}{c:Cll}(h:w.ownsRow base 62 10 (.slice (some ⟨g,0,none⟩) m cap) m (cs.flatMap Cll.cs))(hi:i<cs.length) :
  ((((((((((w.setCell ⟨g,i*10,none⟩ (.int .i64 c.state)).setCell ⟨g,i*10+1,none⟩ (.int .i64 c.id)).setCell ⟨g,i*10+2,none⟩ (.int .i64 c.tries)).setCell ⟨g,i*10+3,none⟩ (.int .i64 c.key.k)).setCell ⟨g,i*10+4,none⟩ (.int .i64 c.key.n)).setCell ⟨g,i*10+5,none⟩ (.string c.key.s)).setCell ⟨g,i*10+6,none⟩ (.int .i64 c.has.k)).setCell ⟨g,i*10+7,none⟩ (.int .i64 c.has.n)).setCell ⟨g,i*10+8,none⟩ (.string c.has.s)).setCell ⟨g,i*10+9,none⟩ (.int .i64 c.next)).ownsRow base 62 10 (.slice (some ⟨g,0,none⟩) m cap) m ((cs.set i c).flatMap Cll.cs):=by
 have h:=((((((((((h.stored (i*10) (.int .i64 c.state)).1.stored (i*10+1) (.int .i64 c.id)).1.stored (i*10+2) (.int .i64 c.tries)).1.stored (i*10+3) (.int .i64 c.key.k)).1.stored (i*10+4) (.int .i64 c.key.n)).1.stored (i*10+5) (.string c.key.s)).1.stored (i*10+6) (.int .i64 c.has.k)).1.stored (i*10+7) (.int .i64 c.has.n)).1.stored (i*10+8) (.string c.has.s)).1.stored (i*10+9) (.int .i64 c.next)).1
 rw[z99 cs i c hi] at h
 exact h
abbrev EBX (w:World)(g:Nat)(fv pv:Value)(p:Pol)(iv cv vv:Value)(now last:Int):Prop:=w.cell? ⟨g,0,none⟩=some (fv)/\w.cell? ⟨g,1,none⟩=some (pv)/\w.cell? ⟨g,2,none⟩=some (.int .i64 p.tries)/\w.cell? ⟨g,3,none⟩=some (.int .i64 p.base)/\w.cell? ⟨g,4,none⟩=some (.int .i64 p.cap)/\w.cell? ⟨g,5,none⟩=some (iv)/\w.cell? ⟨g,6,none⟩=some (cv)/\w.cell? ⟨g,7,none⟩=some (vv)/\w.cell? ⟨g,8,none⟩=some (.int .i64 now)/\w.cell? ⟨g,9,none⟩=some (.int .i64 last)
theorem EBX.block {w w':World}{g:Nat}{fv pv:Value}{p:Pol}{iv cv vv:Value}{now last:Int}(h:EBX w g fv pv p iv cv vv now last)(hb:w'.heap[g]?=w.heap[g]?):EBX w' g fv pv p iv cv vv now last:=eb10 hb h
theorem ren_of {y:World}{a N m:Nat}{F:List Fld}{P:List Pag}{ins:List Fct}{cs:List Cll}{vs:List Val}{A5 A6 A7 A8 A9:Option Addr}{c5 c6 c7 c8 c9:Nat}
  (h5:Sl y (z2u a N) 9 (RFld y (z2u a N)) A5 m F)(h6:Sl y (z2u a N) 8 (RPag y (z2u a N)) A6 P.length P)(h7:y.ownsRow N 72 7 (.slice A7 ins.length c7) ins.length (ins.flatMap Fct.cs))(h8:y.ownsRow N 62 10 (.slice A8 m c8) m (cs.flatMap Cll.cs))(h9:y.ownsRow N 44 3 (.slice A9 m c9) m (vs.flatMap Val.cs))
  (hl:m<=c5/\P.length<=c6/\ins.length<=c7/\m<=c8/\m<=c9)(h14:m<=14)(hP:inB 120 P.length)(hi:ins.length<=15)(hN:N<=y.heap.size)(hcl:cs.length=m)(hvl:vs.length=m)(w1:∀ x∈ins,x.wf)(w2:∀ x∈cs,x.wf)(w3:∀ x∈vs,x.wf) :
  REn y A5 m c5 F A6 P.length c6 P A7 ins.length c7 ins A8 m c8 cs A9 m c9 vs:=by
 obtain⟨_,_,e7,_,g7⟩:=ownFct h7 rfl w1
 cases e7
 obtain⟨_,_,e8,_,g8⟩:=ownCll h8 hcl w2
 cases e8
 obtain⟨_,_,e9,_,g9⟩:=z6p h9 hvl w3
 cases e9
 have hb:∀ b,z2u a N b->old y b/\y.heap[b]?=y.heap[b]?:=fun b hb=>⟨by have:=hb.2;unfold old;omega,rfl⟩
 exact⟨⟨by unfold inB;omega,hl.1,hP,hl.2.1,h5.keepN z02 hb,h6.keepN z0d hb⟩,⟨by unfold inB;omega,hl.2.2.1,g7⟩,⟨by unfold inB;omega,hl.2.2.2.1,g8⟩,by unfold inB;omega,hl.2.2.2.2,g9⟩
end Go.Proofs.YtldhlpjjcnlbcaaGreat
