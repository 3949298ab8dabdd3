/- Texts merged (mergeh.py): Eng6. -/
import Derived.Test.YtldhlpjjcnlbcaaGreatEng5
import Derived.Test.YtldhlpjjcnlbcaaGreatCall3
/- engine.calls. -/
set_option maxRecDepth 100000
set_option maxHeartbeats 8000000
namespace Go.Proofs.YtldhlpjjcnlbcaaGreat
open Go.RowKit
theorem engCall_bad {p:Pol}{last:Int}{f:Fld}{c:Cll}(h:z07 c p≠0):z9n p last f c=z07 c p:=by unfold z9n;rw[if_pos h]
theorem z7x {p:Pol}{last:Int}{f:Fld}{c:Cll}(h:z07 c p=0)(h1:c.state≠0/\(f.kind≠3\/last<c.id\/(c.state=2/\c.has.k≠f.type))):z9n p last f c=15:=by unfold z9n;rw[if_neg (by simpa using h),if_pos h1]
theorem z84 {p:Pol}{last:Int}{f:Fld}{c:Cll}(h:z07 c p=0)(h1:¬ (c.state≠0/\(f.kind≠3\/last<c.id\/(c.state=2/\c.has.k≠f.type)))):z9n p last f c=0:=by unfold z9n;rw[if_neg (by simpa using h),if_neg h1]
theorem engine_calls (B:Option Addr)(m d:Nat)(F:List Fld)(A:Option Addr)(n c:Nat)(P:List Pag)(p:Pol)(A1:Option Addr)(n1 c1:Nat)(ins:List Fct)(A2:Option Addr)(n2 c2:Nat)(cs:List Cll)(A3:Option Addr)(n3 c3:Nat)(vs:List Val)(now last:Int)(w:World)
  (hX:REn w B m d F A n c P A1 n1 c1 ins A2 n2 c2 cs A3 n3 c3 vs) :
  Calls Tryz.prog 35 #[.agg #[.slice B m d,.slice A n c,.int .i64 p.tries,.int .i64 p.base,.int .i64 p.cap,.slice A1 n1 c1,.slice A2 n2 c2,.slice A3 n3 c3,.int .i64 now,.int .i64 last]] w (RetI w (z29 F p cs vs last)):=by
 have hml:=hX.1.2.2.2.2.1.len
 have hcl:=hX.2.2.1.2.2.len
 have hvl:=hX.2.2.2.2.2.len
 have hn2:=hX.2.2.1.1.l (by decide)
 unfold inL at hn2
 have HX:=zh hX
 clear hX
 by_cases h1:n2=m
 ·have g13:((n2:Int) != (m:Int))=false:=by rw[h1];simp
  by_cases h2:n3=m
  ·have g22:((n3:Int) != (m:Int))=false:=by rw[h2];simp
   have hce:z29 F p cs vs last=z0g (z5d F p last cs) n2:=by unfold z29;rw[if_neg (by omega),hcl]
   rw[hce]
   obtain⟨er,her⟩:∃ er,er=z0g (z5d F p last cs) n2:=⟨_,rfl⟩
   rw[<-her]
   have HE:=zh (ai her (ai h1 (ai hml hcl)))
   have hkm:∀ k,k<n2->k<m:=fun k hk=>by omega
   clear hce her h1 h2 hml hcl hvl
   go_enter Tryz.func35,Tryz.ntmps35
   go_upto_region 3 with fail
   refine z0k ?_;intro W0 hW0
   have hB0:Below w.heap.size w W0:=by rw[hW0];exact bel
   have hl0:w.heap.size<W0.heap.size:=by rw[hW0];simp
   have d0:W0.cell? ⟨w.heap.size,0,none⟩=some (.slice B m d):=by rw[hW0];go_simp
   have d2:W0.cell? ⟨w.heap.size,2,none⟩=some (.int .i64 p.tries):=by rw[hW0];go_simp
   have d3:W0.cell? ⟨w.heap.size,3,none⟩=some (.int .i64 p.base):=by rw[hW0];go_simp
   have d4:W0.cell? ⟨w.heap.size,4,none⟩=some (.int .i64 p.cap):=by rw[hW0];go_simp
   have d6:W0.cell? ⟨w.heap.size,6,none⟩=some (.slice A2 n2 c2):=by rw[hW0];go_simp
   have d9:W0.cell? ⟨w.heap.size,9,none⟩=some (.int .i64 last):=by rw[hW0];go_simp
   clear hW0
   go_wp2_with fail
   go_loopw [27] (fun i wr=>∃ k:Nat,k<=n2/\i=.int .i64 k/\Hid (z0g (z5d F p last cs) k=0)/\Below W0.heap.size W0 wr) (fun i _=>n2-(intOf i).toNat)
   case atStart=>exact⟨0,by omega,rfl,zh rfl,Below.refl _ _⟩
   case round =>
    obtain⟨k,hk,rfl,hz,hbr⟩:=hrel
    have hBr:Below w.heap.size w wr:=z01 hB0 hbr hB0.size
    have hlr:w.heap.size<wr.heap.size:=Nat.lt_of_lt_of_le hl0 hbr.size
    by_cases hlt:k<n2
    ·obtain⟨b,o,x,hAe,hbl,hlx,hwf,y0,y1,y2,y3,y4,y5,y6,y7,y8,y9⟩:=Cll_at (HX.out.2.2.1.2.2.now hBr) hlt
     subst hAe
     have hbl':b<wr.heap.size:=hbl
     have hkm':=hkm k hlt
     obtain⟨b2,o2,f,X,C,hBe,hbl2,hlf,hrep,x0,x1,x2,x3,x4,x5,x6,x7,x8⟩:=z25 HX.out.1.2.2.2.2.1 hkm'
     have HBE:=zh hBe
     subst hBe
     have hbl3:b2<w.heap.size:=hbl2
     have hbl4:b2<wr.heap.size:=Nat.lt_of_lt_of_le hbl3 hBr.size
     replace x1:=z00 x1 hBr
     replace x2:=z00 x2 hBr
     have r0:=z00 d0 hbr
     have r2:=z00 d2 hbr
     have r3:=z00 d3 hbr
     have r4:=z00 d4 hbr
     have r6:=z00 d6 hbr
     have r9:=z00 d9 hbr
     have hch:=fun w=>z1s x.state x.id x.tries x.key.k x.key.n x.key.s x.has.k x.has.n x.has.s x.next p.tries p.base p.cap w (z0s hwf.2.2.2.1.2.2) (z0s hwf.2.2.2.2.1.2.2)
     simp only[show (⟨x.state,x.id,x.tries,⟨x.key.k,x.key.n,x.key.s⟩,⟨x.has.k,x.has.n,x.has.s⟩,x.next⟩:Cll)=x from rfl,show (⟨p.tries,p.base,p.cap⟩:Pol)=p from rfl] at hch
     have HL:=zh (ai hlx (ai hlf (zaw (p:=p) (last:=last) hlx hlf)))
     have hki:(k:Int)<(m:Int):=by omega
     clear hlx hlf hrep hwf hbl hbl2 x0 x3 x4 x5 x6 x7 x8
     obtain⟨ce,hce⟩:∃ ce,ce=z07 x p:=⟨_,rfl⟩
     rw[<-hce] at hch
     by_cases hv:ce=0
     ·have g37:(ce != 0)=false:=by simpa using hv
      have HC:=zh (show z07 x p=0 from hce.symm.trans hv)
      clear hce hv
      go_upto_region 9 with (go_at_call 69;refine (hch _).mono ?_;rintro e w3 ⟨rfl,hb3⟩;refine zb hb3 ?_;rintro ⟨hc3,hf3⟩ hz3 hy3 hx3;refine szz w3 wr ?_;intros)
      have hb3':Below wr.heap.size wr w3:=bel
      by_cases q0:x.state=0
      ·have g41:(x.state != 0)=false:=by simpa using q0
       have HQ:=zh (z84 (last:=last) (f:=f) HC.out (fun h=>h.1 q0))
       clear q0
       go_quiet (fail)
       go_wp2_with fail
       go_roundw
       case rel=>exact⟨k+1,by omega,by go_num,zh (z0i hz.out (HL.out.2.2.trans HQ.out)),z01 hbr (show Below wr.heap.size wr _ from bel) hbr.size⟩
       case measure=>simp[intOf];omega
      have g41:(x.state != 0)=true:=by simpa using q0
      by_cases q1:f.kind=3
      ·have g50:(f.kind != 3)=false:=by simpa using q1
       by_cases q2:last<x.id
       ·have g56:decide (last<x.id)=true:=decide_eq_true q2
        have HQ:=zh (z7x (f:=f) HC.out ⟨q0,.inr (.inl q2)⟩)
        clear q0 q1 q2
        go_quiet (fail)
        go_wp2_with fail
        refine bpr Tryz.results35 (.int .i64 15) ?_
        have hh:er=15:=by rw[HE.out.1,z0j hz.out (by rw[HL.out.2.2,HQ.out];decide) _ hlt,HL.out.2.2,HQ.out]
        rw[hh]
        exact⟨rfl,z01 hBr (show Below wr.heap.size wr _ from bel) hBr.size⟩
       have g56:decide (last<x.id)=false:=decide_eq_false q2
       by_cases q3:x.state=2
       ·have g61:(x.state==2)=true:=by simpa using q3
        by_cases q4:x.has.k=f.type
        ·have g73:(x.has.k != f.type)=false:=by simpa using q4
         have HQ:=zh (z84 (last:=last) (f:=f) HC.out (fun h=>by rcases h.2 with h | h | h;exact h q1;exact q2 h;exact h.2 q4))
         clear q0 q1 q2 q3 q4
         go_quiet (fail)
         go_wp2_with fail
         go_roundw
         case rel=>exact⟨k+1,by omega,by go_num,zh (z0i hz.out (HL.out.2.2.trans HQ.out)),z01 hbr (show Below wr.heap.size wr _ from bel) hbr.size⟩
         case measure=>simp[intOf];omega
        have g73:(x.has.k != f.type)=true:=by simpa using q4
        have HQ:=zh (z7x (last:=last) (f:=f) HC.out ⟨q0,.inr (.inr ⟨q3,q4⟩)⟩)
        clear q0 q1 q2 q3 q4
        go_quiet (fail)
        go_wp2_with fail
        refine bpr Tryz.results35 (.int .i64 15) ?_
        have hh:er=15:=by rw[HE.out.1,z0j hz.out (by rw[HL.out.2.2,HQ.out];decide) _ hlt,HL.out.2.2,HQ.out]
        rw[hh]
        exact⟨rfl,z01 hBr (show Below wr.heap.size wr _ from bel) hBr.size⟩
       have g61:(x.state==2)=false:=by simpa using q3
       have HQ:=zh (z84 (last:=last) (f:=f) HC.out (fun h=>by rcases h.2 with h | h | h;exact h q1;exact q2 h;exact q3 h.1))
       clear q0 q1 q2 q3
       go_quiet (fail)
       go_wp2_with fail
       go_roundw
       case rel=>exact⟨k+1,by omega,by go_num,zh (z0i hz.out (HL.out.2.2.trans HQ.out)),z01 hbr (show Below wr.heap.size wr _ from bel) hbr.size⟩
       case measure=>simp[intOf];omega
      have g50:(f.kind != 3)=true:=by simpa using q1
      have HQ:=zh (z7x (last:=last) HC.out ⟨q0,.inl q1⟩)
      clear q0 q1
      go_quiet (fail)
      go_wp2_with fail
      refine bpr Tryz.results35 (.int .i64 15) ?_
      have hh:er=15:=by rw[HE.out.1,z0j hz.out (by rw[HL.out.2.2,HQ.out];decide) _ hlt,HL.out.2.2,HQ.out]
      rw[hh]
      exact⟨rfl,z01 hBr (show Below wr.heap.size wr _ from bel) hBr.size⟩
     have g37:(ce != 0)=true:=by simpa using hv
     have HC:=zh (ai hce hv)
     clear hce hv
     go_wp2_with (go_at_call 69;refine (hch _).mono ?_;rintro e w3 ⟨rfl,hb3⟩;refine zb hb3 ?_;rintro ⟨hc3,hf3⟩ hz3 hy3 hx3;refine szz w3 wr ?_;intros)
     refine bpr Tryz.results35 (.int .i64 ce) ?_
     have he:z5d F p last cs k=ce:=by rw[HL.out.2.2,engCall_bad (by rw[<-HC.out.1];exact HC.out.2),<-HC.out.1]
     have hh:er=ce:=by rw[HE.out.1,z0j hz.out (by rw[he];exact HC.out.2) _ hlt,he]
     rw[hh]
     exact⟨rfl,z01 hBr (show Below wr.heap.size wr _ from bel) hBr.size⟩
    have hke:k=n2:=by omega
    subst hke
    go_wp2_with fail
    refine bpr Tryz.results35 (.int .i64 0) ?_
    have hh:er=0:=by rw[HE.out.1];exact hz.out
    rw[hh]
    exact⟨rfl,hBr⟩
  have g22:((n3:Int) != (m:Int))=true:=by rw[bne_iff_ne];omega
  have hce:z29 F p cs vs last=1:=by unfold z29;rw[if_pos (by omega)]
  rw[hce]
  clear hce h1 h2 hml hcl hvl hn2
  go_enter Tryz.func35,Tryz.ntmps35
  go_wp2_with fail
  go_ret
  exact⟨rfl,bel⟩
 have g13:((n2:Int) != (m:Int))=true:=by rw[bne_iff_ne];omega
 have hce:z29 F p cs vs last=1:=by unfold z29;rw[if_pos (by omega)]
 rw[hce]
 clear hce h1 hml hcl hvl hn2
 go_enter Tryz.func35,Tryz.ntmps35
 go_wp2_with fail
 go_ret
 exact⟨rfl,bel⟩
end Go.Proofs.YtldhlpjjcnlbcaaGreat
