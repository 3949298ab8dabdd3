/- The reference OracleFault. -/
import Derived.Test.YtbhkpepinogigaaGreatOrc
--TRYSZ (some lists of worlds name one that is not there)
namespace Go.Proofs.YtbhkpepinogigaaGreat
open Go.RowKit

set_option maxRecDepth 100000 in
set_option maxHeartbeats 8000000 in
theorem ref_OracleFault (A:Option Addr) (n c:Nat) (fl:List Fld) (A2:Option Addr) (n2 c2:Nat) (A1:Option Addr) (n1 c1:Nat) (l:List Fct) (w:World) (hn:inB 112 n) (hn1:inL n1) (hc1:n1 ≤ c1)
  (h:Sl w (old w) 9 (RFld w (old w)) A n fl) (h1:Sl w (old w) 7 RFct A1 n1 l) :
  Calls Tryz.prog 83 #[.agg #[.slice A n c,.slice A2 n2 c2],.slice A1 n1 c1] w (RetI w (oracleErr fl l)):=by
 have hnL:=hn.l (by decide)
 have hFl:=h.len
 have HH:=Lib.hid (And.intro h (And.intro h1 (And.intro hn (And.intro h1.len hc1))))
 have hn':n ≤ 140737488351232:=hnL
 have hn1':n1 ≤ 140737488351232:=hn1
 clear h h1 hn hc1
 go_enter Tryz.func83,Tryz.ntmps83
 go_wp2_with fail
 go_loopw [16] (fun i wr => ∃ k:Nat,k ≤ n1 ∧ i = .int .i64 k ∧ Hid (firstErr (orStep fl l) k = 0) ∧ Below (w.alloc (.cells #[.slice A n c,.slice A2 n2 c2] 32)).heap.size (w.alloc (.cells #[.slice A n c,.slice A2 n2 c2] 32)) wr) (fun i _ => n1 - (intOf i).toNat)
 case atStart => exact ⟨0,by omega,rfl,Lib.hid rfl,Below.refl _ _⟩
 case round =>
  obtain ⟨wo,rfl⟩:∃ wo:World,wo = wr:=⟨_,rfl⟩
  obtain ⟨k,hk,rfl,hz,hbr⟩:=hrel
  have hbw:Below w.heap.size w wo:=alloc_below (o:=.cells #[.slice A n c,.slice A2 n2 c2] 32) (by simpa using hbr)
  obtain ⟨hcr,hfr⟩:=bcell hbr;(try simp only [bqh,bqc,bqf] at hcr hfr);have hzr:=hbr.size;(try simp at hzr);(try have hyr:=nl1 hzr);(try have hxr:=nl2 hyr);(try refine szz wr w ?_);intros
  by_cases hlt:k < n1
  ·obtain ⟨b,o,x,rfl,hbl,hl,hwf,x0,x1,x2,x3,x4,x5,x6⟩:=Fct_at (HH.out.2.1.now hbw) hlt
   have hkn:=fun w => ref_Known x.key.k x.key.n x.key.s w (inS_max hwf.2.1.2.2)
   have hch:=fun w => ref_ValueFault x.has.k x.has.n x.has.s w (inS_max hwf.2.2.2.2)
   rw [show (⟨x.key.k,x.key.n,x.key.s⟩:Val) = x.key from rfl] at hkn
   rw [show (⟨x.has.k,x.has.n,x.has.s⟩:Val) = x.has from rfl] at hch
   have hfi:=fun w h => ref_FieldAt A n c fl x.name w hnL h
   have hbl':b < wo.heap.size:=hbl
   have hkl:k < l.length:=by rw [HH.out.2.2.2.1];exact hlt
   have HKL:=Lib.hid (And.intro hkl hl)
   clear hwf hbl hkl
   cases hfa:fl[firstAt (hasName x.name) fl]? with
   | none =>
    have HR:=Lib.hid (oracle_hit hz.out (or_none hl hfa) (by decide) HKL.out.1)
    have hge:fl.length ≤ firstAt (hasName x.name) fl:=List.getElem?_eq_none_iff.1 hfa
    have hle:=firstAt_le (hasName x.name) fl
    have hfe:firstAt (hasName x.name) fl = n:=by omega
    rw [hfe] at hfi
    clear hfe
    clear hfa hl hge hle hFl hkn hch
    go_wp2_with (go_at_call 62;refine (hfi _ (HH.out.1.nowN keeps_Fld bel)).mono ?_;rintro e w1 ⟨rfl,hb1⟩;obtain ⟨hc1,hf1⟩:=bcell hb1;(try simp only [bqh,bqc,bqf] at hc1 hf1);have hz1:=hb1.size;(try simp at hz1);(try have hy1:=nl1 hz1);(try have hx1:=nl2 hy1);(try refine szz w1 w ?_);intros;(try refine szz w1 wo ?_);intros)
    go_ret
    rw [HR.out]
    exact ⟨rfl,bel⟩
   | some y =>
    have hst:=or_some hl hfa
    have hfl:firstAt (hasName x.name) fl < fl.length:=(List.getElem?_eq_some_iff.1 hfa).1
    have hnq:((firstAt (hasName x.name) fl:Int) == (n:Int)) = false:=by simp;omega
    generalize firstAt (hasName x.name) fl = fa at hfi hfa hfl hnq
    rw [hFl] at hfl
    clear hFl hl
    obtain ⟨b2,o2,y',X,C,hAe,hbl2,hl2,hrep,v0,v1,v2,v3,v4,v5,v6,v7,v8⟩:=Fld_at HH.out.1 hfl
    rw [hfa] at hl2
    cases hl2
    subst hAe
    have hbl3:b2 < w.heap.size:=hbl2
    have hty:=fun w h h' => ref_TypeOf fl (some ⟨b2,o2,none⟩) n c y.source X C w HH.out.2.2.1 h h'
    have HY:=Lib.hid hrep.parts.2.2.2
    have HST:=Lib.hid hst
    clear hrep hbl2 hfa hst
    have HVV:=Lib.hid (And.intro v0 (And.intro v1 (And.intro v2 (And.intro v3 (And.intro v4 (And.intro v5 (And.intro v6 (And.intro v7 v8))))))))
    clear v0 v1 v2 v3 v4 v5 v6 v7 v8
    by_cases hk3:y.kind = 3
    ·have hst3:=HST.out
     rw [if_pos hk3] at hst3
     have HS3:=Lib.hid hst3
     clear hst3
     obtain ⟨⟨t,te⟩,hr⟩:∃ r,tyRes fl y.source = r:=⟨_,rfl⟩
     have hgc:=good_cases fl x y (t:=t) (by rw [hr])
     rw [hr] at hty
     clear hr
     rcases hgc with ⟨q1,qg⟩ | ⟨q1,q2,qg⟩ | ⟨q1,q2,q3,qg⟩ | ⟨q1,q2,q3,q4,q5,qg⟩ | ⟨q1,q2,q3,q4,qg⟩ | ⟨q1,q2,q3,q4,q5,qg⟩
     ·have hv:=HS3.out
      rw [qg,if_neg (by decide)] at hv
      have HR:=Lib.hid (oracle_hit hz.out hv (by decide) HKL.out.1)
      rw [q1] at hkn
      clear hv qg
      go_wp2_with (first | (go_at_call 62;refine (hfi _ (HH.out.1.nowN keeps_Fld bel)).mono ?_;rintro e w1 ⟨rfl,hb1⟩;obtain ⟨hc1,hf1⟩:=bcell hb1;(try simp only [bqh,bqc,bqf] at hc1 hf1);have hz1:=hb1.size;(try simp at hz1);(try have hy1:=nl1 hz1);(try have hx1:=nl2 hy1);(try refine szz w1 w ?_);intros;(try refine szz w1 wo ?_);intros;have hBx:Below w.heap.size w w1:=bel;have hbl4:b2 < w1.heap.size:=Nat.lt_of_lt_of_le hbl3 hBx.size;have y0:=(hBx.cell (p:=⟨b2,o2 + fa * 9,none⟩) hbl3).trans HVV.out.1;have y1:=(hBx.cell (p:=⟨b2,o2 + fa * 9 + 1,none⟩) hbl3).trans HVV.out.2.1;have y2:=(hBx.cell (p:=⟨b2,o2 + fa * 9 + 2,none⟩) hbl3).trans HVV.out.2.2.1;have y3:=(hBx.cell (p:=⟨b2,o2 + fa * 9 + 3,none⟩) hbl3).trans HVV.out.2.2.2.1;have y4:=(hBx.cell (p:=⟨b2,o2 + fa * 9 + 4,none⟩) hbl3).trans HVV.out.2.2.2.2.1;have y5:=(hBx.cell (p:=⟨b2,o2 + fa * 9 + 5,none⟩) hbl3).trans HVV.out.2.2.2.2.2.1;have y6:=(hBx.cell (p:=⟨b2,o2 + fa * 9 + 6,none⟩) hbl3).trans HVV.out.2.2.2.2.2.2.1;have y7:=(hBx.cell (p:=⟨b2,o2 + fa * 9 + 7,none⟩) hbl3).trans HVV.out.2.2.2.2.2.2.2.1;have y8:=(hBx.cell (p:=⟨b2,o2 + fa * 9 + 8,none⟩) hbl3).trans HVV.out.2.2.2.2.2.2.2.2;clear hBx) | (go_at_call 143;refine (hty _ (HY.out.keep (old_keep bel)) (HH.out.1.nowN keeps_Fld bel)).mono ?_;rintro e w2 ⟨rfl,hb2⟩;obtain ⟨hc2,hf2⟩:=bcell hb2;(try simp only [bqh,bqc,bqf] at hc2 hf2);have hz2:=hb2.size;(try simp at hz2);(try have hy2:=nl1 hz2);(try have hx2:=nl2 hy2);(try refine szz w2 w ?_);intros;(try refine szz w2 wo ?_);intros;(try refine szz w2 w1 ?_);intros;dsimp only) | (go_at_call 144;refine (hkn _).mono ?_;rintro e w3 ⟨rfl,hb3⟩;obtain ⟨hc3,hf3⟩:=bcell hb3;(try simp only [bqh,bqc,bqf] at hc3 hf3);have hz3:=hb3.size;(try simp at hz3);(try have hy3:=nl1 hz3);(try have hx3:=nl2 hy3);(try refine szz w3 w ?_);intros;(try refine szz w3 wo ?_);intros;(try refine szz w3 w1 ?_);intros;(try refine szz w3 w2 ?_);intros))
      go_ret
      rw [HR.out]
      exact ⟨rfl,bel⟩
     ·have hv:=HS3.out
      rw [qg,if_neg (by decide)] at hv
      have HR:=Lib.hid (oracle_hit hz.out hv (by decide) HKL.out.1)
      rw [q1] at hkn
      have q2':=neq_of q2
      simp only [Bool.not_false] at q2'
      clear hv qg
      go_wp2_with (first | (go_at_call 62;refine (hfi _ (HH.out.1.nowN keeps_Fld bel)).mono ?_;rintro e w1 ⟨rfl,hb1⟩;obtain ⟨hc1,hf1⟩:=bcell hb1;(try simp only [bqh,bqc,bqf] at hc1 hf1);have hz1:=hb1.size;(try simp at hz1);(try have hy1:=nl1 hz1);(try have hx1:=nl2 hy1);(try refine szz w1 w ?_);intros;(try refine szz w1 wo ?_);intros;have hBx:Below w.heap.size w w1:=bel;have hbl4:b2 < w1.heap.size:=Nat.lt_of_lt_of_le hbl3 hBx.size;have y0:=(hBx.cell (p:=⟨b2,o2 + fa * 9,none⟩) hbl3).trans HVV.out.1;have y1:=(hBx.cell (p:=⟨b2,o2 + fa * 9 + 1,none⟩) hbl3).trans HVV.out.2.1;have y2:=(hBx.cell (p:=⟨b2,o2 + fa * 9 + 2,none⟩) hbl3).trans HVV.out.2.2.1;have y3:=(hBx.cell (p:=⟨b2,o2 + fa * 9 + 3,none⟩) hbl3).trans HVV.out.2.2.2.1;have y4:=(hBx.cell (p:=⟨b2,o2 + fa * 9 + 4,none⟩) hbl3).trans HVV.out.2.2.2.2.1;have y5:=(hBx.cell (p:=⟨b2,o2 + fa * 9 + 5,none⟩) hbl3).trans HVV.out.2.2.2.2.2.1;have y6:=(hBx.cell (p:=⟨b2,o2 + fa * 9 + 6,none⟩) hbl3).trans HVV.out.2.2.2.2.2.2.1;have y7:=(hBx.cell (p:=⟨b2,o2 + fa * 9 + 7,none⟩) hbl3).trans HVV.out.2.2.2.2.2.2.2.1;have y8:=(hBx.cell (p:=⟨b2,o2 + fa * 9 + 8,none⟩) hbl3).trans HVV.out.2.2.2.2.2.2.2.2;clear hBx) | (go_at_call 143;refine (hty _ (HY.out.keep (old_keep bel)) (HH.out.1.nowN keeps_Fld bel)).mono ?_;rintro e w2 ⟨rfl,hb2⟩;obtain ⟨hc2,hf2⟩:=bcell hb2;(try simp only [bqh,bqc,bqf] at hc2 hf2);have hz2:=hb2.size;(try simp at hz2);(try have hy2:=nl1 hz2);(try have hx2:=nl2 hy2);(try refine szz w2 w ?_);intros;(try refine szz w2 wo ?_);intros;(try refine szz w2 w1 ?_);intros;dsimp only) | (go_at_call 144;refine (hkn _).mono ?_;rintro e w3 ⟨rfl,hb3⟩;obtain ⟨hc3,hf3⟩:=bcell hb3;(try simp only [bqh,bqc,bqf] at hc3 hf3);have hz3:=hb3.size;(try simp at hz3);(try have hy3:=nl1 hz3);(try have hx3:=nl2 hy3);(try refine szz w3 w ?_);intros;(try refine szz w3 wo ?_);intros;(try refine szz w3 w1 ?_);intros;(try refine szz w3 w2 ?_);intros))
      go_ret
      rw [HR.out]
      exact ⟨rfl,bel⟩
     ·have hv:=HS3.out
      rw [qg,if_neg (by decide)] at hv
      have HR:=Lib.hid (oracle_hit hz.out hv (by decide) HKL.out.1)
      rw [q1] at hkn
      have q2':=neq_of q2
      simp only [Bool.not_true] at q2'
      have q3':=neq_of q3
      simp only [Bool.not_false] at q3'
      generalize valCheck x.has = vc at hch q3 q3'
      clear hv qg
      go_wp2_with (first | (go_at_call 62;refine (hfi _ (HH.out.1.nowN keeps_Fld bel)).mono ?_;rintro e w1 ⟨rfl,hb1⟩;obtain ⟨hc1,hf1⟩:=bcell hb1;(try simp only [bqh,bqc,bqf] at hc1 hf1);have hz1:=hb1.size;(try simp at hz1);(try have hy1:=nl1 hz1);(try have hx1:=nl2 hy1);(try refine szz w1 w ?_);intros;(try refine szz w1 wo ?_);intros;have hBx:Below w.heap.size w w1:=bel;have hbl4:b2 < w1.heap.size:=Nat.lt_of_lt_of_le hbl3 hBx.size;have y0:=(hBx.cell (p:=⟨b2,o2 + fa * 9,none⟩) hbl3).trans HVV.out.1;have y1:=(hBx.cell (p:=⟨b2,o2 + fa * 9 + 1,none⟩) hbl3).trans HVV.out.2.1;have y2:=(hBx.cell (p:=⟨b2,o2 + fa * 9 + 2,none⟩) hbl3).trans HVV.out.2.2.1;have y3:=(hBx.cell (p:=⟨b2,o2 + fa * 9 + 3,none⟩) hbl3).trans HVV.out.2.2.2.1;have y4:=(hBx.cell (p:=⟨b2,o2 + fa * 9 + 4,none⟩) hbl3).trans HVV.out.2.2.2.2.1;have y5:=(hBx.cell (p:=⟨b2,o2 + fa * 9 + 5,none⟩) hbl3).trans HVV.out.2.2.2.2.2.1;have y6:=(hBx.cell (p:=⟨b2,o2 + fa * 9 + 6,none⟩) hbl3).trans HVV.out.2.2.2.2.2.2.1;have y7:=(hBx.cell (p:=⟨b2,o2 + fa * 9 + 7,none⟩) hbl3).trans HVV.out.2.2.2.2.2.2.2.1;have y8:=(hBx.cell (p:=⟨b2,o2 + fa * 9 + 8,none⟩) hbl3).trans HVV.out.2.2.2.2.2.2.2.2;clear hBx) | (go_at_call 143;refine (hty _ (HY.out.keep (old_keep bel)) (HH.out.1.nowN keeps_Fld bel)).mono ?_;rintro e w2 ⟨rfl,hb2⟩;obtain ⟨hc2,hf2⟩:=bcell hb2;(try simp only [bqh,bqc,bqf] at hc2 hf2);have hz2:=hb2.size;(try simp at hz2);(try have hy2:=nl1 hz2);(try have hx2:=nl2 hy2);(try refine szz w2 w ?_);intros;(try refine szz w2 wo ?_);intros;(try refine szz w2 w1 ?_);intros;dsimp only) | (go_at_call 144;refine (hkn _).mono ?_;rintro e w3 ⟨rfl,hb3⟩;obtain ⟨hc3,hf3⟩:=bcell hb3;(try simp only [bqh,bqc,bqf] at hc3 hf3);have hz3:=hb3.size;(try simp at hz3);(try have hy3:=nl1 hz3);(try have hx3:=nl2 hy3);(try refine szz w3 w ?_);intros;(try refine szz w3 wo ?_);intros;(try refine szz w3 w1 ?_);intros;(try refine szz w3 w2 ?_);intros) | (go_at_call 71;refine (hch _).mono ?_;rintro e w4 ⟨rfl,hb4⟩;obtain ⟨hc4,hf4⟩:=bcell hb4;(try simp only [bqh,bqc,bqf] at hc4 hf4);have hz4:=hb4.size;(try simp at hz4);(try have hy4:=nl1 hz4);(try have hx4:=nl2 hy4);(try refine szz w4 w ?_);intros;(try refine szz w4 wo ?_);intros;(try refine szz w4 w1 ?_);intros;(try refine szz w4 w2 ?_);intros;(try refine szz w4 w3 ?_);intros))
      go_ret
      rw [HR.out]
      exact ⟨rfl,bel⟩
     ·have hv:=HS3.out
      rw [qg,if_neg (by decide)] at hv
      have HR:=Lib.hid (oracle_hit hz.out hv (by decide) HKL.out.1)
      rw [q1] at hkn
      have q2':=neq_of q2
      simp only [Bool.not_true] at q2'
      have q3':=neq_of q3
      simp only [Bool.not_true] at q3'
      generalize valCheck x.has = vc at hch q3 q3'
      have q4':=neq_of q4
      simp only [Bool.not_false] at q4'
      have q5':=neq_of q5
      simp only [Bool.not_false] at q5'
      clear hv qg
      go_wp2_with (first | (go_at_call 62;refine (hfi _ (HH.out.1.nowN keeps_Fld bel)).mono ?_;rintro e w1 ⟨rfl,hb1⟩;obtain ⟨hc1,hf1⟩:=bcell hb1;(try simp only [bqh,bqc,bqf] at hc1 hf1);have hz1:=hb1.size;(try simp at hz1);(try have hy1:=nl1 hz1);(try have hx1:=nl2 hy1);(try refine szz w1 w ?_);intros;(try refine szz w1 wo ?_);intros;have hBx:Below w.heap.size w w1:=bel;have hbl4:b2 < w1.heap.size:=Nat.lt_of_lt_of_le hbl3 hBx.size;have y0:=(hBx.cell (p:=⟨b2,o2 + fa * 9,none⟩) hbl3).trans HVV.out.1;have y1:=(hBx.cell (p:=⟨b2,o2 + fa * 9 + 1,none⟩) hbl3).trans HVV.out.2.1;have y2:=(hBx.cell (p:=⟨b2,o2 + fa * 9 + 2,none⟩) hbl3).trans HVV.out.2.2.1;have y3:=(hBx.cell (p:=⟨b2,o2 + fa * 9 + 3,none⟩) hbl3).trans HVV.out.2.2.2.1;have y4:=(hBx.cell (p:=⟨b2,o2 + fa * 9 + 4,none⟩) hbl3).trans HVV.out.2.2.2.2.1;have y5:=(hBx.cell (p:=⟨b2,o2 + fa * 9 + 5,none⟩) hbl3).trans HVV.out.2.2.2.2.2.1;have y6:=(hBx.cell (p:=⟨b2,o2 + fa * 9 + 6,none⟩) hbl3).trans HVV.out.2.2.2.2.2.2.1;have y7:=(hBx.cell (p:=⟨b2,o2 + fa * 9 + 7,none⟩) hbl3).trans HVV.out.2.2.2.2.2.2.2.1;have y8:=(hBx.cell (p:=⟨b2,o2 + fa * 9 + 8,none⟩) hbl3).trans HVV.out.2.2.2.2.2.2.2.2;clear hBx) | (go_at_call 143;refine (hty _ (HY.out.keep (old_keep bel)) (HH.out.1.nowN keeps_Fld bel)).mono ?_;rintro e w2 ⟨rfl,hb2⟩;obtain ⟨hc2,hf2⟩:=bcell hb2;(try simp only [bqh,bqc,bqf] at hc2 hf2);have hz2:=hb2.size;(try simp at hz2);(try have hy2:=nl1 hz2);(try have hx2:=nl2 hy2);(try refine szz w2 w ?_);intros;(try refine szz w2 wo ?_);intros;(try refine szz w2 w1 ?_);intros;dsimp only) | (go_at_call 144;refine (hkn _).mono ?_;rintro e w3 ⟨rfl,hb3⟩;obtain ⟨hc3,hf3⟩:=bcell hb3;(try simp only [bqh,bqc,bqf] at hc3 hf3);have hz3:=hb3.size;(try simp at hz3);(try have hy3:=nl1 hz3);(try have hx3:=nl2 hy3);(try refine szz w3 w ?_);intros;(try refine szz w3 wo ?_);intros;(try refine szz w3 w1 ?_);intros;(try refine szz w3 w2 ?_);intros) | (go_at_call 71;refine (hch _).mono ?_;rintro e w4 ⟨rfl,hb4⟩;obtain ⟨hc4,hf4⟩:=bcell hb4;(try simp only [bqh,bqc,bqf] at hc4 hf4);have hz4:=hb4.size;(try simp at hz4);(try have hy4:=nl1 hz4);(try have hx4:=nl2 hy4);(try refine szz w4 w ?_);intros;(try refine szz w4 wo ?_);intros;(try refine szz w4 w1 ?_);intros;(try refine szz w4 w2 ?_);intros;(try refine szz w4 w3 ?_);intros))
      go_ret
      rw [HR.out]
      exact ⟨rfl,bel⟩
     ·have hv:=HS3.out
      rw [qg,if_pos rfl] at hv
      rw [q1] at hkn
      have q2':=neq_of q2
      simp only [Bool.not_true] at q2'
      have q3':=neq_of q3
      simp only [Bool.not_true] at q3'
      generalize valCheck x.has = vc at hch q3 q3'
      have q4':=neq_of q4
      simp only [Bool.not_true] at q4'
      clear qg
      have hcc:k ≤ c1:=Nat.le_trans hk HH.out.2.2.2.2
      have HV:=Lib.hid hv
      clear hv
      go_wp2_with (first | (go_at_call 62;refine (hfi _ (HH.out.1.nowN keeps_Fld bel)).mono ?_;rintro e w1 ⟨rfl,hb1⟩;obtain ⟨hc1,hf1⟩:=bcell hb1;(try simp only [bqh,bqc,bqf] at hc1 hf1);have hz1:=hb1.size;(try simp at hz1);(try have hy1:=nl1 hz1);(try have hx1:=nl2 hy1);(try refine szz w1 w ?_);intros;(try refine szz w1 wo ?_);intros;have hBx:Below w.heap.size w w1:=bel;have hbl4:b2 < w1.heap.size:=Nat.lt_of_lt_of_le hbl3 hBx.size;have y0:=(hBx.cell (p:=⟨b2,o2 + fa * 9,none⟩) hbl3).trans HVV.out.1;have y1:=(hBx.cell (p:=⟨b2,o2 + fa * 9 + 1,none⟩) hbl3).trans HVV.out.2.1;have y2:=(hBx.cell (p:=⟨b2,o2 + fa * 9 + 2,none⟩) hbl3).trans HVV.out.2.2.1;have y3:=(hBx.cell (p:=⟨b2,o2 + fa * 9 + 3,none⟩) hbl3).trans HVV.out.2.2.2.1;have y4:=(hBx.cell (p:=⟨b2,o2 + fa * 9 + 4,none⟩) hbl3).trans HVV.out.2.2.2.2.1;have y5:=(hBx.cell (p:=⟨b2,o2 + fa * 9 + 5,none⟩) hbl3).trans HVV.out.2.2.2.2.2.1;have y6:=(hBx.cell (p:=⟨b2,o2 + fa * 9 + 6,none⟩) hbl3).trans HVV.out.2.2.2.2.2.2.1;have y7:=(hBx.cell (p:=⟨b2,o2 + fa * 9 + 7,none⟩) hbl3).trans HVV.out.2.2.2.2.2.2.2.1;have y8:=(hBx.cell (p:=⟨b2,o2 + fa * 9 + 8,none⟩) hbl3).trans HVV.out.2.2.2.2.2.2.2.2;clear hBx) | (go_at_call 143;refine (hty _ (HY.out.keep (old_keep bel)) (HH.out.1.nowN keeps_Fld bel)).mono ?_;rintro e w2 ⟨rfl,hb2⟩;obtain ⟨hc2,hf2⟩:=bcell hb2;(try simp only [bqh,bqc,bqf] at hc2 hf2);have hz2:=hb2.size;(try simp at hz2);(try have hy2:=nl1 hz2);(try have hx2:=nl2 hy2);(try refine szz w2 w ?_);intros;(try refine szz w2 wo ?_);intros;(try refine szz w2 w1 ?_);intros;dsimp only) | (go_at_call 144;refine (hkn _).mono ?_;rintro e w3 ⟨rfl,hb3⟩;obtain ⟨hc3,hf3⟩:=bcell hb3;(try simp only [bqh,bqc,bqf] at hc3 hf3);have hz3:=hb3.size;(try simp at hz3);(try have hy3:=nl1 hz3);(try have hx3:=nl2 hy3);(try refine szz w3 w ?_);intros;(try refine szz w3 wo ?_);intros;(try refine szz w3 w1 ?_);intros;(try refine szz w3 w2 ?_);intros) | (go_at_call 71;refine (hch _).mono ?_;rintro e w4 ⟨rfl,hb4⟩;obtain ⟨hc4,hf4⟩:=bcell hb4;(try simp only [bqh,bqc,bqf] at hc4 hf4);have hz4:=hb4.size;(try simp at hz4);(try have hy4:=nl1 hz4);(try have hx4:=nl2 hy4);(try refine szz w4 w ?_);intros;(try refine szz w4 wo ?_);intros;(try refine szz w4 w1 ?_);intros;(try refine szz w4 w2 ?_);intros;(try refine szz w4 w3 ?_);intros))
      go_loopw [83] (fun i wq => ∃ j:Nat,j ≤ k ∧ i = .int .i64 j ∧ Hid ((l.take j).any (sameKey x) = false) ∧ Below w4.heap.size w4 wq) (fun i _ => k - (intOf i).toNat)
      case atStart => exact ⟨0,by omega,rfl,Lib.hid (by simp),Below.refl _ _⟩
      case round =>
       obtain ⟨j,hj,rfl,hvj,hbq⟩:=hrel
       have HBO:=Lib.hid (show Below w.heap.size w wr from bel)
       obtain ⟨hcq,hfq⟩:=bcell hbq;(try simp only [bqh,bqc,bqf] at hcq hfq);have hzq:=hbq.size;(try simp at hzq);(try have hyq:=nl1 hzq);(try have hxq:=nl2 hyq);(try refine szz wq w ?_);intros;(try refine szz wq wo ?_);intros;(try refine szz wq w1 ?_);intros;(try refine szz wq w2 ?_);intros;(try refine szz wq w3 ?_);intros;(try refine szz wq w4 ?_);intros
       have nnq:wo.heap.size < wr.heap.size:=by have h1:=hbq.size;omega
       by_cases hjl:j < k
       ·obtain ⟨b',o',z,hbb,_,hly,_,z0,z1,z2,z3,_,_,_⟩:=Fct_at (HH.out.2.1.now HBO.out) (show j < n1 by omega)
        cases hbb
        have hq:=fun w => run_eql_Val w z.key.k z.key.n x.key.k x.key.n z.key.s x.key.s
        rw [show (⟨z.key.k,z.key.n,z.key.s⟩:Val) = z.key from rfl,show (⟨x.key.k,x.key.n,x.key.s⟩:Val) = x.key from rfl] at hq
        have HYY:=Lib.hid hly
        have hjn:j < n1:=by omega
        clear hly
        have hsk:sameKey x z = (z.name.toList == x.name.toList && valEq z.key x.key):=rfl
        cases hp:(z.name.toList == x.name.toList)
        ·have HP:=Lib.hid (show sameKey x z = false by rw [hsk,hp];rfl)
         clear hsk hq
         go_wp2_with fail
         go_roundw
         case rel =>
          refine ⟨j + 1,by omega,by go_num,Lib.hid ?_,bel⟩
          rw [List.take_add_one,HYY.out,List.any_append,hvj.out]
          simp [HP.out]
         case measure => simp [intOf];omega
        ·cases hp2:valEq z.key x.key
         ·have HP:=Lib.hid (show sameKey x z = false by rw [hsk,hp2];simp)
          rw [hp2] at hq
          clear hsk hp2
          go_wp2_with fail
          go_roundw
          case rel =>
           refine ⟨j + 1,by omega,by go_num,Lib.hid ?_,bel⟩
           rw [List.take_add_one,HYY.out,List.any_append,hvj.out]
           simp [HP.out]
          case measure => simp [intOf];omega
         ·have hP:sameKey x z = true:=by rw [hsk,hp,hp2];rfl
          have ha:(l.take k).any (sameKey x) = true:=by
           rw [List.any_eq_true]
           refine ⟨z,List.mem_of_getElem? (i:=j) ?_,hP⟩
           rw [List.getElem?_take_of_lt hjl]
           exact HYY.out
          have h6:=HV.out
          rw [ha,if_pos rfl] at h6
          have HR:=Lib.hid (oracle_hit hz.out h6 (by decide) HKL.out.1)
          rw [hp2] at hq
          clear hsk hp2 hP ha h6
          go_wp2_with fail
          go_ret
          rw [HR.out]
          exact ⟨rfl,bel⟩
       ·have hke:j = k:=by omega
        subst hke
        have h6:=HV.out
        rw [hvj.out,if_neg (by decide)] at h6
        have HZ:=Lib.hid (firstErr_next hz.out h6)
        clear h6
        go_wp2_with fail
        go_roundw
        case rel => exact ⟨j + 1,by omega,by go_num,HZ,bel⟩
        case measure => simp [intOf];omega
     ·have hv:=HS3.out
      rw [qg,if_pos rfl] at hv
      rw [q1] at hkn
      have q2':=neq_of q2
      simp only [Bool.not_true] at q2'
      have q3':=neq_of q3
      simp only [Bool.not_true] at q3'
      generalize valCheck x.has = vc at hch q3 q3'
      have q4':=neq_of q4
      simp only [Bool.not_false] at q4'
      have q5':=neq_of q5
      simp only [Bool.not_true] at q5'
      clear qg
      have hcc:k ≤ c1:=Nat.le_trans hk HH.out.2.2.2.2
      have HV:=Lib.hid hv
      clear hv
      go_wp2_with (first | (go_at_call 62;refine (hfi _ (HH.out.1.nowN keeps_Fld bel)).mono ?_;rintro e w1 ⟨rfl,hb1⟩;obtain ⟨hc1,hf1⟩:=bcell hb1;(try simp only [bqh,bqc,bqf] at hc1 hf1);have hz1:=hb1.size;(try simp at hz1);(try have hy1:=nl1 hz1);(try have hx1:=nl2 hy1);(try refine szz w1 w ?_);intros;(try refine szz w1 wo ?_);intros;have hBx:Below w.heap.size w w1:=bel;have hbl4:b2 < w1.heap.size:=Nat.lt_of_lt_of_le hbl3 hBx.size;have y0:=(hBx.cell (p:=⟨b2,o2 + fa * 9,none⟩) hbl3).trans HVV.out.1;have y1:=(hBx.cell (p:=⟨b2,o2 + fa * 9 + 1,none⟩) hbl3).trans HVV.out.2.1;have y2:=(hBx.cell (p:=⟨b2,o2 + fa * 9 + 2,none⟩) hbl3).trans HVV.out.2.2.1;have y3:=(hBx.cell (p:=⟨b2,o2 + fa * 9 + 3,none⟩) hbl3).trans HVV.out.2.2.2.1;have y4:=(hBx.cell (p:=⟨b2,o2 + fa * 9 + 4,none⟩) hbl3).trans HVV.out.2.2.2.2.1;have y5:=(hBx.cell (p:=⟨b2,o2 + fa * 9 + 5,none⟩) hbl3).trans HVV.out.2.2.2.2.2.1;have y6:=(hBx.cell (p:=⟨b2,o2 + fa * 9 + 6,none⟩) hbl3).trans HVV.out.2.2.2.2.2.2.1;have y7:=(hBx.cell (p:=⟨b2,o2 + fa * 9 + 7,none⟩) hbl3).trans HVV.out.2.2.2.2.2.2.2.1;have y8:=(hBx.cell (p:=⟨b2,o2 + fa * 9 + 8,none⟩) hbl3).trans HVV.out.2.2.2.2.2.2.2.2;clear hBx) | (go_at_call 143;refine (hty _ (HY.out.keep (old_keep bel)) (HH.out.1.nowN keeps_Fld bel)).mono ?_;rintro e w2 ⟨rfl,hb2⟩;obtain ⟨hc2,hf2⟩:=bcell hb2;(try simp only [bqh,bqc,bqf] at hc2 hf2);have hz2:=hb2.size;(try simp at hz2);(try have hy2:=nl1 hz2);(try have hx2:=nl2 hy2);(try refine szz w2 w ?_);intros;(try refine szz w2 wo ?_);intros;(try refine szz w2 w1 ?_);intros;dsimp only) | (go_at_call 144;refine (hkn _).mono ?_;rintro e w3 ⟨rfl,hb3⟩;obtain ⟨hc3,hf3⟩:=bcell hb3;(try simp only [bqh,bqc,bqf] at hc3 hf3);have hz3:=hb3.size;(try simp at hz3);(try have hy3:=nl1 hz3);(try have hx3:=nl2 hy3);(try refine szz w3 w ?_);intros;(try refine szz w3 wo ?_);intros;(try refine szz w3 w1 ?_);intros;(try refine szz w3 w2 ?_);intros) | (go_at_call 71;refine (hch _).mono ?_;rintro e w4 ⟨rfl,hb4⟩;obtain ⟨hc4,hf4⟩:=bcell hb4;(try simp only [bqh,bqc,bqf] at hc4 hf4);have hz4:=hb4.size;(try simp at hz4);(try have hy4:=nl1 hz4);(try have hx4:=nl2 hy4);(try refine szz w4 w ?_);intros;(try refine szz w4 wo ?_);intros;(try refine szz w4 w1 ?_);intros;(try refine szz w4 w2 ?_);intros;(try refine szz w4 w3 ?_);intros))
      go_loopw [83] (fun i wq => ∃ j:Nat,j ≤ k ∧ i = .int .i64 j ∧ Hid ((l.take j).any (sameKey x) = false) ∧ Below w4.heap.size w4 wq) (fun i _ => k - (intOf i).toNat)
      case atStart => exact ⟨0,by omega,rfl,Lib.hid (by simp),Below.refl _ _⟩
      case round =>
       obtain ⟨j,hj,rfl,hvj,hbq⟩:=hrel
       have HBO:=Lib.hid (show Below w.heap.size w wr from bel)
       obtain ⟨hcq,hfq⟩:=bcell hbq;(try simp only [bqh,bqc,bqf] at hcq hfq);have hzq:=hbq.size;(try simp at hzq);(try have hyq:=nl1 hzq);(try have hxq:=nl2 hyq);(try refine szz wq w ?_);intros;(try refine szz wq wo ?_);intros;(try refine szz wq w1 ?_);intros;(try refine szz wq w2 ?_);intros;(try refine szz wq w3 ?_);intros;(try refine szz wq w4 ?_);intros
       have nnq:wo.heap.size < wr.heap.size:=by have h1:=hbq.size;omega
       by_cases hjl:j < k
       ·obtain ⟨b',o',z,hbb,_,hly,_,z0,z1,z2,z3,_,_,_⟩:=Fct_at (HH.out.2.1.now HBO.out) (show j < n1 by omega)
        cases hbb
        have hq:=fun w => run_eql_Val w z.key.k z.key.n x.key.k x.key.n z.key.s x.key.s
        rw [show (⟨z.key.k,z.key.n,z.key.s⟩:Val) = z.key from rfl,show (⟨x.key.k,x.key.n,x.key.s⟩:Val) = x.key from rfl] at hq
        have HYY:=Lib.hid hly
        have hjn:j < n1:=by omega
        clear hly
        have hsk:sameKey x z = (z.name.toList == x.name.toList && valEq z.key x.key):=rfl
        cases hp:(z.name.toList == x.name.toList)
        ·have HP:=Lib.hid (show sameKey x z = false by rw [hsk,hp];rfl)
         clear hsk hq
         go_wp2_with fail
         go_roundw
         case rel =>
          refine ⟨j + 1,by omega,by go_num,Lib.hid ?_,bel⟩
          rw [List.take_add_one,HYY.out,List.any_append,hvj.out]
          simp [HP.out]
         case measure => simp [intOf];omega
        ·cases hp2:valEq z.key x.key
         ·have HP:=Lib.hid (show sameKey x z = false by rw [hsk,hp2];simp)
          rw [hp2] at hq
          clear hsk hp2
          go_wp2_with fail
          go_roundw
          case rel =>
           refine ⟨j + 1,by omega,by go_num,Lib.hid ?_,bel⟩
           rw [List.take_add_one,HYY.out,List.any_append,hvj.out]
           simp [HP.out]
          case measure => simp [intOf];omega
         ·have hP:sameKey x z = true:=by rw [hsk,hp,hp2];rfl
          have ha:(l.take k).any (sameKey x) = true:=by
           rw [List.any_eq_true]
           refine ⟨z,List.mem_of_getElem? (i:=j) ?_,hP⟩
           rw [List.getElem?_take_of_lt hjl]
           exact HYY.out
          have h6:=HV.out
          rw [ha,if_pos rfl] at h6
          have HR:=Lib.hid (oracle_hit hz.out h6 (by decide) HKL.out.1)
          rw [hp2] at hq
          clear hsk hp2 hP ha h6
          go_wp2_with fail
          go_ret
          rw [HR.out]
          exact ⟨rfl,bel⟩
       ·have hke:j = k:=by omega
        subst hke
        have h6:=HV.out
        rw [hvj.out,if_neg (by decide)] at h6
        have HZ:=Lib.hid (firstErr_next hz.out h6)
        clear h6
        go_wp2_with fail
        go_roundw
        case rel => exact ⟨j + 1,by omega,by go_num,HZ,bel⟩
        case measure => simp [intOf];omega
    ·have hst2:=HST.out
     rw [if_neg hk3] at hst2
     have HR:=Lib.hid (oracle_hit hz.out hst2 (by decide) HKL.out.1)
     have hk3':(y.kind != 3) = true:=by simpa using hk3
     clear hst2 hk3
     go_wp2_with (go_at_call 62;refine (hfi _ (HH.out.1.nowN keeps_Fld bel)).mono ?_;rintro e w1 ⟨rfl,hb1⟩;obtain ⟨hc1,hf1⟩:=bcell hb1;(try simp only [bqh,bqc,bqf] at hc1 hf1);have hz1:=hb1.size;(try simp at hz1);(try have hy1:=nl1 hz1);(try have hx1:=nl2 hy1);(try refine szz w1 w ?_);intros;(try refine szz w1 wo ?_);intros;have hBx:Below w.heap.size w w1:=bel;have hbl4:b2 < w1.heap.size:=Nat.lt_of_lt_of_le hbl3 hBx.size;have y0:=(hBx.cell (p:=⟨b2,o2 + fa * 9,none⟩) hbl3).trans HVV.out.1;have y1:=(hBx.cell (p:=⟨b2,o2 + fa * 9 + 1,none⟩) hbl3).trans HVV.out.2.1;have y2:=(hBx.cell (p:=⟨b2,o2 + fa * 9 + 2,none⟩) hbl3).trans HVV.out.2.2.1;have y3:=(hBx.cell (p:=⟨b2,o2 + fa * 9 + 3,none⟩) hbl3).trans HVV.out.2.2.2.1;have y4:=(hBx.cell (p:=⟨b2,o2 + fa * 9 + 4,none⟩) hbl3).trans HVV.out.2.2.2.2.1;have y5:=(hBx.cell (p:=⟨b2,o2 + fa * 9 + 5,none⟩) hbl3).trans HVV.out.2.2.2.2.2.1;have y6:=(hBx.cell (p:=⟨b2,o2 + fa * 9 + 6,none⟩) hbl3).trans HVV.out.2.2.2.2.2.2.1;have y7:=(hBx.cell (p:=⟨b2,o2 + fa * 9 + 7,none⟩) hbl3).trans HVV.out.2.2.2.2.2.2.2.1;have y8:=(hBx.cell (p:=⟨b2,o2 + fa * 9 + 8,none⟩) hbl3).trans HVV.out.2.2.2.2.2.2.2.2;clear hBx)
     go_ret
     rw [HR.out]
     exact ⟨rfl,bel⟩
  ·have hke:k = n1:=by omega
   subst hke
   have HR:=Lib.hid (show oracleErr fl l = 0 by unfold oracleErr;rw [HH.out.2.2.2.1];exact hz.out)
   go_wp2_with fail
   go_ret
   rw [HR.out]
   exact ⟨rfl,hbw⟩
end Go.Proofs.YtbhkpepinogigaaGreat
