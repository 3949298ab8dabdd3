/- The reference's climber: ahead at a leaf. -/
import Derived.Test.YtldbpmlgbbomcaaGreatDoorCb2
namespace Go.Proofs.YtldbpmlgbbomcaaGreatDoor
open Go.RowKit

theorem CbS.re {T0:Nat} {w W:World} {R:Nat} {l:List Tkn} {p:Nat} {b:Bool} {v0:Value} (h:CbS T0 w R l p b) (hv:w.cell? ⟨R,0,none⟩ = some v0) (hb:Bes R w W) (q:Nat) (b':Bool) (h0:W.cell? ⟨R,0,none⟩ = some v0) (h1:W.cell? ⟨R,1,none⟩ = some (.int .i64 q)) (h2:W.cell? ⟨R,2,none⟩ = some (.bool b')) (f1:W.frozen? ⟨R,1,none⟩ = false) (f2:W.frozen? ⟨R,2,none⟩ = false) (hq:q ≤ l.length):CbS T0 W R l q b':=by
 obtain ⟨A,c,g1,g2,g3⟩:=h
 have hlt:=g1.lt
 rw [g1.1] at hv
 cases hv
 exact ⟨A,c,⟨h0,h1,h2,f1,f2⟩,⟨g2.1,hq,g2.2.2⟩,g3.keep (fun b hb' => hb.block b (by omega) (by omega)) (fun _ _ h => h)⟩
set_option maxRecDepth 100000 in
set_option maxHeartbeats 8000000 in
theorem ahead_leaf (T0 R:Nat) (l:List Tkn) (hok:TokOk l) (p:Nat) (w:World) (hs:CbS T0 w R l p false) (h3:isTk (sgnN 3) (l.drop p) = false) (h4:isTk (sgnN 4) (l.drop p) = false) (ho:isTk tOpen (l.drop p) = false) (ht:isTk tTrue (l.drop p) = false) (hf:isTk tFalse (l.drop p) = false) (hi:isTk (sgnN 17) (l.drop p) = false) (hl:isTk (sgnN 18) (l.drop p) = false) :
  Calls Tryz.prog 48 #[.pointer (some ⟨R,0,none⟩)] w (CPost T0 R l w (rdOne (l.drop p))):=by
 have hRlt:=hs.lt
 have n0:¬ w.heap.size = R:=by omega
 have n1:¬ w.heap.size + 1 = R:=by omega
 obtain ⟨kp,k160⟩:=hs.bd
 have hnx:=fun w h => climb_next T0 R l p false w h
 rw [rdOne_leaf h3 h4 ho ht hf hi hl]
 have e1:((nxtT (l.drop p)).toList == [45]) = false:=by simpa using nxt_no (g:=⟨#[45]⟩) (by decide) h3
 have e2:((nxtT (l.drop p)).toList == [110,111,116]) = false:=by simpa using nxt_no (g:=⟨#[110,111,116]⟩) (by decide) h4
 have e3:((nxtT (l.drop p)).toList == [40]) = false:=by simpa using nxt_no (g:=⟨#[40]⟩) (by decide) ho
 have e4:((nxtT (l.drop p)).toList == [116,114,117,101]) = false:=by simpa using nxt_no (g:=⟨#[116,114,117,101]⟩) (by decide) ht
 have e5:((nxtT (l.drop p)).toList == [102,97,108,115,101]) = false:=by simpa using nxt_no (g:=⟨#[102,97,108,115,101]⟩) (by decide) hf
 have e6:((nxtT (l.drop p)).toList == [105,102]) = false:=by simpa using nxt_no (g:=⟨#[105,102]⟩) (by decide) hi
 have e7:((nxtT (l.drop p)).toList == [108,101,110]) = false:=by simpa using nxt_no (g:=⟨#[108,101,110]⟩) (by decide) hl
 clear h3 h4 ho ht hf hi hl
 generalize nxtT (l.drop p) = s at hnx e1 e2 e3 e4 e5 e6 e7
 obtain ⟨AA,cc,⟨k0,k1,k2,k3,k4⟩,⟨kc,_,_⟩,hsl⟩:=id hs
 have HNX:=Lib.hid hnx
 have HS:=Lib.hid (And.intro hs k0)
 by_cases hlt:p < l.length
 ·obtain ⟨g,o,t,rfl,hb,htl,hwf,x0,x1,x2,x3,x4,x5⟩:=Tkn_at hsl hlt
  have hgl:g < w.heap.size:=block_lt_of_cell x0
  have hgr:¬ g = R:=by omega
  have hlt':(p:Int) < (l.length:Int):=by omega
  have hdr:l.drop p = t :: l.drop (p + 1):=by rw [List.getElem?_eq_getElem hlt] at htl;rw [List.drop_eq_getElem_cons hlt,Option.some.inj htl]
  have htw:=hok t (List.mem_of_getElem? htl)
  have HTW:=Lib.hid htw
  have HDR:=Lib.hid hdr
  rw [hdr]
  clear hs hnx hok hsl htl hdr htw hwf hb
  obtain ⟨G,hG⟩:∃ G,G = leafP (t :: l.drop (p + 1)):=⟨_,rfl⟩
  rw [← hG]
  have HG:=Lib.hid hG
  clear hG
  go_enter Tryz.func48,Tryz.ntmps48
  go_wp2_with (go_at_call 50;refine (HNX.out _ (HS.out.1.keep bel)).mono ?_;rintro e w1 ⟨rfl,hb1⟩;obtain ⟨hc1,hf1⟩:=bcell hb1;(try simp only [bqh,bqc,bqf] at hc1 hf1);have hz1:=hb1.size;(try simp at hz1);(try have hy1:=nl1 hz1);(try have hx1:=nl2 hy1);refine szz w1 w ?_;intros;have hR1:R < w1.heap.size:=(by omega);have hg1:g < w1.heap.size:=(by omega);have hw1:w.heap.size < w1.heap.size:=(by omega))
  go_quiet (fail)
  go_wp2_with fail
  refine wp_world ?_;intro W0 hW0
  have hbW:Below w.heap.size w W0:=by rw [hW0];exact bel
  have hzW:ZBX W0 w.heap.size:=by rw [hW0];unfold ZBX;and_intros <;> go_simp
  have hlW:w.heap.size < W0.heap.size:=by rw [hW0];simp;omega
  clear hW0 hc1 hf1 hb1
  obtain ⟨⟨z0,z1,z2,z3,z4,z5⟩,q0,q1,q2,q3,q4,q5⟩:=id hzW
  replace k0:=(hbW.cell (p:=⟨R,0,none⟩) hRlt).trans k0
  replace k1:=(hbW.cell (p:=⟨R,1,none⟩) hRlt).trans k1
  replace k2:=(hbW.cell (p:=⟨R,2,none⟩) hRlt).trans k2
  replace k3:=(hbW.frozen (p:=⟨R,1,none⟩) hRlt).trans k3
  replace k4:=(hbW.frozen (p:=⟨R,2,none⟩) hRlt).trans k4
  replace x0:=(hbW.cell (p:=⟨g,o + p * 6,none⟩) hgl).trans x0
  replace x1:=(hbW.cell (p:=⟨g,o + p * 6 + 1,none⟩) hgl).trans x1
  replace x2:=(hbW.cell (p:=⟨g,o + p * 6 + 2,none⟩) hgl).trans x2
  replace x3:=(hbW.cell (p:=⟨g,o + p * 6 + 3,none⟩) hgl).trans x3
  replace x4:=(hbW.cell (p:=⟨g,o + p * 6 + 4,none⟩) hgl).trans x4
  replace x5:=(hbW.cell (p:=⟨g,o + p * 6 + 5,none⟩) hgl).trans x5
  have hR0:R < W0.heap.size:=by omega
  have hg0:g < W0.heap.size:=by omega
  have m0:¬ W0.heap.size = R:=by omega
  have m1:¬ w.heap.size = W0.heap.size:=by omega
  clear hzW
  have hbs:=Bes.of (R:=R) hbW
  have hre:=fun (q:Nat) (b':Bool) {W:World} h0 h1 h2 f1 f2 hq hb => HS.out.1.re (W:=W) HS.out.2 hb q b' h0 h1 h2 f1 f2 hq
  go_region
  by_cases hk1:t.kind = 1 ∨ t.kind = 3
  ·have hn2:¬ (t.kind = 2 ∧ isKey t.s = false):=fun h => by rcases hk1 with e | e <;> (rw [e] at h;exact absurd h.1 (by decide))
   have HP:Hid (leafP (t :: l.drop (p + 1)) = .ok (cstX t.v) (l.drop (p + 1))):=Lib.hid (by unfold leafP;simp only;rw [if_neg hn2,if_pos hk1])
   have hg:(t.kind == 1) = true ∨ ((t.kind == 1) = false ∧ (t.kind == 3) = true):=by
    rcases hk1 with e | e
    ·exact .inl (by simpa using e)
    ·exact .inr ⟨by rw [e];rfl,by simpa using e⟩
   clear hk1 hn2
   rcases hg with hg | ⟨hg,hg'⟩
   all_goals
    go_wp2_with fail
    exact bodyPost_ret (v:=.agg #[.int .i64 1,.int .i64 t.v.k,.int .i64 t.v.n,.string t.v.s,.string ⟨#[]⟩,.slice none 0 0]) (by first | (simp [results,Tryz.results48,go_sem];done) | (simp [results,Tryz.results48,go_sem, *];done)) rfl (cpost_shut (x:=cstX t.v) (p:=(p + 1)) (b:=false) ⟨none,0,rfl,cst_rep HTW.out.2,hre (p + 1) false (by first | (go_simp;done) | (go_simp;exact World.cell?_setCell_same' _ _ _ (by go_simp))) (by go_simp) (by first | (go_simp;done) | (go_simp;exact World.cell?_setCell_same' _ _ _ (by go_simp))) (by go_simp) (by go_simp) (by omega) bes,bes⟩ (HG.out.trans HP.out))
  ·have g1:(t.kind == 1) = false:=by simpa using fun e => hk1 (.inl e)
   have g3:(t.kind == 3) = false:=by simpa using fun e => hk1 (.inr e)
   by_cases hk2:t.kind = 2
   ·have g2:(t.kind == 2) = true:=by simpa using hk2
    cases hky:isKey t.s with
    | false =>
     have HP:Hid (leafP (t :: l.drop (p + 1)) = .ok (refX t.s) (l.drop (p + 1))):=Lib.hid (by unfold leafP;simp only;rw [if_pos ⟨hk2,hky⟩])
     clear hk1 hk2
     go_wp2_with (go_at_call 94;refine calls_world ?_;intro W2 hW2;have hbs2:Bes R W0 W2:=(by rw [hW2];exact bes);have r0:W2.cell? ⟨R,0,none⟩ = W0.cell? ⟨R,0,none⟩:=(by rw [hW2];go_simp);have r1:W2.cell? ⟨R,1,none⟩ = some (.int .i64 ((p:Int) + 1)):=(by rw [hW2];go_simp);have r2:W2.cell? ⟨R,2,none⟩ = some (.bool false):=(by rw [hW2];go_simp);have r3:W2.frozen? ⟨R,1,none⟩ = false:=(by rw [hW2];go_simp);have r4:W2.frozen? ⟨R,2,none⟩ = false:=(by rw [hW2];go_simp);have t2:W2.cell? ⟨W0.heap.size,2,none⟩ = some (.string t.s):=(by rw [hW2];go_simp);have hzW2:ZBX W2 w.heap.size:=(by rw [hW2];unfold ZBX;and_intros <;> go_simp);have hl2:W0.heap.size < W2.heap.size:=(by rw [hW2];simp);clear hW2;rw [k0] at r0;obtain ⟨⟨u0,u1,u2,u3,u4,u5⟩,v0,v1,v2,v3,v4,v5⟩:=hzW2;have hR2:R < W2.heap.size:=(by omega);have hl22:w.heap.size < W2.heap.size:=(by omega);refine (ref_LexKey t.s W2).mono ?_;rintro e w2 ⟨rfl,hb2⟩;obtain ⟨hc2,hf2⟩:=bcell hb2;(try simp only [bqh,bqc,bqf] at hc2 hf2);have hz2:=hb2.size;(try simp at hz2);(try have hy2:=nl1 hz2);(try have hx2:=nl2 hy2);refine szz w2 W2 ?_;intros;have hbs2w:=Bes.of (R:=R) hb2;have hR3:R < w2.heap.size:=(by omega);have hl23:w.heap.size < w2.heap.size:=(by omega))
     exact bodyPost_ret (v:=.agg #[.int .i64 2,.int .i64 0,.int .i64 0,.string ⟨#[]⟩,.string t.s,.slice none 0 0]) (by first | (simp [results,Tryz.results48,go_sem];done) | (simp [results,Tryz.results48,go_sem, *];done)) rfl (cpost_shut (x:=refX t.s) (p:=(p + 1)) (b:=false) ⟨none,0,rfl,ref_rep HTW.out.1,hre (p + 1) false (by first | (go_simp;done) | (go_simp;exact World.cell?_setCell_same' _ _ _ (by go_simp))) (by go_simp) (by first | (go_simp;done) | (go_simp;exact World.cell?_setCell_same' _ _ _ (by go_simp))) (by go_simp) (by go_simp) (by omega) bes,bes⟩ (HG.out.trans HP.out))
    | true =>
     have HP:Hid (leafP (t :: l.drop (p + 1)) = .bad (l.drop p)):=Lib.hid (by rw [HDR.out];unfold leafP;simp only;rw [if_neg (fun h => by rw [hky] at h;cases h.2),if_neg hk1])
     clear hk1 hk2
     go_wp2_with (go_at_call 94;refine calls_world ?_;intro W2 hW2;have hbs2:Bes R W0 W2:=(by rw [hW2];exact bes);have r0:W2.cell? ⟨R,0,none⟩ = W0.cell? ⟨R,0,none⟩:=(by rw [hW2];go_simp);have r1:W2.cell? ⟨R,1,none⟩ = some (.int .i64 ((p:Int) + 1)):=(by rw [hW2];go_simp);have r2:W2.cell? ⟨R,2,none⟩ = some (.bool false):=(by rw [hW2];go_simp);have r3:W2.frozen? ⟨R,1,none⟩ = false:=(by rw [hW2];go_simp);have r4:W2.frozen? ⟨R,2,none⟩ = false:=(by rw [hW2];go_simp);have t2:W2.cell? ⟨W0.heap.size,2,none⟩ = some (.string t.s):=(by rw [hW2];go_simp);have hzW2:ZBX W2 w.heap.size:=(by rw [hW2];unfold ZBX;and_intros <;> go_simp);have hl2:W0.heap.size < W2.heap.size:=(by rw [hW2];simp);clear hW2;rw [k0] at r0;obtain ⟨⟨u0,u1,u2,u3,u4,u5⟩,v0,v1,v2,v3,v4,v5⟩:=hzW2;have hR2:R < W2.heap.size:=(by omega);have hl22:w.heap.size < W2.heap.size:=(by omega);refine (ref_LexKey t.s W2).mono ?_;rintro e w2 ⟨rfl,hb2⟩;obtain ⟨hc2,hf2⟩:=bcell hb2;(try simp only [bqh,bqc,bqf] at hc2 hf2);have hz2:=hb2.size;(try simp at hz2);(try have hy2:=nl1 hz2);(try have hx2:=nl2 hy2);refine szz w2 W2 ?_;intros;have hbs2w:=Bes.of (R:=R) hb2;have hR3:R < w2.heap.size:=(by omega);have hl23:w.heap.size < w2.heap.size:=(by omega))
     exact bodyPost_ret (v:=.agg #[.int .i64 0,.int .i64 0,.int .i64 0,.string ⟨#[]⟩,.string ⟨#[]⟩,.slice none 0 0]) (by first | (simp [results,Tryz.results48,go_sem];done) | (simp [results,Tryz.results48,go_sem, *];done)) rfl (cpost_shut (x:=zE) (p:=p) (b:=true) ⟨none,0,rfl,zE_rep,hre p true (by first | (go_simp;done) | (go_simp;exact World.cell?_setCell_same' _ _ _ (by go_simp))) (by go_simp) (by first | (go_simp;done) | (go_simp;exact World.cell?_setCell_same' _ _ _ (by go_simp))) (by go_simp) (by go_simp) (by omega) bes,bes⟩ (HG.out.trans HP.out))
   ·have g2:(t.kind == 2) = false:=by simpa using hk2
    have HP:Hid (leafP (t :: l.drop (p + 1)) = .bad (l.drop p)):=Lib.hid (by rw [HDR.out];unfold leafP;simp only;rw [if_neg (fun h => hk2 h.1),if_neg hk1])
    clear hk1 hk2
    go_wp2_with fail
    exact bodyPost_ret (v:=.agg #[.int .i64 0,.int .i64 0,.int .i64 0,.string ⟨#[]⟩,.string ⟨#[]⟩,.slice none 0 0]) (by first | (simp [results,Tryz.results48,go_sem];done) | (simp [results,Tryz.results48,go_sem, *];done)) rfl (cpost_shut (x:=zE) (p:=p) (b:=true) ⟨none,0,rfl,zE_rep,hre p true (by first | (go_simp;done) | (go_simp;exact World.cell?_setCell_same' _ _ _ (by go_simp))) (by go_simp) (by first | (go_simp;done) | (go_simp;exact World.cell?_setCell_same' _ _ _ (by go_simp))) (by go_simp) (by go_simp) (by omega) bes,bes⟩ (HG.out.trans HP.out))
 ·have hlt':¬ (p:Int) < (l.length:Int):=by omega
  have hdr:l.drop p = []:=List.drop_eq_nil_of_le (by omega)
  obtain ⟨G,hG⟩:∃ G,G = leafP (l.drop p):=⟨_,rfl⟩
  rw [← hG]
  have HG:=Lib.hid hG
  have HP:Hid (leafP (l.drop p) = .bad (l.drop p)):=Lib.hid (by rw [hdr];rfl)
  clear hG hs hnx hok hsl hdr
  have hre:=fun (q:Nat) (b':Bool) {W:World} h0 h1 h2 f1 f2 hq hb => HS.out.1.re (W:=W) HS.out.2 hb q b' h0 h1 h2 f1 f2 hq
  go_enter Tryz.func48,Tryz.ntmps48
  go_wp2_with (go_at_call 50;refine (HNX.out _ (HS.out.1.keep bel)).mono ?_;rintro e w1 ⟨rfl,hb1⟩;obtain ⟨hc1,hf1⟩:=bcell hb1;(try simp only [bqh,bqc,bqf] at hc1 hf1);have hz1:=hb1.size;(try simp at hz1);(try have hy1:=nl1 hz1);(try have hx1:=nl2 hy1);refine szz w1 w ?_;intros;have hR1:R < w1.heap.size:=(by omega);have hw1:w.heap.size < w1.heap.size:=(by omega))
  go_quiet (fail)
  try simp only [bqh]
  go_wp2_with fail
  exact bodyPost_ret (v:=.agg #[.int .i64 0,.int .i64 0,.int .i64 0,.string ⟨#[]⟩,.string ⟨#[]⟩,.slice none 0 0]) (by first | (simp [results,Tryz.results48,go_sem];done) | (simp [results,Tryz.results48,go_sem, *];done)) rfl (cpost_shut (x:=zE) (p:=p) (b:=true) ⟨none,0,rfl,zE_rep,hre p true (by first | (go_simp;done) | (go_simp;exact World.cell?_setCell_same' _ _ _ (by go_simp))) (by go_simp) (by first | (go_simp;done) | (go_simp;exact World.cell?_setCell_same' _ _ _ (by go_simp))) (by go_simp) (by go_simp) (by omega) bes,bes⟩ (HG.out.trans HP.out))
end Go.Proofs.YtldbpmlgbbomcaaGreatDoor
