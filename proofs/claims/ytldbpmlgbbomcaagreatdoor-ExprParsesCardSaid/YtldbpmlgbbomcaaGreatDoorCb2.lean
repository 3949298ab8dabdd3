/- The reference's climber: ahead, but for if and len. (printed by mkcb2.py) -/
import Derived.Test.YtldbpmlgbbomcaaGreatDoorCb1
namespace Go.Proofs.YtldbpmlgbbomcaaGreatDoor
open Go.RowKit

def CbRes (l:List Tkn) (x:Exp) (p:Nat) (b:Bool) (r:PR Exp):Prop:=match b with | false => r = .ok x (l.drop p) | true => r = .bad (l.drop p)
theorem cpost_open {T0 R:Nat} {l:List Tkn} {w w':World} {r:PR Exp} {e:Ending} (h:CPost T0 R l w r e w'):∃ x p b,CbX T0 R l w x p b e w' ∧ CbRes l x p b r:=by
 cases r with
 | ok x ts =>
  obtain ⟨p,rfl,hx⟩:=h
  exact ⟨x,p,false,hx,rfl⟩
 | bad ts =>
  obtain ⟨x,p,rfl,hx⟩:=h
  exact ⟨x,p,true,hx,rfl⟩
theorem cpost_shut {T0 R:Nat} {l:List Tkn} {w w':World} {r:PR Exp} {e:Ending} {x:Exp} {p:Nat} {b:Bool} (h:CbX T0 R l w x p b e w') (hr:CbRes l x p b r):CPost T0 R l w r e w':=by
 cases b with
 | false =>
  replace hr:r = .ok x (l.drop p):=hr
  subst hr
  exact ⟨p,rfl,h⟩
 | true =>
  replace hr:r = .bad (l.drop p):=hr
  subst hr
  exact ⟨x,p,rfl,h⟩
theorem CbRes.un {l:List Tkn} {x:Exp} {p:Nat} {b:Bool} {r:PR Exp} (op:Int) (h:CbRes l x p b r):CbRes l (unX op x) p b (r.then fun x r => .ok (unX op x) r):=by
 cases b with
 | false =>
  replace h:r = .ok x (l.drop p):=h
  subst h
  rfl
 | true =>
  replace h:r = .bad (l.drop p):=h
  subst h
  rfl
def pasP (l:List Tkn) (g:ByteArray) (p:Nat) (b:Bool):Nat × Bool:=if b = false ∧ isTk g (l.drop p) = true then (p + 1,false) else (p,true)
theorem climb_pass_any (T0 R:Nat) (l:List Tkn) (p:Nat) (b:Bool) (g:ByteArray) (w:World) (h:CbS T0 w R l p b) (hg:g ≠ ⟨#[]⟩) :
  Calls Tryz.prog 92 #[.pointer (some ⟨R,0,none⟩),.string g] w fun e w' => e = .returned (.tuple #[]) ∧ CbS T0 w' R l (pasP l g p b).1 (pasP l g p b).2 ∧ Bes R w w':=by
 by_cases hc:b = false ∧ isTk g (l.drop p) = true
 ·rw [pasP,if_pos hc]
  obtain ⟨rfl,ht⟩:=hc
  exact climb_pass T0 R l p g w h hg ht
 ·rw [pasP,if_neg hc]
  refine climb_pass0 T0 R l p b g w h hg ?_
  cases b with
  | true => exact .inl rfl
  | false => exact .inr (by simpa using hc)
theorem CbRes.want {l:List Tkn} {x:Exp} {p:Nat} {b:Bool} {r:PR Exp} (g:ByteArray) (h:CbRes l x p b r):CbRes l x (pasP l g p b).1 (pasP l g p b).2 (r.then fun x r => wantT g x r):=by
 cases b with
 | false =>
  replace h:r = .ok x (l.drop p):=h
  subst h
  by_cases ht:isTk g (l.drop p) = true
  ·rw [pasP,if_pos ⟨rfl,ht⟩]
   show wantT g x (l.drop p) = .ok x (l.drop (p + 1))
   rw [wantT,if_pos ht,drop_tail]
  ·rw [pasP,if_neg (fun h => ht h.2)]
   show wantT g x (l.drop p) = .bad (l.drop p)
   rw [wantT,if_neg ht]
 | true =>
  replace h:r = .bad (l.drop p):=h
  subst h
  rw [pasP,if_neg (fun h => by cases h.1)]
  rfl
theorem nxt_eq {g:ByteArray} {ts:List Tkn} (ht:isTk g ts = true):nxtT ts = g:=by
 obtain ⟨t,r,rfl,h3,hs⟩:=isTk_cons ht
 rw [nxtT,if_neg h3,hs]
theorem tk_lt {g:ByteArray} {l:List Tkn} {p:Nat} (ht:isTk g (l.drop p) = true):p < l.length ∧ (l.drop (p + 1)).length < (l.drop p).length:=by
 have:=tail_len ht
 rw [drop_tail] at this
 refine ⟨?_,by omega⟩
 simp only [List.length_drop] at this
 omega
theorem nxt_no {g:ByteArray} {ts:List Tkn} (hg:g ≠ ⟨#[]⟩) (ht:isTk g ts = false):((nxtT ts).toList == g.toList) = false:=(nxtT_beq hg).trans ht
set_option maxRecDepth 100000 in
set_option maxHeartbeats 4000000 in
theorem ahead_neg (T0 R:Nat) (l:List Tkn) (n:Nat) (ihF:FrmN T0 R l n) (ihA:AhdN T0 R l n) (hok:TokOk l) (p:Nat) (w:World) (hlen:(l.drop p).length ≤ n) (hs:CbS T0 w R l p false) (ht:isTk (sgnN 3) (l.drop p) = true) :
  Calls Tryz.prog 48 #[.pointer (some ⟨R,0,none⟩)] w (CPost T0 R l w (rdOne (l.drop p))):=by
 have hRlt:=hs.lt
 have n0:¬ w.heap.size = R:=by omega
 have n1:¬ w.heap.size + 1 = R:=by omega
 obtain ⟨kp,k160⟩:=hs.bd
 have hnx:=fun w h => climb_next T0 R l p false w h
 rw [rdOne_neg ht,drop_tail]
 rw [nxt_eq ht,show sgnN 3 = ⟨#[45]⟩ from rfl] at hnx
 obtain ⟨hpl,hql⟩:=tk_lt ht
 have hah:=fun w h => ihA (p + 1) w (by omega) h
 obtain ⟨AA,cc,⟨k0,k1,k2,k3,k4⟩,_⟩:=id hs
 have HNX:=Lib.hid hnx
 have HA:=Lib.hid hah
 have HS:=Lib.hid hs
 clear hs hnx hah ihF ihA hok hlen hql ht
 generalize rdOne (l.drop (p + 1)) = G at *
 go_enter Tryz.func48,Tryz.ntmps48
 go_wp2_with (first
  | (go_at_call 50;refine (HNX.out _ (HS.out.keep bel)).mono ?_;rintro e w1 ⟨rfl,hb1⟩;obtain ⟨hc1,hf1⟩:=bcell hb1;(try simp only [bqh,bqc,bqf] at hc1 hf1);have hz1:=hb1.size;(try simp at hz1);(try have hy1:=nl1 hz1);(try have hx1:=nl2 hy1);refine szz w1 w ?_;intros)
  | (go_at_call 48;refine calls_world ?_;intro W2 hW2;have hs2:CbS T0 W2 R l (p + 1) false:=(by rw [hW2];exact (HS.out.keep (show Below w.heap.size w w1 from bel)).next hpl);have hbW2:Bes R w W2:=(by rw [hW2];exact bes);have hz2:ZBX W2 w.heap.size:=(by rw [hW2];unfold ZBX;and_intros <;> go_simp);have hlW:w.heap.size < W2.heap.size:=(by rw [hW2];simp;omega);clear hW2;refine (HA.out W2 hs2).mono ?_;rintro e w3 h3;obtain ⟨y,p3,b3,⟨A3,c3,rfl,hr3,hs3,hb3⟩,hres⟩:=cpost_open h3;have hz3:=hb3.size;obtain ⟨⟨z0,z1,z2,z3,z4,z5⟩,q0,q1,q2,q3,q4,q5⟩:=hz2.block (hb3.block w.heap.size hlW n0);have hR3:R < w3.heap.size:=(by omega);have hw3:w.heap.size < w3.heap.size:=(by omega);have HR3:=Lib.hid (And.intro hr3 (And.intro hs3 hres));clear h3 hr3 hs3 hres))
 exact bodyPost_ret (v:=.agg #[.int .i64 3,.int .i64 0,.int .i64 0,.string ⟨#[]⟩,.string ⟨#[]⟩,.slice (some ⟨w3.heap.size,0,none⟩) 1 1]) (by first | (simp [results,Tryz.results48,go_sem];done) | (simp [results,Tryz.results48,go_sem, *];done)) rfl (cpost_shut (x:=unX 3 y) (p:=p3) (b:=b3) ⟨_,_,rfl,un_rep 3 (inI_c 3 (by omega)) HR3.out.1 hlW hz3 hRlt bes (new_at (by simp)),HR3.out.2.1.under (n:=R + 1) bel (by omega),bes⟩ (HR3.out.2.2.un 3))
set_option maxRecDepth 100000 in
set_option maxHeartbeats 4000000 in
theorem ahead_not (T0 R:Nat) (l:List Tkn) (n:Nat) (ihF:FrmN T0 R l n) (ihA:AhdN T0 R l n) (hok:TokOk l) (p:Nat) (w:World) (hlen:(l.drop p).length ≤ n) (hs:CbS T0 w R l p false) (ht:isTk (sgnN 4) (l.drop p) = true) :
  Calls Tryz.prog 48 #[.pointer (some ⟨R,0,none⟩)] w (CPost T0 R l w (rdOne (l.drop p))):=by
 have hRlt:=hs.lt
 have n0:¬ w.heap.size = R:=by omega
 have n1:¬ w.heap.size + 1 = R:=by omega
 obtain ⟨kp,k160⟩:=hs.bd
 have hnx:=fun w h => climb_next T0 R l p false w h
 rw [rdOne_not ht,drop_tail]
 rw [nxt_eq ht,show sgnN 4 = ⟨#[110,111,116]⟩ from rfl] at hnx
 obtain ⟨hpl,hql⟩:=tk_lt ht
 have hah:=fun w h => ihA (p + 1) w (by omega) h
 obtain ⟨AA,cc,⟨k0,k1,k2,k3,k4⟩,_⟩:=id hs
 have HNX:=Lib.hid hnx
 have HA:=Lib.hid hah
 have HS:=Lib.hid hs
 clear hs hnx hah ihF ihA hok hlen hql ht
 generalize rdOne (l.drop (p + 1)) = G at *
 go_enter Tryz.func48,Tryz.ntmps48
 go_wp2_with (first
  | (go_at_call 50;refine (HNX.out _ (HS.out.keep bel)).mono ?_;rintro e w1 ⟨rfl,hb1⟩;obtain ⟨hc1,hf1⟩:=bcell hb1;(try simp only [bqh,bqc,bqf] at hc1 hf1);have hz1:=hb1.size;(try simp at hz1);(try have hy1:=nl1 hz1);(try have hx1:=nl2 hy1);refine szz w1 w ?_;intros)
  | (go_at_call 48;refine calls_world ?_;intro W2 hW2;have hs2:CbS T0 W2 R l (p + 1) false:=(by rw [hW2];exact (HS.out.keep (show Below w.heap.size w w1 from bel)).next hpl);have hbW2:Bes R w W2:=(by rw [hW2];exact bes);have hz2:ZBX W2 w.heap.size:=(by rw [hW2];unfold ZBX;and_intros <;> go_simp);have hlW:w.heap.size < W2.heap.size:=(by rw [hW2];simp;omega);clear hW2;refine (HA.out W2 hs2).mono ?_;rintro e w3 h3;obtain ⟨y,p3,b3,⟨A3,c3,rfl,hr3,hs3,hb3⟩,hres⟩:=cpost_open h3;have hz3:=hb3.size;obtain ⟨⟨z0,z1,z2,z3,z4,z5⟩,q0,q1,q2,q3,q4,q5⟩:=hz2.block (hb3.block w.heap.size hlW n0);have hR3:R < w3.heap.size:=(by omega);have hw3:w.heap.size < w3.heap.size:=(by omega);have HR3:=Lib.hid (And.intro hr3 (And.intro hs3 hres));clear h3 hr3 hs3 hres))
 exact bodyPost_ret (v:=.agg #[.int .i64 4,.int .i64 0,.int .i64 0,.string ⟨#[]⟩,.string ⟨#[]⟩,.slice (some ⟨w3.heap.size,0,none⟩) 1 1]) (by first | (simp [results,Tryz.results48,go_sem];done) | (simp [results,Tryz.results48,go_sem, *];done)) rfl (cpost_shut (x:=unX 4 y) (p:=p3) (b:=b3) ⟨_,_,rfl,un_rep 4 (inI_c 4 (by omega)) HR3.out.1 hlW hz3 hRlt bes (new_at (by simp)),HR3.out.2.1.under (n:=R + 1) bel (by omega),bes⟩ (HR3.out.2.2.un 4))
set_option maxRecDepth 100000 in
set_option maxHeartbeats 4000000 in
theorem ahead_open (T0 R:Nat) (l:List Tkn) (n:Nat) (ihF:FrmN T0 R l n) (ihA:AhdN T0 R l n) (hok:TokOk l) (p:Nat) (w:World) (hlen:(l.drop p).length ≤ n) (hs:CbS T0 w R l p false) (ht:isTk tOpen (l.drop p) = true) :
  Calls Tryz.prog 48 #[.pointer (some ⟨R,0,none⟩)] w (CPost T0 R l w (rdOne (l.drop p))):=by
 have hRlt:=hs.lt
 have n0:¬ w.heap.size = R:=by omega
 have n1:¬ w.heap.size + 1 = R:=by omega
 obtain ⟨kp,k160⟩:=hs.bd
 have hnx:=fun w h => climb_next T0 R l p false w h
 rw [rdOne_open ht,drop_tail]
 rw [nxt_eq ht,show tOpen = ⟨#[40]⟩ from rfl] at hnx
 obtain ⟨hpl,hql⟩:=tk_lt ht
 have hfo:=fun w h => ihF 1 (p + 1) w (by omega) (by omega) (by omega) h
 obtain ⟨AA,cc,⟨k0,k1,k2,k3,k4⟩,_⟩:=id hs
 have HNX:=Lib.hid hnx
 have HF:=Lib.hid hfo
 have HS:=Lib.hid hs
 clear hs hnx hfo ihF ihA hok hlen hql ht
 generalize rdForm 1 (l.drop (p + 1)) = G at *
 go_enter Tryz.func48,Tryz.ntmps48
 go_wp2_with (first
  | (go_at_call 50;refine (HNX.out _ (HS.out.keep bel)).mono ?_;rintro e w1 ⟨rfl,hb1⟩;obtain ⟨hc1,hf1⟩:=bcell hb1;(try simp only [bqh,bqc,bqf] at hc1 hf1);have hz1:=hb1.size;(try simp at hz1);(try have hy1:=nl1 hz1);(try have hx1:=nl2 hy1);refine szz w1 w ?_;intros)
  | (go_at_call 21;refine calls_world ?_;intro W2 hW2;have hs2:CbS T0 W2 R l (p + 1) false:=(by rw [hW2];exact (HS.out.keep (show Below w.heap.size w w1 from bel)).next hpl);have hbW2:Bes R w W2:=(by rw [hW2];exact bes);have hz2:ZBX W2 w.heap.size:=(by rw [hW2];unfold ZBX;and_intros <;> go_simp);have hlW:w.heap.size < W2.heap.size:=(by rw [hW2];simp;omega);clear hW2;refine (HF.out W2 hs2).mono ?_;rintro e w3 h3;obtain ⟨y,p3,b3,⟨A3,c3,rfl,hr3,hs3,hb3⟩,hres⟩:=cpost_open h3;have hz3:=hb3.size;have HZ3:=Lib.hid (hz2.block (hb3.block w.heap.size hlW n0));have hR3:R < w3.heap.size:=(by omega);have hw3:w.heap.size < w3.heap.size:=(by omega);have HR3:=Lib.hid (And.intro hr3 (And.intro hs3 hres));clear h3 hr3 hs3 hres)
  | (go_at_call 92;refine calls_world ?_;intro W4 hW4;have hs4:CbS T0 W4 R l p3 b3:=(by rw [hW4];exact HR3.out.2.1.keep bel);have hb4:Below w3.heap.size w3 W4:=(by rw [hW4];exact bel);have hx4:XBX W4 w3.heap.size y A3 c3:=(by rw [hW4];unfold XBX;and_intros <;> first | (go_simp;done) | (go_simp;rfl));have hl4:w3.heap.size < W4.heap.size:=(by rw [hW4];simp);clear hW4;refine (climb_pass_any T0 R l p3 b3 ⟨#[41]⟩ W4 hs4 (by decide)).mono ?_;rintro e w5 ⟨rfl,hs5,hb5⟩;have hz5:=hb5.size;obtain ⟨⟨y0,y1,y2,y3,y4,y5⟩,g0,g1,g2,g3,g4,g5⟩:=hx4.block (hb5.block w3.heap.size hl4 (by omega));have hx35:Bes R w3 w5:=(Bes.of (R:=R) hb4).trans hb5;obtain ⟨⟨z0,z1,z2,z3,z4,z5⟩,q0,q1,q2,q3,q4,q5⟩:=HZ3.out.block (hx35.block w.heap.size hw3 n0);have HS5:=Lib.hid hs5;clear hs5;have l5:w.heap.size < w5.heap.size:=(by omega);have hR5:R < w5.heap.size:=(by omega);have l35:w3.heap.size < w5.heap.size:=(by omega)))
 exact bodyPost_ret (v:=.agg #[.int .i64 y.op,.int .i64 y.v.k,.int .i64 y.v.n,.string y.v.s,.string y.name,.slice A3 y.args.length c3]) (by first | (simp [results,Tryz.results48,go_sem];done) | (simp [results,Tryz.results48,go_sem, *];done)) rfl (cpost_shut (x:=y) ⟨A3,c3,rfl,xrep_on HR3.out.1 hlW hRlt hx35 bes,HS5.out.under (n:=R + 1) bel (by omega),bes⟩ (HR3.out.2.2.want tClose))
set_option maxRecDepth 100000 in
set_option maxHeartbeats 4000000 in
theorem ahead_true (T0 R:Nat) (l:List Tkn) (n:Nat) (ihF:FrmN T0 R l n) (ihA:AhdN T0 R l n) (hok:TokOk l) (p:Nat) (w:World) (hlen:(l.drop p).length ≤ n) (hs:CbS T0 w R l p false) (ht:isTk tTrue (l.drop p) = true) :
  Calls Tryz.prog 48 #[.pointer (some ⟨R,0,none⟩)] w (CPost T0 R l w (rdOne (l.drop p))):=by
 have hRlt:=hs.lt
 have n0:¬ w.heap.size = R:=by omega
 have n1:¬ w.heap.size + 1 = R:=by omega
 obtain ⟨kp,k160⟩:=hs.bd
 have hnx:=fun w h => climb_next T0 R l p false w h
 rw [rdOne_true ht,drop_tail]
 rw [nxt_eq ht,show tTrue = ⟨#[116,114,117,101]⟩ from rfl] at hnx
 obtain ⟨hpl,hql⟩:=tk_lt ht
 obtain ⟨AA,cc,⟨k0,k1,k2,k3,k4⟩,_⟩:=id hs
 have HNX:=Lib.hid hnx
 have HS:=Lib.hid hs
 clear hs hnx ihF ihA hok hlen hql ht
 go_enter Tryz.func48,Tryz.ntmps48
 go_wp2_with (go_at_call 50;refine (HNX.out _ (HS.out.keep bel)).mono ?_;rintro e w1 ⟨rfl,hb1⟩;obtain ⟨hc1,hf1⟩:=bcell hb1;(try simp only [bqh,bqc,bqf] at hc1 hf1);have hz1:=hb1.size;(try simp at hz1);(try have hy1:=nl1 hz1);(try have hx1:=nl2 hy1);refine szz w1 w ?_;intros)
 exact bodyPost_ret (v:=.agg #[.int .i64 1,.int .i64 2,.int .i64 1,.string ⟨#[]⟩,.string ⟨#[]⟩,.slice none 0 0]) (by first | (simp [results,Tryz.results48,go_sem];done) | (simp [results,Tryz.results48,go_sem, *];done)) rfl (cpost_shut (x:=cstX ⟨2,1,⟨#[]⟩⟩) (p:=p + 1) (b:=false) ⟨none,0,rfl,cst_rep ⟨inI_c 2 (by omega),inI_c 1 (by omega),str_nil_in⟩,((HS.out.keep (show Below w.heap.size w w1 from bel)).next hpl).under (n:=R + 1) bel (by omega),bes⟩ rfl)
set_option maxRecDepth 100000 in
set_option maxHeartbeats 4000000 in
theorem ahead_false (T0 R:Nat) (l:List Tkn) (n:Nat) (ihF:FrmN T0 R l n) (ihA:AhdN T0 R l n) (hok:TokOk l) (p:Nat) (w:World) (hlen:(l.drop p).length ≤ n) (hs:CbS T0 w R l p false) (ht:isTk tFalse (l.drop p) = true) :
  Calls Tryz.prog 48 #[.pointer (some ⟨R,0,none⟩)] w (CPost T0 R l w (rdOne (l.drop p))):=by
 have hRlt:=hs.lt
 have n0:¬ w.heap.size = R:=by omega
 have n1:¬ w.heap.size + 1 = R:=by omega
 obtain ⟨kp,k160⟩:=hs.bd
 have hnx:=fun w h => climb_next T0 R l p false w h
 rw [rdOne_false ht,drop_tail]
 rw [nxt_eq ht,show tFalse = ⟨#[102,97,108,115,101]⟩ from rfl] at hnx
 obtain ⟨hpl,hql⟩:=tk_lt ht
 obtain ⟨AA,cc,⟨k0,k1,k2,k3,k4⟩,_⟩:=id hs
 have HNX:=Lib.hid hnx
 have HS:=Lib.hid hs
 clear hs hnx ihF ihA hok hlen hql ht
 go_enter Tryz.func48,Tryz.ntmps48
 go_wp2_with (go_at_call 50;refine (HNX.out _ (HS.out.keep bel)).mono ?_;rintro e w1 ⟨rfl,hb1⟩;obtain ⟨hc1,hf1⟩:=bcell hb1;(try simp only [bqh,bqc,bqf] at hc1 hf1);have hz1:=hb1.size;(try simp at hz1);(try have hy1:=nl1 hz1);(try have hx1:=nl2 hy1);refine szz w1 w ?_;intros)
 exact bodyPost_ret (v:=.agg #[.int .i64 1,.int .i64 2,.int .i64 0,.string ⟨#[]⟩,.string ⟨#[]⟩,.slice none 0 0]) (by first | (simp [results,Tryz.results48,go_sem];done) | (simp [results,Tryz.results48,go_sem, *];done)) rfl (cpost_shut (x:=cstX ⟨2,0,⟨#[]⟩⟩) (p:=p + 1) (b:=false) ⟨none,0,rfl,cst_rep ⟨inI_c 2 (by omega),inI_c 0 (by omega),str_nil_in⟩,((HS.out.keep (show Below w.heap.size w w1 from bel)).next hpl).under (n:=R + 1) bel (by omega),bes⟩ rfl)
end Go.Proofs.YtldbpmlgbbomcaaGreatDoor
