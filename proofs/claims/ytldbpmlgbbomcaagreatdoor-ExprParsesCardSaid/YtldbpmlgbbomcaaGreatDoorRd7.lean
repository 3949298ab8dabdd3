/- The reader of formulas: any level; all contracts, for any number of tokens. (printed by mkrd7.py) -/
import Derived.Test.YtldbpmlgbbomcaaGreatDoorRd6
namespace Go.Proofs.YtldbpmlgbbomcaaGreatDoor
open Go.RowKit

def XBX (w:World) (B:Nat) (x:Exp) (A:Option Addr) (c:Nat):Prop:=(w.cell? ⟨B,0,none⟩ = some (.int .i64 x.op) ∧ w.cell? ⟨B,1,none⟩ = some (.int .i64 x.v.k) ∧ w.cell? ⟨B,2,none⟩ = some (.int .i64 x.v.n) ∧ w.cell? ⟨B,3,none⟩ = some (.string x.v.s) ∧ w.cell? ⟨B,4,none⟩ = some (.string x.name) ∧ w.cell? ⟨B,5,none⟩ = some (.slice A x.args.length c)) ∧ w.frozen? ⟨B,0,none⟩ = false ∧ w.frozen? ⟨B,1,none⟩ = false ∧ w.frozen? ⟨B,2,none⟩ = false ∧ w.frozen? ⟨B,3,none⟩ = false ∧ w.frozen? ⟨B,4,none⟩ = false ∧ w.frozen? ⟨B,5,none⟩ = false
def ZBX (w:World) (B:Nat):Prop:=(w.cell? ⟨B,0,none⟩ = some (.int .i64 0) ∧ w.cell? ⟨B,1,none⟩ = some (.int .i64 0) ∧ w.cell? ⟨B,2,none⟩ = some (.int .i64 0) ∧ w.cell? ⟨B,3,none⟩ = some (.string ⟨#[]⟩) ∧ w.cell? ⟨B,4,none⟩ = some (.string ⟨#[]⟩) ∧ w.cell? ⟨B,5,none⟩ = some (.slice none 0 0)) ∧ w.frozen? ⟨B,0,none⟩ = false ∧ w.frozen? ⟨B,1,none⟩ = false ∧ w.frozen? ⟨B,2,none⟩ = false ∧ w.frozen? ⟨B,3,none⟩ = false ∧ w.frozen? ⟨B,4,none⟩ = false ∧ w.frozen? ⟨B,5,none⟩ = false
theorem XBX.block {w w':World} {B:Nat} {x:Exp} {A:Option Addr} {c:Nat} (h:XBX w B x A c) (hb:w'.heap[B]? = w.heap[B]?):XBX w' B x A c:=by
 have f:=fun o => World.cell?_of_block (w:=w) (w':=w') (a:=⟨B,o,none⟩) hb
 have g:=fun o => World.frozen?_of_block (w:=w) (w':=w') (a:=⟨B,o,none⟩) hb
 unfold XBX at h ⊢
 simp only [f,g]
 exact h
theorem ZBX.block {w w':World} {B:Nat} (h:ZBX w B) (hb:w'.heap[B]? = w.heap[B]?):ZBX w' B:=by
 have f:=fun o => World.cell?_of_block (w:=w) (w':=w') (a:=⟨B,o,none⟩) hb
 have g:=fun o => World.frozen?_of_block (w:=w) (w':=w') (a:=⟨B,o,none⟩) hb
 unfold ZBX at h ⊢
 simp only [f,g]
 exact h
theorem exit_world {F:Exit → Act → World → Prop} {e:Exit} {a:Act} {W:World} (h:∀ W0,W0 = W → F e a W0):F e a W:=h W rfl
theorem bes_mix {R X:Nat} {a b c:World} (h:Bes R a b) (k:Bes X b c) (hX:a.heap.size ≤ X):Bes R a c :=
 ⟨k.os.trans h.os,k.tape.trans h.tape,k.output.trans h.output,Nat.le_trans h.size k.size,fun i hi hn => (k.block i (Nat.lt_of_lt_of_le hi h.size) (by omega)).trans (h.block i hi hn)⟩
theorem RdS.bes {T0:Nat} {w w':World} {R X:Nat} {ts:List Tkn} {en:Int} (h:RdS T0 w R ts en) (hb:Bes X w w') (hX:R < X) (hXl:X ≤ w.heap.size):RdS T0 w' R ts en :=
 h.under (n:=R + 1) ⟨hb.os,hb.tape,hb.output,hb.size,fun k hk => hb.block k (by omega) (by omega)⟩ (by omega)
theorem next_held {op:Int} {x:Exp} {r:List Tkn} (h:lvlN op = 3):rdClimb 3 (nextH op) x r = .ok x r:=by
 refine rdClimb_none ?_
 cases hb:binAt 3 (nextH op) r with
 | none => rfl
 | some a =>
  have h1:=(binAt_some.1 hb).2
  rw [nextH,if_pos h] at h1
  omega
theorem next_on {op L:Int} (h:lvlN op = L) (hL:L ≠ 3):nextH op = L + 1:=by rw [nextH,if_neg (by rw [h];exact hL),h]
def rlen (R:Nat) (w:World):Nat:=match w.cell? ⟨R,0,none⟩ with | some (.slice _ n _) => n | _ => 0
theorem rlen_eq {T0:Nat} {w:World} {R:Nat} {ts:List Tkn} {en:Int} (h:RdS T0 w R ts en):rlen R w = ts.length:=by
 obtain ⟨A,c,⟨h0,_⟩,_⟩:=h
 unfold rlen
 rw [h0]
def part (w:World) (X:Nat) (w':World):Nat → Prop:=fun b => w.heap.size < b ∧ b < w'.heap.size ∧ b ≠ X
theorem bin_rep {w w2 w3 W:World} {X:Nat} {x y:Exp} {A A2:Option Addr} {c c2:Nat} {e:TypeId} {fr:Nat × Nat} (op:Int) (hop:inI op)
  (hx:XRep w2 (part w X w2) [.int .i64 x.op,.int .i64 x.v.k,.int .i64 x.v.n,.string x.v.s,.string x.name,.slice A x.args.length c] x) (hy:XRep w3 (fresh w2 w3) [.int .i64 y.op,.int .i64 y.v.k,.int .i64 y.v.n,.string y.v.s,.string y.name,.slice A2 y.args.length c2] y) (h23:∀ b,w.heap.size < b → b < w2.heap.size → w3.heap[b]? = w2.heap[b]?) (hz:w2.heap.size ≤ w3.heap.size)
  (hX:X < w2.heap.size) (hXw:w.heap.size < X) (hb:Bes X w3 W) (hnew:W.heap[w3.heap.size]? = some (.cells #[.int .i64 x.op,.int .i64 x.v.k,.int .i64 x.v.n,.string x.v.s,.string x.name,.slice A x.args.length c,.int .i64 y.op,.int .i64 y.v.k,.int .i64 y.v.n,.string y.v.s,.string y.name,.slice A2 y.args.length c2] e fr)) :
  XRep W (part w X W) [.int .i64 op,.int .i64 0,.int .i64 0,.string ⟨#[]⟩,.string ⟨#[]⟩,.slice (some ⟨w3.heap.size,0,none⟩) 2 2] (binX op x y):=by
 have hlt:w3.heap.size < W.heap.size:=(Array.getElem?_eq_some_iff.1 hnew).1
 refine call_rep (l:=[x,y]) op hop (by simp) (by simp) (slX2 x y A A2 c c2 ⟨by omega,hlt,by omega⟩ (hx.keep fun b hb' => ?_) (hy.keep fun b hb' => ?_) hnew)
 ·have h1:=hb'.1
  have h2:=hb'.2.1
  exact ⟨⟨h1,by omega,hb'.2.2⟩,(hb.block b (by omega) hb'.2.2).trans (h23 b h1 h2)⟩
 ·have h1:=hb'.1
  have h2:=hb'.2
  exact ⟨⟨by omega,by omega,by omega⟩,hb.block b h2 (by omega)⟩
set_option maxRecDepth 100000 in
set_option maxHeartbeats 4000000 in
theorem reader_level6 (T0 R:Nat) (en:Int) (n:Nat) (ihO:OneN T0 R en (n + 1)) (ts:List Tkn) (w:World) (hts:ts.length ≤ n) (hok:TokOk ts) (hgR:GlobR R) (hg:GdA w) (hs:RdS T0 w R ts en) :
  Calls Tryz.prog 17 #[.pointer (some ⟨R,0,none⟩),.int .i64 6] w (PPost T0 R en w (rdOne ts)):=by
 have hRlt:=hs.lt
 have n0:¬ w.heap.size = R:=by omega
 have n1:¬ w.heap.size + 1 = R:=by omega
 have hon:=fun w h h' => ihO ts w (by omega) hok hgR h h'
 have HGR:=Lib.hid hgR
 cases hq:rdOne ts with
 | bad r =>
  rw [hq] at hon
  have HH:=Lib.hid (And.intro hs (And.intro hg hon))
  clear hs hg hon ihO hok hgR hts hq
  show Calls _ _ _ _ (RetBad R en w r)
  go_enter Tryz.func17,Tryz.ntmps17
  go_wp2_with (go_at_call 39;refine (HH.out.2.2 _ (HH.out.2.1.bes (show Bes R w _ from bes) HGR.out) (HH.out.1.keep bel)).mono ?_;rintro e w2 ⟨he,hb2⟩;unfold lostE at he;subst he)
  exact ⟨rfl,rfl,bes⟩
 | ok x r =>
  rw [hq] at hon
  have HH:=Lib.hid (And.intro hs (And.intro hg hon))
  clear hs hg hon ihO hok hgR hts hq
  show Calls _ _ _ _ (RetX T0 R en w x r)
  go_enter Tryz.func17,Tryz.ntmps17
  go_wp2_with (go_at_call 39;refine (HH.out.2.2 _ (HH.out.2.1.bes (show Bes R w _ from bes) HGR.out) (HH.out.1.keep bel)).mono ?_;rintro e w2 ⟨A2,c2,rfl,hr2,hs2,hb2⟩;obtain ⟨hc2,hf2⟩:=bcells hb2;(try simp only [bqh,bqc,bqf] at hc2 hf2);have hz2:=hb2.size;(try simp at hz2);(try have hy2:=nl1 hz2);(try have hx2:=nl2 hy2);refine szz w2 w ?_;intros;have yc0:w2.cell? ⟨w.heap.size,0,none⟩ = some (.int .i64 0):=(by go_simp);have yc1:w2.cell? ⟨w.heap.size,1,none⟩ = some (.int .i64 0):=(by go_simp);have yc2:w2.cell? ⟨w.heap.size,2,none⟩ = some (.int .i64 0):=(by go_simp);have yc3:w2.cell? ⟨w.heap.size,3,none⟩ = some (.string ⟨#[]⟩):=(by go_simp);have yc4:w2.cell? ⟨w.heap.size,4,none⟩ = some (.string ⟨#[]⟩):=(by go_simp);have yc5:w2.cell? ⟨w.heap.size,5,none⟩ = some (.slice none 0 0):=(by go_simp))
  exact bodyPost_ret (v:=.agg #[.int .i64 x.op,.int .i64 x.v.k,.int .i64 x.v.n,.string x.v.s,.string x.name,.slice A2 x.args.length c2]) (by first | (simp [results,Tryz.results17,go_sem];done) | (simp [results,Tryz.results17,go_sem, *];done)) rfl ⟨A2,c2,rfl,xrep_on hr2 (by simp) hRlt (Bes.refl R _) bes,hs2.under (n:=R + 1) bel (by omega),bes⟩
set_option maxRecDepth 100000 in
set_option maxHeartbeats 8000000 in
theorem reader_level_step (T0 R:Nat) (en:Int) (n:Nat) (L:Int) (hL1:1 ≤ L) (hL5:L ≤ 5) (hnext:∀ (ts:List Tkn) (w:World),ts.length ≤ n → TokOk ts → GlobR R → GdA w → RdS T0 w R ts en → Calls Tryz.prog 17 #[.pointer (some ⟨R,0,none⟩),.int .i64 (L + 1)] w (PPost T0 R en w (rdForm (L + 1) ts)))
  (ts:List Tkn) (w:World) (hts:ts.length ≤ n) (hok:TokOk ts) (hgR:GlobR R) (hg:GdA w) (hs:RdS T0 w R ts en) :
  Calls Tryz.prog 17 #[.pointer (some ⟨R,0,none⟩),.int .i64 L] w (PPost T0 R en w (rdForm L ts)):=by
 have hRlt:=hs.lt
 have n0:¬ w.heap.size = R:=by omega
 have n1:¬ w.heap.size + 1 = R:=by omega
 have hwL:IntKind.i64.wrap (L + 1) = L + 1:=IntWalk.i64_in _ (by omega)
 have l6:(L == 6) = false:=by simp only [beq_eq_false_iff_ne,ne_eq];omega
 have hlv:=fun w h h' => hnext ts w hts hok hgR h h'
 obtain ⟨G,hG⟩:∃ G,G = rdForm L ts:=⟨_,rfl⟩
 rw [← hG]
 rw [rdForm_step ts hL5] at hG
 have HGR:=Lib.hid hgR
 have HGA:=Lib.hid hg
 have HN:=Lib.hid hnext
 cases hq:rdForm (L + 1) ts with
 | bad r =>
  rw [hq] at hG hlv
  replace hG:G = .bad r:=hG
  subst hG
  have HH:=Lib.hid (And.intro hs hlv)
  clear hs hlv hnext hg hgR hok hts hq
  show Calls _ _ _ _ (RetBad R en w r)
  go_enter Tryz.func17,Tryz.ntmps17
  go_wp2_with (go_at_call 17;refine (HH.out.2 _ (HGA.out.bes (show Bes R w _ from bes) HGR.out) (HH.out.1.keep bel)).mono ?_;rintro e w2 ⟨he,hb2⟩;unfold lostE at he;subst he)
  exact ⟨rfl,rfl,bes⟩
 | ok x0 r0 =>
  have hsf:=hok.suf (rdForm_suf hq)
  have hsh:=rdForm_shr hq
  rw [hq] at hG hlv
  replace hG:rdClimb L (L + 1) x0 r0 = G:=hG.symm
  have HG:=Lib.hid hG
  have HH:=Lib.hid (And.intro hs (And.intro hlv (And.intro hsf hsh)))
  clear hs hlv hnext hg hgR hok hq hG hsf hsh
  go_enter Tryz.func17,Tryz.ntmps17
  go_wp2_with (go_at_call 17;refine (HH.out.2.1 _ (HGA.out.bes (show Bes R w _ from bes) HGR.out) (HH.out.1.keep bel)).mono ?_;rintro e w0 ⟨A0,c0,rfl,hr0,hs0,hb0⟩;obtain ⟨hc0,hf0⟩:=bcells hb0;(try simp only [bqh,bqc,bqf] at hc0 hf0);have hz0:=hb0.size;(try simp at hz0);(try have hy0:=nl1 hz0);(try have hx0:=nl2 hy0);refine szz w0 w ?_;intros;have m0:¬ w0.heap.size = R:=(by omega))
  have hzw0:w.heap.size < w0.heap.size:=by omega
  generalize hXd:w0.heap.size = X at *
  go_loopw [] (fun wr => ∃ (x:Exp) (A:Option Addr) (c:Nat) (r:List Tkn),Hid (XBX wr X x A c) ∧ Hid (ZBX wr w.heap.size) ∧ Hid (XRep wr (part w X wr) [.int .i64 x.op,.int .i64 x.v.k,.int .i64 x.v.n,.string x.v.s,.string x.name,.slice A x.args.length c] x) ∧ Hid (RdS T0 wr R r en ∧ r.length < n ∧ TokOk r) ∧ Hid (rdClimb L (L + 1) x r = G) ∧ Bes R w wr ∧ X < wr.heap.size) (fun wr => rlen R wr)
  case atStart =>
   subst hXd
   refine ⟨x0,A0,c0,r0,Lib.hid ?_,Lib.hid ?_,Lib.hid ?_,Lib.hid ⟨hs0.keep bel,by have:=HH.out.2.2.2;omega,HH.out.2.2.1⟩,HG,bes,by simp⟩
   ·unfold XBX;and_intros <;> go_simp
   ·unfold ZBX;and_intros <;> go_simp
   ·exact hr0.keep fun b hb => ⟨⟨by have:=hb.1;simp at this;omega,by have:=hb.2;simp;omega,by have:=hb.2;omega⟩,((Below.refl w0.heap.size w0).alloc (Nat.le_refl _) _).block b hb.2⟩
  case round =>
   obtain ⟨x,A,c,r,HXB,HZB,HXR,hrs,hcl,hb,hXl⟩:=hrel
   have hXw:w.heap.size < X:=by omega
   have hXR:X ≠ R:=by omega
   have hXR':¬ X = R:=hXR
   have hzr:=hb.size
   clear hc0 hf0 hXd
   have hop:=fun w h => reader_op T0 R r en L w h
   have HO:=Lib.hid hop
   clear hop
   cases hbn:binAt L (L + 1) r with
   | none =>
    have ho0:opR L r = 0:=by rw [opR,hbn];rfl
    rw [ho0] at HO
    have hcx:=hcl.out
    rw [rdClimb_none hbn] at hcx
    subst hcx
    obtain ⟨⟨y0,y1,y2,y3,y4,y5⟩,g0,g1,g2,g3,g4,g5⟩:=HXB.out
    obtain ⟨⟨z0,z1,z2,z3,z4,z5⟩,q0,q1,q2,q3,q4,q5⟩:=HZB.out
    have hwr:w.heap.size < wr.heap.size:=by omega
    have HP:Hid (∀ W,Below 0 wr wr → Bes w.heap.size wr W → XRep W (fresh w W) [.int .i64 x.op,.int .i64 x.v.k,.int .i64 x.v.n,.string x.v.s,.string x.name,.slice A x.args.length c] x):=Lib.hid fun W _ h => HXR.out.keep fun b hb' => ⟨⟨by have:=hb'.1;omega,by have:=hb'.2.1;have:=h.size;omega⟩,h.block b hb'.2.1 (by have:=hb'.1;omega)⟩
    clear hbn ho0
    go_wp2_with (go_at_call 40;refine (HO.out _ hrs.out.1).mono ?_;rintro e w1 ⟨rfl,hb1⟩;obtain ⟨hc1,hf1⟩:=bcell hb1;(try simp only [bqh,bqc,bqf] at hc1 hf1);have hz1:=hb1.size;(try simp at hz1);(try have hy1:=nl1 hz1);(try have hx1:=nl2 hy1);refine szz w1 wr ?_;intros;have hbs1:=Bes.of (R:=R) hb1;have hbw1:=Bes.of (R:=w.heap.size) hb1;have hs1:=hrs.out.1.keep hb1)
    exact bodyPost_ret (v:=.agg #[.int .i64 x.op,.int .i64 x.v.k,.int .i64 x.v.n,.string x.v.s,.string x.name,.slice A x.args.length c]) (by first | (simp [results,Tryz.results17,go_sem];done) | (simp [results,Tryz.results17,go_sem, *];done)) rfl ⟨A,c,rfl,HP.out _ bel bes,hs1.under (n:=R + 1) bel (by omega),bes⟩
   | some op =>
    have hop:=binAt_some.1 hbn
    have hom:=opOf_some hop.1
    have hor:=binOps_range hom.1
    have hol:lvlN op = L:=by omega
    have ho0:opR L r = op:=by rw [opR,hbn];rfl
    rw [ho0] at HO
    have g0:(op == 0) = false:=by simp only [beq_eq_false_iff_ne,ne_eq];omega
    have hin:inI op:=by
     have hm:=hom.1
     simp only [binOps,List.mem_cons,List.not_mem_nil,or_false] at hm
     rcases hm with rfl | rfl | rfl | rfl | rfl | rfl | rfl | rfl | rfl | rfl | rfl | rfl <;> rfl
    have hcx:=hcl.out
    rw [rdClimb_some hbn,hol] at hcx
    obtain ⟨t,r1,rfl,_⟩:=isTk_cons hom.2
    have htk:=fun w h => reader_take T0 R t r1 en w h
    have HT:=Lib.hid htk
    have hlv:=fun w h h' => HN.out r1 w (by have:=hrs.out.2.1;simp only [List.length_cons] at this;omega) hrs.out.2.2.tail HGR.out h h'
    rw [List.tail_cons] at hcx
    cases hq:rdForm (L + 1) r1 with
    | bad r2 =>
     rw [hq] at hcx hlv
     have HX:=Lib.hid (show PR.bad r2 = G from hcx)
     have HLV:=Lib.hid hlv
     clear hcx hlv hq htk hbn hop hom hol ho0 hor
     go_wp2_with (first
      | (go_at_call 40;refine (HO.out _ hrs.out.1).mono ?_;rintro e w1 ⟨rfl,hb1⟩;obtain ⟨hc1,hf1⟩:=bcell hb1;(try simp only [bqh,bqc,bqf] at hc1 hf1);have hz1:=hb1.size;(try simp at hz1);(try have hy1:=nl1 hz1);(try have hx1:=nl2 hy1);refine szz w1 wr ?_;intros;have hbs1:=Bes.of (R:=R) hb1;have hbw1:=Bes.of (R:=w.heap.size) hb1;have hs1:=hrs.out.1.keep hb1)
      | (go_at_call 41;refine (HT.out _ hs1).mono ?_;rintro e w2 ⟨rfl,hs2,hb2⟩;obtain ⟨hc2,hf2⟩:=bcells hb2;(try simp only [bqh,bqc,bqf] at hc2 hf2);have hz2:=hb2.size;(try simp at hz2);(try have hy2:=nl1 hz2);(try have hx2:=nl2 hy2);refine szz w2 wr ?_;intros;refine szz w2 w1 ?_;intros;have HB2:=Lib.hid (show Bes R wr w2 from bes)))
     have HX2:=Lib.hid (show XBX w2 X x A c from XBX.block HXB.out (HB2.out.block X hXl hXR))
     have hS0:w2.drew.cell? ⟨X,0,none⟩ = some (.int .i64 x.op) ∧ w2.drew.cell? ⟨X,1,none⟩ = some (.int .i64 x.v.k) ∧ w2.drew.cell? ⟨X,2,none⟩ = some (.int .i64 x.v.n) ∧ w2.drew.cell? ⟨X,3,none⟩ = some (.string x.v.s) ∧ w2.drew.cell? ⟨X,4,none⟩ = some (.string x.name) ∧ w2.drew.cell? ⟨X,5,none⟩ = some (.slice A x.args.length c):=by have h:=HX2.out.1;simpa only [World.cell?_drew] using h
     refine wp_region_T (fun w' => w'.cell? ⟨X,0,none⟩ = some (.int .i64 x.op) ∧ w'.cell? ⟨X,1,none⟩ = some (.int .i64 x.v.k) ∧ w'.cell? ⟨X,2,none⟩ = some (.int .i64 x.v.n) ∧ w'.cell? ⟨X,3,none⟩ = some (.string x.v.s) ∧ w'.cell? ⟨X,4,none⟩ = some (.string x.name) ∧ w'.cell? ⟨X,5,none⟩ = some (.slice A x.args.length c)) 8 (by kernel_rfl) ?_
     refine wpAnyT_take (i:=0) (oi:=_) (v:=?_) rfl (by kernel_rfl) (fun _ _ _ h => h) hS0 (by rfl) ?_ ?_
     rotate_left
     ·intro w' hS';(try dsimp only at hS');(try go_split_ands);go_simp;(try rw [if_neg (by omega)]);try with_reducible rfl
     simp only [Act.put,List.setIfInBounds_toArray,List.set_cons_zero,List.set_cons_succ]
     refine wpAnyT_take (i:=1) (oi:=_) (v:=?_) rfl (by kernel_rfl) (fun _ _ _ h => h) hS0 (by rfl) ?_ ?_
     rotate_left
     ·intro w' hS';(try dsimp only at hS');(try go_split_ands);go_simp;(try rw [if_neg (by omega)]);try with_reducible rfl
     simp only [Act.put,List.setIfInBounds_toArray,List.set_cons_zero,List.set_cons_succ]
     refine wpAnyT_take (i:=2) (oi:=_) (v:=?_) rfl (by kernel_rfl) (fun _ _ _ h => h) hS0 (by rfl) ?_ ?_
     rotate_left
     ·intro w' hS';(try dsimp only at hS');(try go_split_ands);go_simp;(try rw [if_neg (by omega)]);try with_reducible rfl
     simp only [Act.put,List.setIfInBounds_toArray,List.set_cons_zero,List.set_cons_succ]
     refine wpAnyT_take (i:=3) (oi:=_) (v:=?_) rfl (by kernel_rfl) (fun _ _ _ h => h) hS0 (by rfl) ?_ ?_
     rotate_left
     ·intro w' hS';(try dsimp only at hS');(try go_split_ands);go_simp;(try rw [if_neg (by omega)]);try with_reducible rfl
     simp only [Act.put,List.setIfInBounds_toArray,List.set_cons_zero,List.set_cons_succ]
     refine wpAnyT_take (i:=4) (oi:=_) (v:=?_) rfl (by kernel_rfl) (fun _ _ _ h => h) hS0 (by rfl) ?_ ?_
     rotate_left
     ·intro w' hS';(try dsimp only at hS');(try go_split_ands);go_simp;(try rw [if_neg (by omega)]);try with_reducible rfl
     simp only [Act.put,List.setIfInBounds_toArray,List.set_cons_zero,List.set_cons_succ]
     refine wpAnyT_one (i:=5) (o:=_) rfl (by kernel_rfl) (fun K hK => ?_)
     go_simp
     go_at_call 17;refine (HLV.out _ ((HGA.out.bes (hb.trans HB2.out) HGR.out).keep (Below.drew (Below.refl _ _))) (hs2.keep (Below.drew (Below.refl _ _)))).mono ?_
     rintro e w3 ⟨he,hb3⟩;unfold lostE at he;subst he
     go_simp
     go_big_unhide
     rw [← HX.out]
     exact ⟨rfl,rfl,(hb.trans HB2.out).trans ((bes_drew (Bes.refl R w2)).trans hb3)⟩
    | ok y r2 =>
     have hsh:=rdForm_shr hq
     have hsf:=hrs.out.2.2.tail.suf (rdForm_suf hq)
     rw [hq] at hcx hlv
     have HX:=Lib.hid (show rdClimb L (nextH op) (binX op x y) r2 = G from hcx)
     have HLV:=Lib.hid hlv
     have HM:=Lib.hid (And.intro hsh (And.intro hsf (And.intro hol hin)))
     clear hcx hlv hq htk hbn hop hom hol ho0 hsh hsf hin
     go_wp2_with (first
      | (go_at_call 40;refine (HO.out _ hrs.out.1).mono ?_;rintro e w1 ⟨rfl,hb1⟩;obtain ⟨hc1,hf1⟩:=bcell hb1;(try simp only [bqh,bqc,bqf] at hc1 hf1);have hz1:=hb1.size;(try simp at hz1);(try have hy1:=nl1 hz1);(try have hx1:=nl2 hy1);refine szz w1 wr ?_;intros;have hbs1:=Bes.of (R:=R) hb1;have hbw1:=Bes.of (R:=w.heap.size) hb1;have hs1:=hrs.out.1.keep hb1)
      | (go_at_call 41;refine (HT.out _ hs1).mono ?_;rintro e w2 ⟨rfl,hs2,hb2⟩;obtain ⟨hc2,hf2⟩:=bcells hb2;(try simp only [bqh,bqc,bqf] at hc2 hf2);have hz2:=hb2.size;(try simp at hz2);(try have hy2:=nl1 hz2);(try have hx2:=nl2 hy2);refine szz w2 wr ?_;intros;refine szz w2 w1 ?_;intros;have HB2:=Lib.hid (show Bes R wr w2 from bes)))
     have HX2:=Lib.hid (show XBX w2 X x A c from XBX.block HXB.out (HB2.out.block X hXl hXR))
     have hS0:w2.drew.cell? ⟨X,0,none⟩ = some (.int .i64 x.op) ∧ w2.drew.cell? ⟨X,1,none⟩ = some (.int .i64 x.v.k) ∧ w2.drew.cell? ⟨X,2,none⟩ = some (.int .i64 x.v.n) ∧ w2.drew.cell? ⟨X,3,none⟩ = some (.string x.v.s) ∧ w2.drew.cell? ⟨X,4,none⟩ = some (.string x.name) ∧ w2.drew.cell? ⟨X,5,none⟩ = some (.slice A x.args.length c):=by have h:=HX2.out.1;simpa only [World.cell?_drew] using h
     refine wp_region_T (fun w' => w'.cell? ⟨X,0,none⟩ = some (.int .i64 x.op) ∧ w'.cell? ⟨X,1,none⟩ = some (.int .i64 x.v.k) ∧ w'.cell? ⟨X,2,none⟩ = some (.int .i64 x.v.n) ∧ w'.cell? ⟨X,3,none⟩ = some (.string x.v.s) ∧ w'.cell? ⟨X,4,none⟩ = some (.string x.name) ∧ w'.cell? ⟨X,5,none⟩ = some (.slice A x.args.length c)) 8 (by kernel_rfl) ?_
     refine wpAnyT_take (i:=0) (oi:=_) (v:=?_) rfl (by kernel_rfl) (fun _ _ _ h => h) hS0 (by rfl) ?_ ?_
     rotate_left
     ·intro w' hS';(try dsimp only at hS');(try go_split_ands);go_simp;(try rw [if_neg (by omega)]);try with_reducible rfl
     simp only [Act.put,List.setIfInBounds_toArray,List.set_cons_zero,List.set_cons_succ]
     refine wpAnyT_take (i:=1) (oi:=_) (v:=?_) rfl (by kernel_rfl) (fun _ _ _ h => h) hS0 (by rfl) ?_ ?_
     rotate_left
     ·intro w' hS';(try dsimp only at hS');(try go_split_ands);go_simp;(try rw [if_neg (by omega)]);try with_reducible rfl
     simp only [Act.put,List.setIfInBounds_toArray,List.set_cons_zero,List.set_cons_succ]
     refine wpAnyT_take (i:=2) (oi:=_) (v:=?_) rfl (by kernel_rfl) (fun _ _ _ h => h) hS0 (by rfl) ?_ ?_
     rotate_left
     ·intro w' hS';(try dsimp only at hS');(try go_split_ands);go_simp;(try rw [if_neg (by omega)]);try with_reducible rfl
     simp only [Act.put,List.setIfInBounds_toArray,List.set_cons_zero,List.set_cons_succ]
     refine wpAnyT_take (i:=3) (oi:=_) (v:=?_) rfl (by kernel_rfl) (fun _ _ _ h => h) hS0 (by rfl) ?_ ?_
     rotate_left
     ·intro w' hS';(try dsimp only at hS');(try go_split_ands);go_simp;(try rw [if_neg (by omega)]);try with_reducible rfl
     simp only [Act.put,List.setIfInBounds_toArray,List.set_cons_zero,List.set_cons_succ]
     refine wpAnyT_take (i:=4) (oi:=_) (v:=?_) rfl (by kernel_rfl) (fun _ _ _ h => h) hS0 (by rfl) ?_ ?_
     rotate_left
     ·intro w' hS';(try dsimp only at hS');(try go_split_ands);go_simp;(try rw [if_neg (by omega)]);try with_reducible rfl
     simp only [Act.put,List.setIfInBounds_toArray,List.set_cons_zero,List.set_cons_succ]
     refine wpAnyT_one (i:=5) (o:=_) rfl (by kernel_rfl) (fun K hK => ?_)
     go_simp
     go_at_call 17;refine (HLV.out _ ((HGA.out.bes (hb.trans HB2.out) HGR.out).keep (Below.drew (Below.refl _ _))) (hs2.keep (Below.drew (Below.refl _ _)))).mono ?_
     rintro e w3 ⟨A3,c3,rfl,hr3,hs3,hb3⟩
     have hz3:w2.heap.size ≤ w3.heap.size:=hb3.size
     have hb3':Bes R w2 w3:=(bes_drew (Bes.refl R w2)).trans hb3
     have hX3:=HX2.out.block (hb3'.block X (by omega) hXR)
     have hS3:=hX3.1
     have HX3:=Lib.hid hX3
     obtain ⟨⟨y0,y1,y2,y3,y4,y5⟩,g0,g1,g2,g3,g4,g5⟩:=id hX3
     refine hK.out _ _ (fun _ => hS3) ?_
     clear hK K
     try simp only [Act.put,List.setIfInBounds_toArray,List.set_cons_zero,List.set_cons_succ]
     refine wpAnyT_one (i:=6) (o:=_) rfl (by kernel_rfl) (fun K hK => ?_)
     go_simp
     refine hK.out _ _ (fun _ => (XBX.block HX3.out ((Below.refl w3.heap.size w3).alloc (Nat.le_refl _) _ |>.block X (by omega))).1) ?_
     clear hK K
     try simp only [Act.put,List.setIfInBounds_toArray,List.set_cons_zero,List.set_cons_succ]
     refine wpAnyT_one (i:=7) (o:=_) rfl (by kernel_rfl) (fun K hK => ?_)
     go_simp
     refine hK.out _ _ (fun _ => (XBX.block HX3.out ((Below.refl w3.heap.size w3).alloc (Nat.le_refl _) _ |>.block X (by omega))).1) ?_
     clear hK K
     try simp only [Act.put,List.setIfInBounds_toArray,List.set_cons_zero,List.set_cons_succ]
     have hX3l:X < w3.heap.size:=by omega
     refine wpAnyT_one (i:=8) (o:=_) rfl (by kernel_rfl) (fun K hK => ?_)
     go_simp
     refine hK.out _ _ (fun h => absurd h (by decide)) ?_
     clear hK K
     refine wpAnyT_done (by kernel_rfl) ?_ _
     refine exit_world ?_;intro W hW
     have hbW:Bes X w3 W:=by rw [hW];exact bes
     have hnW:W.heap[w3.heap.size]? = some (.cells #[.int .i64 x.op,.int .i64 x.v.k,.int .i64 x.v.n,.string x.v.s,.string x.name,.slice A x.args.length c,.int .i64 y.op,.int .i64 y.v.k,.int .i64 y.v.n,.string y.v.s,.string y.name,.slice A3 y.args.length c3] 26 (0,0)):=by rw [hW];exact new_at (by simp)
     have hXW:XBX W X (binX op x y) (some ⟨w3.heap.size,0,none⟩) 2:=by
      rw [hW]
      unfold XBX
      and_intros <;> first | (go_simp;done) | (go_simp;rfl)
     clear hW
     have hxw2:XRep w2 (part w X w2) [.int .i64 x.op,.int .i64 x.v.k,.int .i64 x.v.n,.string x.v.s,.string x.name,.slice A x.args.length c] x:=HXR.out.keep fun b hb' => ⟨⟨hb'.1,Nat.lt_of_lt_of_le hb'.2.1 HB2.out.size,hb'.2.2⟩,HB2.out.block b hb'.2.1 (by have:=hb'.1;omega)⟩
     have HXW:=Lib.hid (bin_rep (w:=w) (w2:=w2) (W:=W) op HM.out.2.2.2 hxw2 hr3 (fun b h1 h2 => hb3'.block b h2 (by omega)) hz3 (by omega) hXw hbW hnW)
     have HZW:=Lib.hid (HZB.out.block ((hbW.block w.heap.size (by omega) (by omega)).trans ((hb3'.block w.heap.size (by omega) n0).trans (HB2.out.block w.heap.size (by omega) n0))))
     have hbw3:Bes R w W:=bes_mix ((hb.trans HB2.out).trans hb3') hbW (by omega)
     have hsW:=hs3.bes hbW (by omega) (by omega)
     have hXlW:X < W.heap.size:=by have:=hbW.size;omega
     have hwW:w.heap.size < W.heap.size:=by omega
     have HXB2:=Lib.hid hXW
     clear hxw2 hr3 hnW hS0 hS3 hX3 HX3 HX2 y0 y1 y2 y3 y4 y5 g0 g1 g2 g3 g4 g5
     by_cases hL3:L = 3
     ·have g3:(L == 3) = true:=by simpa using hL3
      have hcx:=HX.out
      subst hL3
      rw [next_held HM.out.2.2.1] at hcx
      subst hcx
      obtain ⟨⟨y0,y1,y2,y3,y4,y5⟩,g0,g1,g2,g3,g4,g5⟩:=HXB2.out
      obtain ⟨⟨z0,z1,z2,z3,z4,z5⟩,q0,q1,q2,q3,q4,q5⟩:=HZW.out
      have HP:Hid (∀ W',Bes w.heap.size W W' → XRep W' (fresh w W') [.int .i64 op,.int .i64 0,.int .i64 0,.string ⟨#[]⟩,.string ⟨#[]⟩,.slice (some ⟨w3.heap.size,0,none⟩) 2 2] (binX op x y)):=Lib.hid fun W' h => HXW.out.keep fun b hb' => ⟨⟨by have:=hb'.1;omega,by have:=hb'.2.1;have:=h.size;omega⟩,h.block b hb'.2.1 (by have:=hb'.1;omega)⟩
      go_wp2_with fail
      exact bodyPost_ret (v:=.agg #[.int .i64 (binX op x y).op,.int .i64 (binX op x y).v.k,.int .i64 (binX op x y).v.n,.string (binX op x y).v.s,.string (binX op x y).name,.slice (some ⟨w3.heap.size,0,none⟩) (binX op x y).args.length 2]) (by first | (simp [results,Tryz.results17,go_sem];done) | (simp [results,Tryz.results17,go_sem, *];done)) rfl ⟨_,_,rfl,HP.out _ bes,hsW.under (n:=R + 1) bel (by omega),bes⟩
     ·have g3:(L == 3) = false:=by simpa using hL3
      have hcx:=HX.out
      rw [next_on HM.out.2.2.1 hL3] at hcx
      have HCX:=Lib.hid hcx
      have hm1:=rlen_eq hsW
      have hm2:=rlen_eq hrs.out.1
      have hm3:=hrs.out.2.1
      have hm4:=HM.out.1
      rw [List.length_cons] at hm2 hm3
      go_wp2_with fail
      go_roundw
      case rel => exact ⟨binX op x y,some ⟨w3.heap.size,0,none⟩,2,r2,HXB2,HZW,HXW,Lib.hid ⟨hsW,by omega,HM.out.2.1⟩,HCX,hbw3,hXlW⟩
      case measure => omega
theorem reader_levels (T0 R:Nat) (en:Int) (n:Nat) (ihO:OneN T0 R en (n + 1)):∀ (k:Nat) (L:Int),L = 6 - (k:Int) → k ≤ 5 → ∀ (ts:List Tkn) (w:World),ts.length ≤ n → TokOk ts → GlobR R → GdA w → RdS T0 w R ts en → Calls Tryz.prog 17 #[.pointer (some ⟨R,0,none⟩),.int .i64 L] w (PPost T0 R en w (rdForm L ts))
 | 0,L,hL,_,ts,w,hts,hok,hgR,hg,hs => by
  have hL6:L = 6:=by omega
  subst hL6
  rw [rdForm_six]
  exact reader_level6 T0 R en n ihO ts w hts hok hgR hg hs
 | k + 1,L,hL,hk,ts,w,hts,hok,hgR,hg,hs =>
  reader_level_step T0 R en n L (by omega) (by omega) (fun ts w h1 h2 h3 h4 h5 => reader_levels T0 R en n ihO k (L + 1) (by omega) (by omega) ts w h1 h2 h3 h4 h5) ts w hts hok hgR hg hs
theorem reader_all (T0 R:Nat) (en:Int):∀ n,LevN T0 R en n ∧ OneN T0 R en n
 | 0 => ⟨fun _ _ _ _ _ h => absurd h (Nat.not_lt_zero _),fun _ _ h => absurd h (Nat.not_lt_zero _)⟩
 | n + 1 => by
  obtain ⟨i1,i2⟩:=reader_all T0 R en n
  have h1:=reader_one T0 R en n i1 i2
  refine ⟨fun L ts w hL1 hL6 hts hok hgR hg hs => ?_,h1⟩
  exact reader_levels T0 R en n h1 (6 - L).toNat L (by omega) (by omega) ts w (by omega) hok hgR hg hs
end Go.Proofs.YtldbpmlgbbomcaaGreatDoor
