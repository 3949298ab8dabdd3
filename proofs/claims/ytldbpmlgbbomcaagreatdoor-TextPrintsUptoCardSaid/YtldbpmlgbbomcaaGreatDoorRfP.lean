/- The reference's closeness, bracketed, exprText, ExprText. (printed by mkrfp.py) -/
import Derived.Test.YtldbpmlgbbomcaaGreatDoorPrn4
import Derived.Test.YtldbpmlgbbomcaaGreatDoorCls
import Derived.Test.YtldbpmlgbbomcaaGreatDoorHeldX
namespace Go.Proofs.YtldbpmlgbbomcaaGreatDoor
open Go.RowKit

theorem held19 {w0 w' w1:World} {N:Nat} {p0 p1 p2 p3 p4 p5 p6 p7 p8 p9 p10 p11 p12 p13 p14 p15 p16 p17 p18:Addr} {v0 v1 v2 v3 v4 v5 v6 v7 v8 v9 v10 v11 v12 v13 v14 v15 v16 v17 v18:Value} (h:w'.cell? p0 = some v0 ∧ w'.cell? p1 = some v1 ∧ w'.cell? p2 = some v2 ∧ w'.cell? p3 = some v3 ∧ w'.cell? p4 = some v4 ∧ w'.cell? p5 = some v5 ∧ w'.cell? p6 = some v6 ∧ w'.cell? p7 = some v7 ∧ w'.cell? p8 = some v8 ∧ w'.cell? p9 = some v9 ∧ w'.cell? p10 = some v10 ∧ w'.cell? p11 = some v11 ∧ w'.cell? p12 = some v12 ∧ w'.cell? p13 = some v13 ∧ w'.cell? p14 = some v14 ∧ w'.cell? p15 = some v15 ∧ w'.cell? p16 = some v16 ∧ w'.cell? p17 = some v17 ∧ w'.cell? p18 = some v18 ∧ Below N w0 w' ∧ N ≤ w'.heap.size) (hb:Below w'.heap.size w' w1):w1.cell? p0 = some v0 ∧ w1.cell? p1 = some v1 ∧ w1.cell? p2 = some v2 ∧ w1.cell? p3 = some v3 ∧ w1.cell? p4 = some v4 ∧ w1.cell? p5 = some v5 ∧ w1.cell? p6 = some v6 ∧ w1.cell? p7 = some v7 ∧ w1.cell? p8 = some v8 ∧ w1.cell? p9 = some v9 ∧ w1.cell? p10 = some v10 ∧ w1.cell? p11 = some v11 ∧ w1.cell? p12 = some v12 ∧ w1.cell? p13 = some v13 ∧ w1.cell? p14 = some v14 ∧ w1.cell? p15 = some v15 ∧ w1.cell? p16 = some v16 ∧ w1.cell? p17 = some v17 ∧ w1.cell? p18 = some v18 ∧ Below N w0 w1 ∧ N ≤ w1.heap.size:=by
 obtain ⟨h0,h1,h2,h3,h4,h5,h6,h7,h8,h9,h10,h11,h12,h13,h14,h15,h16,h17,h18,hb0,hl⟩:=h
 exact ⟨cell_keep h0 hb,cell_keep h1 hb,cell_keep h2 hb,cell_keep h3 hb,cell_keep h4 hb,cell_keep h5 hb,cell_keep h6 hb,cell_keep h7 hb,cell_keep h8 hb,cell_keep h9 hb,cell_keep h10 hb,cell_keep h11 hb,cell_keep h12 hb,cell_keep h13 hb,cell_keep h14 hb,cell_keep h15 hb,cell_keep h16 hb,cell_keep h17 hb,cell_keep h18 hb,below_step hb0 hb hl,Nat.le_trans hl hb.size⟩
theorem held19d {w0 w':World} {N:Nat} {p0 p1 p2 p3 p4 p5 p6 p7 p8 p9 p10 p11 p12 p13 p14 p15 p16 p17 p18:Addr} {v0 v1 v2 v3 v4 v5 v6 v7 v8 v9 v10 v11 v12 v13 v14 v15 v16 v17 v18:Value} (h:w'.cell? p0 = some v0 ∧ w'.cell? p1 = some v1 ∧ w'.cell? p2 = some v2 ∧ w'.cell? p3 = some v3 ∧ w'.cell? p4 = some v4 ∧ w'.cell? p5 = some v5 ∧ w'.cell? p6 = some v6 ∧ w'.cell? p7 = some v7 ∧ w'.cell? p8 = some v8 ∧ w'.cell? p9 = some v9 ∧ w'.cell? p10 = some v10 ∧ w'.cell? p11 = some v11 ∧ w'.cell? p12 = some v12 ∧ w'.cell? p13 = some v13 ∧ w'.cell? p14 = some v14 ∧ w'.cell? p15 = some v15 ∧ w'.cell? p16 = some v16 ∧ w'.cell? p17 = some v17 ∧ w'.cell? p18 = some v18 ∧ Below N w0 w' ∧ N ≤ w'.heap.size):w'.drew.cell? p0 = some v0 ∧ w'.drew.cell? p1 = some v1 ∧ w'.drew.cell? p2 = some v2 ∧ w'.drew.cell? p3 = some v3 ∧ w'.drew.cell? p4 = some v4 ∧ w'.drew.cell? p5 = some v5 ∧ w'.drew.cell? p6 = some v6 ∧ w'.drew.cell? p7 = some v7 ∧ w'.drew.cell? p8 = some v8 ∧ w'.drew.cell? p9 = some v9 ∧ w'.drew.cell? p10 = some v10 ∧ w'.drew.cell? p11 = some v11 ∧ w'.drew.cell? p12 = some v12 ∧ w'.drew.cell? p13 = some v13 ∧ w'.drew.cell? p14 = some v14 ∧ w'.drew.cell? p15 = some v15 ∧ w'.drew.cell? p16 = some v16 ∧ w'.drew.cell? p17 = some v17 ∧ w'.drew.cell? p18 = some v18 ∧ Below N w0 w'.drew ∧ N ≤ w'.drew.heap.size:=by
 obtain ⟨h0,h1,h2,h3,h4,h5,h6,h7,h8,h9,h10,h11,h12,h13,h14,h15,h16,h17,h18,hb0,hl⟩:=h
 exact ⟨h0,h1,h2,h3,h4,h5,h6,h7,h8,h9,h10,h11,h12,h13,h14,h15,h16,h17,h18,hb0.drew,hl⟩
theorem held19b {w0 w':World} {N:Nat} {p0 p1 p2 p3 p4 p5 p6 p7 p8 p9 p10 p11 p12 p13 p14 p15 p16 p17 p18:Addr} {v0 v1 v2 v3 v4 v5 v6 v7 v8 v9 v10 v11 v12 v13 v14 v15 v16 v17 v18:Value} (h:w'.cell? p0 = some v0 ∧ w'.cell? p1 = some v1 ∧ w'.cell? p2 = some v2 ∧ w'.cell? p3 = some v3 ∧ w'.cell? p4 = some v4 ∧ w'.cell? p5 = some v5 ∧ w'.cell? p6 = some v6 ∧ w'.cell? p7 = some v7 ∧ w'.cell? p8 = some v8 ∧ w'.cell? p9 = some v9 ∧ w'.cell? p10 = some v10 ∧ w'.cell? p11 = some v11 ∧ w'.cell? p12 = some v12 ∧ w'.cell? p13 = some v13 ∧ w'.cell? p14 = some v14 ∧ w'.cell? p15 = some v15 ∧ w'.cell? p16 = some v16 ∧ w'.cell? p17 = some v17 ∧ w'.cell? p18 = some v18 ∧ Below N w0 w' ∧ N ≤ w'.heap.size):Below N w0 w':=h.2.2.2.2.2.2.2.2.2.2.2.2.2.2.2.2.2.2.2.1
theorem held19i {w0 w':World} {N:Nat} {p0 p1 p2 p3 p4 p5 p6 p7 p8 p9 p10 p11 p12 p13 p14 p15 p16 p17 p18:Addr} {v0 v1 v2 v3 v4 v5 v6 v7 v8 v9 v10 v11 v12 v13 v14 v15 v16 v17 v18:Value} (h:w'.cell? p0 = some v0 ∧ w'.cell? p1 = some v1 ∧ w'.cell? p2 = some v2 ∧ w'.cell? p3 = some v3 ∧ w'.cell? p4 = some v4 ∧ w'.cell? p5 = some v5 ∧ w'.cell? p6 = some v6 ∧ w'.cell? p7 = some v7 ∧ w'.cell? p8 = some v8 ∧ w'.cell? p9 = some v9 ∧ w'.cell? p10 = some v10 ∧ w'.cell? p11 = some v11 ∧ w'.cell? p12 = some v12 ∧ w'.cell? p13 = some v13 ∧ w'.cell? p14 = some v14 ∧ w'.cell? p15 = some v15 ∧ w'.cell? p16 = some v16 ∧ w'.cell? p17 = some v17 ∧ w'.cell? p18 = some v18 ∧ Below N w0 w' ∧ N ≤ w'.heap.size):w'.cell? p0 = some v0 ∧ w'.cell? p1 = some v1 ∧ w'.cell? p2 = some v2 ∧ w'.cell? p3 = some v3 ∧ w'.cell? p4 = some v4 ∧ w'.cell? p5 = some v5 ∧ w'.cell? p6 = some v6 ∧ w'.cell? p7 = some v7 ∧ w'.cell? p8 = some v8 ∧ w'.cell? p9 = some v9 ∧ w'.cell? p10 = some v10 ∧ w'.cell? p11 = some v11 ∧ w'.cell? p12 = some v12 ∧ w'.cell? p13 = some v13 ∧ w'.cell? p14 = some v14 ∧ w'.cell? p15 = some v15 ∧ w'.cell? p16 = some v16 ∧ w'.cell? p17 = some v17 ∧ w'.cell? p18 = some v18 ∧ Below N w0 w' ∧ N ≤ w'.heap.size:=h

def TxtN (N:Nat):Prop:=∀ (x:Exp) (A:Option Addr) (c:Nat) (w:World),x.nodes ≤ N → x.nodes ≤ 1048576 → prtN x = 0 → Gd w → XRep w (old w) [.int .i64 x.op,.int .i64 x.v.k,.int .i64 x.v.n,.string x.v.s,.string x.name,.slice A x.args.length c] x →
 Calls Tryz.prog 29 #[.agg #[.int .i64 x.op,.int .i64 x.v.k,.int .i64 x.v.n,.string x.v.s,.string x.name,.slice A x.args.length c]] w (RetS w (prX x))
set_option maxRecDepth 100000 in
set_option maxHeartbeats 8000000 in
theorem ref_bracketed {N:Nat} (ih:TxtN N) (x:Exp) (A:Option Addr) (c:Nat) (level:Int) (w:World) (hN:x.nodes ≤ N) (hM:x.nodes ≤ 1048576) (hp:prtN x = 0) (hg:Gd w) (hx:XRep w (old w) [.int .i64 x.op,.int .i64 x.v.k,.int .i64 x.v.n,.string x.v.s,.string x.name,.slice A x.args.length c] x) :
  Calls Tryz.prog 64 #[.agg #[.int .i64 x.op,.int .i64 x.v.k,.int .i64 x.v.n,.string x.v.s,.string x.name,.slice A x.args.length c],.int .i64 level] w (RetS w (brk level (prT x))):=by
 obtain ⟨p1,p2,_,_⟩:=prt_ok hp
 have hcl:=fun w => ref_closeness x.op w p1 p2
 have hch:=fun w h h' => ih x A c w hN hM hp h h'
 have hsz:(prX x).size ≤ 104857600:=by have:=prX_len x hp;omega
 obtain ⟨tx,htx⟩:∃ tx,tx = prX x:=⟨_,rfl⟩
 have hbr:brk level (prT x) = if lvlN x.op < level then ⟨#[40]⟩ ++ tx ++ ⟨#[41]⟩ else tx:=by rw [htx];rfl
 rw [← htx] at hch hsz
 obtain ⟨k,hk⟩:∃ k,k = lvlN x.op:=⟨_,rfl⟩
 rw [← hk] at hcl hbr
 have c40:(⟨#[40]⟩:ByteArray).size = 1:=rfl
 have c41:(⟨#[41]⟩:ByteArray).size = 1:=rfl
 have HX:=Lib.hid hx
 have HG:=Lib.hid hg
 have HB:=Lib.hid hbr
 clear htx hk hx hg hp hN hM ih p1 p2 hbr
 by_cases hl:k < level
 ·have hl':decide (k < level) = true:=decide_eq_true hl
  have hs2:(⟨#[40]⟩ ++ tx).size ≤ 104857700:=by rw [ByteArray.size_append];omega
  have HB2:=Lib.hid (HB.out.trans (if_pos hl))
  go_enter Tryz.func64,Tryz.ntmps64
  go_wp2_with (first
   | (go_at_call 29;refine (hch _ (HG.out.keep bel) (HX.out.keep (old_keep bel))).mono ?_;rintro e w1 ⟨rfl,hb1⟩;obtain ⟨hc1,hf1⟩:=bcell hb1;(try simp only [bqh,bqc,bqf] at hc1 hf1);have hz1:=hb1.size;(try simp at hz1);(try have hy1:=nl1 hz1);(try have hx1:=nl2 hy1);refine szz w1 w ?_;intros)
   | (go_at_call 49;refine (hcl _).mono ?_;rintro e w2 ⟨rfl,hb2⟩;obtain ⟨hc2,hf2⟩:=bcell hb2;(try simp only [bqh,bqc,bqf] at hc2 hf2);have hz2:=hb2.size;(try simp at hz2);(try have hy2:=nl1 hz2);(try have hx2:=nl2 hy2);refine szz w2 w ?_;intros;refine szz w2 w1 ?_;intros))
  go_ret
  exact ⟨by rw [HB2.out];try rfl,bel⟩
 ·have hl':decide (k < level) = false:=decide_eq_false hl
  have HB2:=Lib.hid (HB.out.trans (if_neg hl))
  go_enter Tryz.func64,Tryz.ntmps64
  go_wp2_with (first
   | (go_at_call 29;refine (hch _ (HG.out.keep bel) (HX.out.keep (old_keep bel))).mono ?_;rintro e w1 ⟨rfl,hb1⟩;obtain ⟨hc1,hf1⟩:=bcell hb1;(try simp only [bqh,bqc,bqf] at hc1 hf1);have hz1:=hb1.size;(try simp at hz1);(try have hy1:=nl1 hz1);(try have hx1:=nl2 hy1);refine szz w1 w ?_;intros)
   | (go_at_call 49;refine (hcl _).mono ?_;rintro e w2 ⟨rfl,hb2⟩;obtain ⟨hc2,hf2⟩:=bcell hb2;(try simp only [bqh,bqc,bqf] at hc2 hf2);have hz2:=hb2.size;(try simp at hz2);(try have hy2:=nl1 hz2);(try have hx2:=nl2 hy2);refine szz w2 w ?_;intros;refine szz w2 w1 ?_;intros))
  go_ret
  exact ⟨by rw [HB2.out];try rfl,bel⟩
set_option maxRecDepth 100000 in
set_option maxHeartbeats 8000000 in
theorem text_ref (x:Exp) (A:Option Addr) (c:Nat) (w:World) (hp:prtN x = 0) (h2:x.op = 2) (_hg:Gd w) (N:Nat) (_hN:x.nodes ≤ N + 1) (_hM:x.nodes ≤ 1048576) (_ih:TxtN N) (_hx:XRep w (old w) [.int .i64 x.op,.int .i64 x.v.k,.int .i64 x.v.n,.string x.v.s,.string x.name,.slice A x.args.length c] x) :
  Calls Tryz.prog 29 #[.agg #[.int .i64 x.op,.int .i64 x.v.k,.int .i64 x.v.n,.string x.v.s,.string x.name,.slice A x.args.length c]] w (RetS w (prX x)):=by
 obtain ⟨p1,p2,p3,p4⟩:=prt_ok hp
 have hcl:=fun w => ref_closeness x.op w p1 p2
 have g1:(x.op == 1) = false:=by simp only [beq_eq_false_iff_ne,ne_eq];omega
 have g2:(x.op == 2) = true:=by rw [beq_iff_eq];exact h2
 have HT:=Lib.hid (show prX x = x.name by rw [prX_eq,joinT,if_neg (by omega),if_pos h2])
 clear _hx _hg _ih h2 p1 p2 p3 p4 hp _hN _hM
 go_enter Tryz.func29,Tryz.ntmps29
 go_wp2_with (go_at_call 49;refine (hcl _).mono ?_;rintro e w1 ⟨rfl,hb1⟩;obtain ⟨hc1,hf1⟩:=bcell hb1;(try simp only [bqh,bqc,bqf] at hc1 hf1);have hz1:=hb1.size;(try simp at hz1);(try have hy1:=nl1 hz1);(try have hx1:=nl2 hy1);refine szz w1 w ?_;intros)
 go_ret
 exact ⟨by rw [HT.out];try rfl,bel⟩
set_option maxRecDepth 100000 in
set_option maxHeartbeats 8000000 in
theorem text_const (x:Exp) (A:Option Addr) (c:Nat) (w:World) (hp:prtN x = 0) (h2:x.op = 1) (hg:Gd w) (N:Nat) (_hN:x.nodes ≤ N + 1) (_hM:x.nodes ≤ 1048576) (_ih:TxtN N) (hx:XRep w (old w) [.int .i64 x.op,.int .i64 x.v.k,.int .i64 x.v.n,.string x.v.s,.string x.name,.slice A x.args.length c] x) :
  Calls Tryz.prog 29 #[.agg #[.int .i64 x.op,.int .i64 x.v.k,.int .i64 x.v.n,.string x.v.s,.string x.name,.slice A x.args.length c]] w (RetS w (prX x)):=by
 obtain ⟨p1,p2,p3,p4⟩:=prt_ok hp
 have hcl:=fun w => ref_closeness x.op w p1 p2
 have g1:(x.op == 1) = true:=by rw [beq_iff_eq];exact h2
 have hvw:=hx.open_
 obtain ⟨_,_,_,i1,i2,i3,i4,i5,_⟩:=hvw
 have hvf:x.v.wf:=val_wf9 ((valKnown_iff' _).1 (part_v hp h2)).1
 have hv:=fun w h => ref_ValueText x.v w hvf h
 have HT:=Lib.hid (show prX x = showV x.v by rw [prX_eq,joinT,if_pos h2])
 have HG:=Lib.hid hg
 clear hx hg _ih h2 p1 p2 p3 p4 hp _hN _hM hvf
 go_enter Tryz.func29,Tryz.ntmps29
 go_wp2_with (first
  | (go_at_call 49;refine (hcl _).mono ?_;rintro e w1 ⟨rfl,hb1⟩;obtain ⟨hc1,hf1⟩:=bcell hb1;(try simp only [bqh,bqc,bqf] at hc1 hf1);have hz1:=hb1.size;(try simp at hz1);(try have hy1:=nl1 hz1);(try have hx1:=nl2 hy1);refine szz w1 w ?_;intros)
  | (go_at_call 63;refine (hv _ (HG.out.keep bel)).mono ?_;rintro e w2 ⟨rfl,hb2⟩;obtain ⟨hc2,hf2⟩:=bcell hb2;(try simp only [bqh,bqc,bqf] at hc2 hf2);have hz2:=hb2.size;(try simp at hz2);(try have hy2:=nl1 hz2);(try have hx2:=nl2 hy2);refine szz w2 w ?_;intros;refine szz w2 w1 ?_;intros))
 go_ret
 exact ⟨by rw [HT.out];try rfl,bel⟩
set_option maxRecDepth 100000 in
set_option maxHeartbeats 8000000 in
theorem text_one (x:Exp) (A:Option Addr) (c:Nat) (w:World) (hp:prtN x = 0) (h2:x.op = 3 ∨ x.op = 4) (hg:Gd w) (N:Nat) (hN:x.nodes ≤ N + 1) (hM:x.nodes ≤ 1048576) (ih:TxtN N) (hx:XRep w (old w) [.int .i64 x.op,.int .i64 x.v.k,.int .i64 x.v.n,.string x.v.s,.string x.name,.slice A x.args.length c] x) :
  Calls Tryz.prog 29 #[.agg #[.int .i64 x.op,.int .i64 x.v.k,.int .i64 x.v.n,.string x.v.s,.string x.name,.slice A x.args.length c]] w (RetS w (prX x)):=by
 obtain ⟨p1,p2,p3,p4⟩:=prt_ok hp
 obtain ⟨A0,c0,e0,i1,i2,i3,i4,i5,hsl⟩:=hx.open_
 simp only [List.cons.injEq,Value.slice.injEq,and_true,true_and] at e0
 obtain ⟨rfl,rfl⟩:=e0
 have HSL:=Lib.hid hsl
 have HP4:=Lib.hid p4
 have HG:=Lib.hid hg
 have HI:=Lib.hid ih
 have HNN:=Lib.hid (And.intro hN hM)
 have hcl:=fun w => ref_closeness x.op w p1 p2
 have hnx:x.nodes = nodesL x.args + 1:=by cases x;rfl
 have hl1:x.args.length = 1:=by
  rcases h2 with h | h
  ·have:argsN x.op = 1:=by rw [h];decide
   omega
  ·have:argsN x.op = 1:=by rw [h];decide
   omega
 have g1:(x.op == 1) = false:=by simp only [beq_eq_false_iff_ne,ne_eq];omega
 have g2:(x.op == 2) = false:=by simp only [beq_eq_false_iff_ne,ne_eq];omega
 have g17:(x.op == 17) = false:=by simp only [beq_eq_false_iff_ne,ne_eq];omega
 have g18:(x.op == 18) = false:=by simp only [beq_eq_false_iff_ne,ne_eq];omega
 obtain ⟨g,o9,a,X,C,e9,hg9,hl,hxa,y0,y1,y2,y3,y4,y5⟩:=Exp_at HSL.out (k:=0) (by omega)
 have hma:=List.mem_of_getElem? hl
 have hnm:=nodes_mem9 hma
 have hpa:=HP4.out a hma
 have HXA:=Lib.hid hxa
 subst e9
 simp only [Nat.zero_mul,Nat.add_zero] at y0 y1 y2 y3 y4 y5
 have hch:=fun w h h' => ref_bracketed ih a X C 6 w (by omega) (by omega) hpa h h'
 obtain ⟨tA,htA⟩:∃ tA,tA = brk 6 (prT a):=⟨_,rfl⟩
 rw [← htA] at hch
 have hAl:tA.size ≤ 104857602:=by
  rw [htA]
  refine Nat.le_trans (brk_len _ _) ?_
  have:=prX_len a hpa
  show (prX a).size + 2 ≤ _
  omega
 have hgl:g < w.heap.size:=hg9
 have hlv:lvlN x.op = 6:=by rcases h2 with h | h <;> (rw [h];decide)
 rw [hlv] at hcl
 have hpos:(0:Int) < (x.args.length:Int):=by omega
 have hpos':0 < x.args.length:=by omega
 have HT:=Lib.hid (show prX x = clsS x.op ++ tA by
  rw [prX_eq,htA]
  have ht:tAt (x.args.map fun a => (a.op,prX a)) 0 = prT a:=by unfold tAt;rw [List.getElem?_map,hl];rfl
  rcases h2 with h | h
  ·rw [h,joinT,if_neg (by decide),if_neg (by decide),if_neg (by decide),if_pos rfl,ht];rfl
  ·rw [h,joinT,if_neg (by decide),if_neg (by decide),if_neg (by decide),if_neg (by decide),if_pos rfl,ht];rfl)
 obtain ⟨sg,hsg⟩:∃ sg,sg = clsS x.op:=⟨_,rfl⟩
 have hsl9:=clsS_len x.op
 rw [← hsg] at hcl hsl9
 have HT:=Lib.hid (HT.out.trans (show _ = sg ++ tA by rw [hsg]))
 clear hx ih hsl i1 i2 i3 i4 i5 hg hlv hsg htA hma hnm hpa hl hxa p1 p2 p3 p4 hp hN hM h2 hl1 hnx
 go_enter Tryz.func29,Tryz.ntmps29
 go_wp2_with (first
  | (go_at_call 49;refine (hcl _).mono ?_;rintro e w1 ⟨rfl,hb1⟩;obtain ⟨hc1,hf1⟩:=bcell hb1;(try simp only [bqh,bqc,bqf] at hc1 hf1);have hz1:=hb1.size;(try simp at hz1);(try have hy1:=nl1 hz1);(try have hx1:=nl2 hy1);refine szz w1 w ?_;intros)
  | (go_at_call 64;refine (hch _ (HG.out.keep bel) (HXA.out.keep (old_keep bel))).mono ?_;rintro e w2 ⟨rfl,hb2⟩;obtain ⟨hc2,hf2⟩:=bcell hb2;(try simp only [bqh,bqc,bqf] at hc2 hf2);have hz2:=hb2.size;(try simp at hz2);(try have hy2:=nl1 hz2);(try have hx2:=nl2 hy2);refine szz w2 w ?_;intros;refine szz w2 w1 ?_;intros))
 go_ret
 exact ⟨by rw [HT.out];try rfl,bel⟩
set_option maxRecDepth 100000 in
set_option maxHeartbeats 8000000 in
theorem text_len (x:Exp) (A:Option Addr) (c:Nat) (w:World) (hp:prtN x = 0) (h2:x.op = 18) (hg:Gd w) (N:Nat) (hN:x.nodes ≤ N + 1) (hM:x.nodes ≤ 1048576) (ih:TxtN N) (hx:XRep w (old w) [.int .i64 x.op,.int .i64 x.v.k,.int .i64 x.v.n,.string x.v.s,.string x.name,.slice A x.args.length c] x) :
  Calls Tryz.prog 29 #[.agg #[.int .i64 x.op,.int .i64 x.v.k,.int .i64 x.v.n,.string x.v.s,.string x.name,.slice A x.args.length c]] w (RetS w (prX x)):=by
 obtain ⟨p1,p2,p3,p4⟩:=prt_ok hp
 obtain ⟨A0,c0,e0,i1,i2,i3,i4,i5,hsl⟩:=hx.open_
 simp only [List.cons.injEq,Value.slice.injEq,and_true,true_and] at e0
 obtain ⟨rfl,rfl⟩:=e0
 have HSL:=Lib.hid hsl
 have HP4:=Lib.hid p4
 have HG:=Lib.hid hg
 have HI:=Lib.hid ih
 have HNN:=Lib.hid (And.intro hN hM)
 have hcl:=fun w => ref_closeness x.op w p1 p2
 have hnx:x.nodes = nodesL x.args + 1:=by cases x;rfl
 have hl1:x.args.length = 1:=by
  have:argsN x.op = 1:=by rw [h2];decide
  omega
 have g1:(x.op == 1) = false:=by simp only [beq_eq_false_iff_ne,ne_eq];omega
 have g2:(x.op == 2) = false:=by simp only [beq_eq_false_iff_ne,ne_eq];omega
 have g18:(x.op == 18) = true:=by rw [beq_iff_eq];exact h2
 obtain ⟨g,o9,a,X,C,e9,hg9,hl,hxa,y0,y1,y2,y3,y4,y5⟩:=Exp_at HSL.out (k:=0) (by omega)
 have hma:=List.mem_of_getElem? hl
 have hnm:=nodes_mem9 hma
 have hpa:=HP4.out a hma
 have HXA:=Lib.hid hxa
 subst e9
 simp only [Nat.zero_mul,Nat.add_zero] at y0 y1 y2 y3 y4 y5
 have hch:=fun w h h' => ih a X C w (by omega) (by omega) hpa h h'
 obtain ⟨tA,htA⟩:∃ tA,tA = prX a:=⟨_,rfl⟩
 rw [← htA] at hch
 have hAl:tA.size ≤ 104857602:=by
  rw [htA]
  have:=prX_len a hpa
  omega
 have c32:(⟨#[32]⟩:ByteArray).size = 1:=rfl
 have c41:(⟨#[41]⟩:ByteArray).size = 1:=rfl
 have c44:(⟨#[44,32]⟩:ByteArray).size = 2:=rfl
 have hgl:g < w.heap.size:=hg9
 have hpos:(0:Int) < (x.args.length:Int):=by omega
 have hpos':0 < x.args.length:=by omega
 have c4:(⟨#[108,101,110,40]⟩:ByteArray).size = 4:=rfl
 have hs1:(⟨#[108,101,110,40]⟩ ++ tA).size ≤ 104857700:=by rw [ByteArray.size_append];omega
 have HT:=Lib.hid (show prX x = ⟨#[108,101,110,40]⟩ ++ tA ++ ⟨#[41]⟩ by
  rw [prX_eq,htA,h2,joinT,if_neg (by decide),if_neg (by decide),if_pos (by decide)]
  match x.args,hl1,hl with
  | [b],_,hl => cases hl;rfl)
 clear hx ih hsl i1 i2 i3 i4 i5 hg htA hma hnm hpa hl hxa p1 p2 p3 p4 hp hN hM h2 hl1 hnx
 go_enter Tryz.func29,Tryz.ntmps29
 go_wp2_with (first
  | (go_at_call 49;refine (hcl _).mono ?_;rintro e w1 ⟨rfl,hb1⟩;obtain ⟨hc1,hf1⟩:=bcell hb1;(try simp only [bqh,bqc,bqf] at hc1 hf1);have hz1:=hb1.size;(try simp at hz1);(try have hy1:=nl1 hz1);(try have hx1:=nl2 hy1);refine szz w1 w ?_;intros)
  | (go_at_call 29;refine (hch _ (HG.out.keep bel) (HXA.out.keep (old_keep bel))).mono ?_;rintro e w2 ⟨rfl,hb2⟩;obtain ⟨hc2,hf2⟩:=bcell hb2;(try simp only [bqh,bqc,bqf] at hc2 hf2);have hz2:=hb2.size;(try simp at hz2);(try have hy2:=nl1 hz2);(try have hx2:=nl2 hy2);refine szz w2 w ?_;intros;refine szz w2 w1 ?_;intros))
 go_ret
 exact ⟨by rw [HT.out];try rfl,bel⟩
set_option maxRecDepth 100000 in
set_option maxHeartbeats 8000000 in
theorem text_near (x:Exp) (A:Option Addr) (c:Nat) (w:World) (hp:prtN x = 0) (h2:(5 ≤ x.op ∧ x.op ≤ 16) ∧ lvlN x.op = 3) (hg:Gd w) (N:Nat) (hN:x.nodes ≤ N + 1) (hM:x.nodes ≤ 1048576) (ih:TxtN N) (hx:XRep w (old w) [.int .i64 x.op,.int .i64 x.v.k,.int .i64 x.v.n,.string x.v.s,.string x.name,.slice A x.args.length c] x) :
  Calls Tryz.prog 29 #[.agg #[.int .i64 x.op,.int .i64 x.v.k,.int .i64 x.v.n,.string x.v.s,.string x.name,.slice A x.args.length c]] w (RetS w (prX x)):=by
 obtain ⟨p1,p2,p3,p4⟩:=prt_ok hp
 obtain ⟨A0,c0,e0,i1,i2,i3,i4,i5,hsl⟩:=hx.open_
 simp only [List.cons.injEq,Value.slice.injEq,and_true,true_and] at e0
 obtain ⟨rfl,rfl⟩:=e0
 have HSL:=Lib.hid hsl
 have HP4:=Lib.hid p4
 have HG:=Lib.hid hg
 have HI:=Lib.hid ih
 have HNN:=Lib.hid (And.intro hN hM)
 have hcl:=fun w => ref_closeness x.op w p1 p2
 have hnx:x.nodes = nodesL x.args + 1:=by cases x;rfl
 have har:argsN x.op = 2:=by unfold argsN;rw [if_neg (by omega),if_neg (by omega),if_neg (by omega)]
 have hl2:x.args.length = 2:=by omega
 have g1:(x.op == 1) = false:=by simp only [beq_eq_false_iff_ne,ne_eq];omega
 have g2:(x.op == 2) = false:=by simp only [beq_eq_false_iff_ne,ne_eq];omega
 have g17:(x.op == 17) = false:=by simp only [beq_eq_false_iff_ne,ne_eq];omega
 have g18:(x.op == 18) = false:=by simp only [beq_eq_false_iff_ne,ne_eq];omega
 obtain ⟨g,o9,a,X,C,e9,hg9,hl,hxa,y0,y1,y2,y3,y4,y5⟩:=Exp_at HSL.out (k:=0) (by omega)
 have hma:=List.mem_of_getElem? hl
 have hnm:=nodes_mem9 hma
 have hpa:=HP4.out a hma
 have HXA:=Lib.hid hxa
 obtain ⟨g',o9',a',X',C',e9',hg9',hl',hxa',y0',y1',y2',y3',y4',y5'⟩:=Exp_at HSL.out (k:=1) (by omega)
 have hma':=List.mem_of_getElem? hl'
 have hnm':=nodes_mem9 hma'
 have hpa':=HP4.out a' hma'
 have HXA':=Lib.hid hxa'
 rw [e9] at e9'
 cases e9'
 subst e9
 simp only [Nat.zero_mul,Nat.one_mul,Nat.add_zero] at y0 y1 y2 y3 y4 y5 y0' y1' y2' y3' y4' y5'
 have hch:=fun w h h' => ref_bracketed ih a X C 4 w (by omega) (by omega) hpa h h'
 obtain ⟨tA,htA⟩:∃ tA,tA = brk 4 (prT a):=⟨_,rfl⟩
 rw [← htA] at hch
 have hAl:tA.size ≤ 104857602:=by
  rw [htA]
  refine Nat.le_trans (brk_len _ _) ?_
  have:=prX_len a hpa
  show (prX a).size + 2 ≤ _
  omega
 have hch':=fun w h h' => ref_bracketed ih a' X' C' 4 w (by omega) (by omega) hpa' h h'
 obtain ⟨tA',htA'⟩:∃ tA,tA = brk 4 (prT a'):=⟨_,rfl⟩
 rw [← htA'] at hch'
 have hAl':tA'.size ≤ 104857602:=by
  rw [htA']
  refine Nat.le_trans (brk_len _ _) ?_
  have:=prX_len a' hpa'
  show (prX a').size + 2 ≤ _
  omega
 have c32:(⟨#[32]⟩:ByteArray).size = 1:=rfl
 have c41:(⟨#[41]⟩:ByteArray).size = 1:=rfl
 have c44:(⟨#[44,32]⟩:ByteArray).size = 2:=rfl
 have hgl:g < w.heap.size:=hg9
 have hpos:(0:Int) < (x.args.length:Int) ∧ (1:Int) < (x.args.length:Int):=by omega
 obtain ⟨hpos1,hpos2⟩:=hpos
 have hpos':0 < x.args.length:=by omega
 have hpos'':1 < x.args.length:=by omega
 have hlb:=lvl_bd x.op
 have hl7:=lvl_not7 h2.1.1 h2.1.2
 have hsg9:clsS x.op = sgnN x.op:=by unfold clsS;rw [if_neg (by omega),if_pos (by omega)]
 have HT:=Lib.hid (show prX x = tA ++ ⟨#[32]⟩ ++ clsS x.op ++ ⟨#[32]⟩ ++ tA' by
  have h4:=h2.2
  rw [prX_eq,joinT,if_neg (by omega),if_neg (by omega),if_neg (by omega),if_neg (by omega),if_neg (by omega),hsg9,htA,htA']
  unfold tAt
  rw [List.getElem?_map,hl,List.getElem?_map,hl']
  rw [if_pos h4,h4];rfl)
 have hl6:lvlN x.op ≠ 6:=by
  intro h6
  have:x.op = 3 ∨ x.op = 4:=by
   unfold lvlN at h6
   split at h6
   ·cases h6
   split at h6
   ·cases h6
   split at h6
   ·cases h6
   split at h6
   ·cases h6
   split at h6
   ·cases h6
   split at h6
   ·assumption
   ·cases h6
  omega
 obtain ⟨sg,hsg⟩:∃ sg,sg = clsS x.op:=⟨_,rfl⟩
 obtain ⟨k,hk⟩:∃ k,k = lvlN x.op:=⟨_,rfl⟩
 have hsl9:=clsS_len x.op
 have h3:=h2.2
 rw [← hsg] at hcl hsl9
 rw [← hk] at hcl hl6 hlb h3
 have HT:=Lib.hid (HT.out.trans (show _ = tA ++ ⟨#[32]⟩ ++ sg ++ ⟨#[32]⟩ ++ tA' by rw [hsg]))
 have k6:(k == 6) = false:=by rw [beq_eq_false_iff_ne];exact hl6
 have k3:(k == 3) = true:=by rw [beq_iff_eq];exact h3
 have hwk:IntKind.i64.wrap (k + 1) = k + 1:=IntWalk.i64_in _ (by omega)
 have hsz:(tA ++ ⟨#[32]⟩ ++ sg ++ ⟨#[32]⟩ ++ tA').size ≤ 209715300:=by simp only [ByteArray.size_append];omega
 have hs1:(tA ++ ⟨#[32]⟩).size ≤ 209715300:=by simp only [ByteArray.size_append];omega
 have hs2:(tA ++ ⟨#[32]⟩ ++ sg).size ≤ 209715300:=by simp only [ByteArray.size_append];omega
 have hs3:(tA ++ ⟨#[32]⟩ ++ sg ++ ⟨#[32]⟩).size ≤ 209715300:=by simp only [ByteArray.size_append];omega
 clear hx ih hsl i1 i2 i3 i4 i5 hg hsg hk hsg9 htA htA' hma hma' hnm hnm' hpa hpa' hl hl' hxa hxa' p1 p2 p3 p4 hp hN hM h2 hl2 hnx har hl6 hl7 hlb h3
 go_enter Tryz.func29,Tryz.ntmps29
 go_upto_region 14 with (go_at_call 49;refine (hcl _).mono ?_;rintro e w1 ⟨rfl,hb1⟩;obtain ⟨hc1,hf1⟩:=bcell hb1;(try simp only [bqh,bqc,bqf] at hc1 hf1);have hz1:=hb1.size;(try simp at hz1);(try have hy1:=nl1 hz1);(try have hx1:=nl2 hy1);refine szz w1 w ?_;intros)
 refine wp_world ?_;intro W0 hW0
 obtain ⟨u0,hu0⟩:∃ y,y = W0.drew:=⟨_,rfl⟩
 have hB0:Below w.heap.size w u0:=by rw [hu0,hW0];exact bel
 have hS0:u0.cell? ⟨w.heap.size,5,none⟩ = some (.slice (some ⟨g,o9,none⟩) x.args.length c) ∧ u0.cell? ⟨g,o9,none⟩ = some (.int .i64 a.op) ∧ u0.cell? ⟨g,o9 + 1,none⟩ = some (.int .i64 a.v.k) ∧ u0.cell? ⟨g,o9 + 2,none⟩ = some (.int .i64 a.v.n) ∧ u0.cell? ⟨g,o9 + 3,none⟩ = some (.string a.v.s) ∧ u0.cell? ⟨g,o9 + 4,none⟩ = some (.string a.name) ∧ u0.cell? ⟨g,o9 + 5,none⟩ = some (.slice X a.args.length C) ∧ u0.cell? ⟨g,o9 + 6,none⟩ = some (.int .i64 a'.op) ∧ u0.cell? ⟨g,o9 + 6 + 1,none⟩ = some (.int .i64 a'.v.k) ∧ u0.cell? ⟨g,o9 + 6 + 2,none⟩ = some (.int .i64 a'.v.n) ∧ u0.cell? ⟨g,o9 + 6 + 3,none⟩ = some (.string a'.v.s) ∧ u0.cell? ⟨g,o9 + 6 + 4,none⟩ = some (.string a'.name) ∧ u0.cell? ⟨g,o9 + 6 + 5,none⟩ = some (.slice X' a'.args.length C'):=⟨by rw [hu0,hW0];go_simp,cell_keep y0 hB0,cell_keep y1 hB0,cell_keep y2 hB0,cell_keep y3 hB0,cell_keep y4 hB0,cell_keep y5 hB0,cell_keep y0' hB0,cell_keep y1' hB0,cell_keep y2' hB0,cell_keep y3' hB0,cell_keep y4' hB0,cell_keep y5' hB0⟩
 have HSS:=Lib.hid (show ∀ y:World,Below u0.heap.size u0 y → (y.cell? ⟨w.heap.size,5,none⟩ = some (.slice (some ⟨g,o9,none⟩) x.args.length c) ∧ y.cell? ⟨g,o9,none⟩ = some (.int .i64 a.op) ∧ y.cell? ⟨g,o9 + 1,none⟩ = some (.int .i64 a.v.k) ∧ y.cell? ⟨g,o9 + 2,none⟩ = some (.int .i64 a.v.n) ∧ y.cell? ⟨g,o9 + 3,none⟩ = some (.string a.v.s) ∧ y.cell? ⟨g,o9 + 4,none⟩ = some (.string a.name) ∧ y.cell? ⟨g,o9 + 5,none⟩ = some (.slice X a.args.length C) ∧ y.cell? ⟨g,o9 + 6,none⟩ = some (.int .i64 a'.op) ∧ y.cell? ⟨g,o9 + 6 + 1,none⟩ = some (.int .i64 a'.v.k) ∧ y.cell? ⟨g,o9 + 6 + 2,none⟩ = some (.int .i64 a'.v.n) ∧ y.cell? ⟨g,o9 + 6 + 3,none⟩ = some (.string a'.v.s) ∧ y.cell? ⟨g,o9 + 6 + 4,none⟩ = some (.string a'.name) ∧ y.cell? ⟨g,o9 + 6 + 5,none⟩ = some (.slice X' a'.args.length C')) from fun y h => ⟨cell_keep hS0.1 h,cell_keep hS0.2.1 h,cell_keep hS0.2.2.1 h,cell_keep hS0.2.2.2.1 h,cell_keep hS0.2.2.2.2.1 h,cell_keep hS0.2.2.2.2.2.1 h,cell_keep hS0.2.2.2.2.2.2.1 h,cell_keep hS0.2.2.2.2.2.2.2.1 h,cell_keep hS0.2.2.2.2.2.2.2.2.1 h,cell_keep hS0.2.2.2.2.2.2.2.2.2.1 h,cell_keep hS0.2.2.2.2.2.2.2.2.2.2.1 h,cell_keep hS0.2.2.2.2.2.2.2.2.2.2.2.1 h,cell_keep hS0.2.2.2.2.2.2.2.2.2.2.2.2 h⟩)
 refine wp_region_T (fun w' => w'.cell? ⟨w.heap.size,5,none⟩ = some (.slice (some ⟨g,o9,none⟩) x.args.length c) ∧ w'.cell? ⟨g,o9,none⟩ = some (.int .i64 a.op) ∧ w'.cell? ⟨g,o9 + 1,none⟩ = some (.int .i64 a.v.k) ∧ w'.cell? ⟨g,o9 + 2,none⟩ = some (.int .i64 a.v.n) ∧ w'.cell? ⟨g,o9 + 3,none⟩ = some (.string a.v.s) ∧ w'.cell? ⟨g,o9 + 4,none⟩ = some (.string a.name) ∧ w'.cell? ⟨g,o9 + 5,none⟩ = some (.slice X a.args.length C) ∧ w'.cell? ⟨g,o9 + 6,none⟩ = some (.int .i64 a'.op) ∧ w'.cell? ⟨g,o9 + 6 + 1,none⟩ = some (.int .i64 a'.v.k) ∧ w'.cell? ⟨g,o9 + 6 + 2,none⟩ = some (.int .i64 a'.v.n) ∧ w'.cell? ⟨g,o9 + 6 + 3,none⟩ = some (.string a'.v.s) ∧ w'.cell? ⟨g,o9 + 6 + 4,none⟩ = some (.string a'.name) ∧ w'.cell? ⟨g,o9 + 6 + 5,none⟩ = some (.slice X' a'.args.length C')) 15 (by kernel_rfl) ?_
 rw [← hu0]
 clear hu0 hW0 y0 y1 y2 y3 y4 y5 y0' y1' y2' y3' y4' y5'
 refine wpAnyT_take (i:=0) (oi:=_) (v:=?_) rfl (by kernel_rfl) (fun _ _ _ h => h) hS0 (by rfl) ?_ ?_
 rotate_left
 ·intro w' hS';(try dsimp only at hS');(try go_split_ands);go_simp;(try rw [if_neg (by omega)]);try with_reducible rfl
 simp only [Act.put,List.setIfInBounds_toArray,List.set_cons_zero,List.set_cons_succ]
 refine wpAnyT_take (i:=1) (oi:=_) (v:=?_) rfl (by kernel_rfl) (fun _ _ _ h => h) hS0 (by rfl) ?_ ?_
 rotate_left
 ·intro w' hS';(try dsimp only at hS');(try go_split_ands);go_simp;(try rw [if_neg (by omega)]);try with_reducible rfl
 simp only [Act.put,List.setIfInBounds_toArray,List.set_cons_zero,List.set_cons_succ]
 refine wpAnyT_take (i:=2) (oi:=_) (v:=?_) rfl (by kernel_rfl) (fun _ _ _ h => h) hS0 (by rfl) ?_ ?_
 rotate_left
 ·intro w' hS';(try dsimp only at hS');(try go_split_ands);go_simp;(try rw [if_neg (by omega)]);try with_reducible rfl
 simp only [Act.put,List.setIfInBounds_toArray,List.set_cons_zero,List.set_cons_succ]
 refine wpAnyT_take (i:=3) (oi:=_) (v:=?_) rfl (by kernel_rfl) (fun _ _ _ h => h) hS0 (by rfl) ?_ ?_
 rotate_left
 ·intro w' hS';(try dsimp only at hS');(try go_split_ands);go_simp;(try rw [if_neg (by omega)]);try with_reducible rfl
 simp only [Act.put,List.setIfInBounds_toArray,List.set_cons_zero,List.set_cons_succ]
 refine wpAnyT_take (i:=6) (oi:=_) (v:=?_) rfl (by kernel_rfl) (fun _ _ _ h => h) hS0 (by rfl) ?_ ?_
 rotate_left
 ·intro w' hS';(try dsimp only at hS');(try go_split_ands);go_simp;(try rw [if_neg (by omega)]);try with_reducible rfl
 simp only [Act.put,List.setIfInBounds_toArray,List.set_cons_zero,List.set_cons_succ]
 refine wpAnyT_take (i:=9) (oi:=_) (v:=?_) rfl (by kernel_rfl) (fun _ _ _ h => h) hS0 (by rfl) ?_ ?_
 rotate_left
 ·intro w' hS';(try dsimp only at hS');(try go_split_ands);go_simp;(try rw [if_neg (by omega)]);try with_reducible rfl
 simp only [Act.put,List.setIfInBounds_toArray,List.set_cons_zero,List.set_cons_succ]
 refine wpAnyT_take (i:=10) (oi:=_) (v:=?_) rfl (by kernel_rfl) (fun _ _ _ h => h) hS0 (by rfl) ?_ ?_
 rotate_left
 ·intro w' hS';(try dsimp only at hS');(try go_split_ands);go_simp;(try rw [if_neg (by omega)]);try with_reducible rfl
 simp only [Act.put,List.setIfInBounds_toArray,List.set_cons_zero,List.set_cons_succ]
 refine wpAnyT_take (i:=11) (oi:=_) (v:=?_) rfl (by kernel_rfl) (fun _ _ _ h => h) hS0 (by rfl) ?_ ?_
 rotate_left
 ·intro w' hS';(try dsimp only at hS');(try go_split_ands);go_simp;(try rw [if_neg (by omega)]);try with_reducible rfl
 simp only [Act.put,List.setIfInBounds_toArray,List.set_cons_zero,List.set_cons_succ]
 refine wpAnyT_take (i:=12) (oi:=_) (v:=?_) rfl (by kernel_rfl) (fun _ _ _ h => h) hS0 (by rfl) ?_ ?_
 rotate_left
 ·intro w' hS';(try dsimp only at hS');(try go_split_ands);go_simp;(try rw [if_neg (by omega)]);try with_reducible rfl
 simp only [Act.put,List.setIfInBounds_toArray,List.set_cons_zero,List.set_cons_succ]
 refine wpAnyT_one (i:=4) (o:=_) rfl (by kernel_rfl) (fun K hK => ?_)
 go_simp
 (try rw [hwk])
 go_at_call 64;refine (hch _ (HG.out.keep hB0) (HXA.out.keep (old_keep hB0))).mono ?_;rintro e u1 ⟨rfl,hb1⟩
 have hB1:=below_step hB0 hb1 hB0.size
 have hC1:Below u0.heap.size u0 u1:=hb1
 have hS1:=HSS.out u1 hC1
 refine hK.out _ _ (fun _ => hS1) ?_
 clear hK K
 try simp only [Act.put,List.setIfInBounds_toArray,List.set_cons_zero,List.set_cons_succ]
 refine wpAnyT_take (i:=5) (oi:=_) (v:=?_) rfl (by kernel_rfl) (fun _ _ _ h => h) hS1 (by rfl) ?_ ?_
 rotate_left
 ·intro w' hS';(try dsimp only at hS');(try go_split_ands);go_simp;(try rw [if_neg (by omega)]);try with_reducible rfl
 simp only [Act.put,List.setIfInBounds_toArray,List.set_cons_zero,List.set_cons_succ]
 refine wpAnyT_take (i:=7) (oi:=_) (v:=?_) rfl (by kernel_rfl) (fun _ _ _ h => h) hS1 (by rfl) ?_ ?_
 rotate_left
 ·intro w' hS';(try dsimp only at hS');(try go_split_ands);go_simp;(try rw [if_neg (by omega)]);try with_reducible rfl
 simp only [Act.put,List.setIfInBounds_toArray,List.set_cons_zero,List.set_cons_succ]
 refine wpAnyT_take (i:=8) (oi:=_) (v:=?_) rfl (by kernel_rfl) (fun _ _ _ h => h) hS1 (by rfl) ?_ ?_
 rotate_left
 ·intro w' hS';(try dsimp only at hS');(try go_split_ands);go_simp;(try rw [if_neg (by omega)]);try with_reducible rfl
 simp only [Act.put,List.setIfInBounds_toArray,List.set_cons_zero,List.set_cons_succ]
 refine wpAnyT_one (i:=13) (o:=_) rfl (by kernel_rfl) (fun K hK => ?_)
 go_simp
 (try rw [hwk])
 go_at_call 64;refine (hch' _ (HG.out.keep hB1) (HXA'.out.keep (old_keep hB1))).mono ?_;rintro e u2 ⟨rfl,hb2⟩
 have hB2:=below_step hB1 hb2 hB1.size
 have hC2:=below_step hC1 hb2 hC1.size
 have hS2:=HSS.out u2 hC2
 refine hK.out _ _ (fun _ => hS2) ?_
 clear hK K
 try simp only [Act.put,List.setIfInBounds_toArray,List.set_cons_zero,List.set_cons_succ]
 refine wpAnyT_take (i:=14) (oi:=_) (v:=?_) rfl (by kernel_rfl) (fun _ _ _ h => h) hS2 (by rfl) ?_ ?_
 rotate_left
 ·intro w' hS';(try dsimp only at hS');(try go_split_ands);go_simp;(try rw [if_neg (by omega)]);try with_reducible rfl
 simp only [Act.put,List.setIfInBounds_toArray,List.set_cons_zero,List.set_cons_succ]
 refine wpAnyT_one (i:=15) (o:=_) rfl (by kernel_rfl) (fun K hK => ?_)
 go_simp
 refine hK.out _ _ (fun h => absurd h (by decide)) ?_
 clear hK K
 refine wpAnyT_done (by kernel_rfl) ?_ _
 try simp only [Act.put,List.setIfInBounds_toArray,List.set_cons_zero,List.set_cons_succ]
 go_wp2_with fail
 go_ret
 exact ⟨by rw [HT.out];try rfl,hB2⟩
set_option maxRecDepth 100000 in
set_option maxHeartbeats 8000000 in
theorem text_far (x:Exp) (A:Option Addr) (c:Nat) (w:World) (hp:prtN x = 0) (h2:(5 ≤ x.op ∧ x.op ≤ 16) ∧ lvlN x.op ≠ 3) (hg:Gd w) (N:Nat) (hN:x.nodes ≤ N + 1) (hM:x.nodes ≤ 1048576) (ih:TxtN N) (hx:XRep w (old w) [.int .i64 x.op,.int .i64 x.v.k,.int .i64 x.v.n,.string x.v.s,.string x.name,.slice A x.args.length c] x) :
  Calls Tryz.prog 29 #[.agg #[.int .i64 x.op,.int .i64 x.v.k,.int .i64 x.v.n,.string x.v.s,.string x.name,.slice A x.args.length c]] w (RetS w (prX x)):=by
 obtain ⟨p1,p2,p3,p4⟩:=prt_ok hp
 obtain ⟨A0,c0,e0,i1,i2,i3,i4,i5,hsl⟩:=hx.open_
 simp only [List.cons.injEq,Value.slice.injEq,and_true,true_and] at e0
 obtain ⟨rfl,rfl⟩:=e0
 have HSL:=Lib.hid hsl
 have HP4:=Lib.hid p4
 have HG:=Lib.hid hg
 have HI:=Lib.hid ih
 have HNN:=Lib.hid (And.intro hN hM)
 have hcl:=fun w => ref_closeness x.op w p1 p2
 have hnx:x.nodes = nodesL x.args + 1:=by cases x;rfl
 have har:argsN x.op = 2:=by unfold argsN;rw [if_neg (by omega),if_neg (by omega),if_neg (by omega)]
 have hl2:x.args.length = 2:=by omega
 have g1:(x.op == 1) = false:=by simp only [beq_eq_false_iff_ne,ne_eq];omega
 have g2:(x.op == 2) = false:=by simp only [beq_eq_false_iff_ne,ne_eq];omega
 have g17:(x.op == 17) = false:=by simp only [beq_eq_false_iff_ne,ne_eq];omega
 have g18:(x.op == 18) = false:=by simp only [beq_eq_false_iff_ne,ne_eq];omega
 obtain ⟨g,o9,a,X,C,e9,hg9,hl,hxa,y0,y1,y2,y3,y4,y5⟩:=Exp_at HSL.out (k:=0) (by omega)
 have hma:=List.mem_of_getElem? hl
 have hnm:=nodes_mem9 hma
 have hpa:=HP4.out a hma
 have HXA:=Lib.hid hxa
 obtain ⟨g',o9',a',X',C',e9',hg9',hl',hxa',y0',y1',y2',y3',y4',y5'⟩:=Exp_at HSL.out (k:=1) (by omega)
 have hma':=List.mem_of_getElem? hl'
 have hnm':=nodes_mem9 hma'
 have hpa':=HP4.out a' hma'
 have HXA':=Lib.hid hxa'
 rw [e9] at e9'
 cases e9'
 subst e9
 simp only [Nat.zero_mul,Nat.one_mul,Nat.add_zero] at y0 y1 y2 y3 y4 y5 y0' y1' y2' y3' y4' y5'
 have hch:=fun w h h' => ref_bracketed ih a X C (lvlN x.op) w (by omega) (by omega) hpa h h'
 obtain ⟨tA,htA⟩:∃ tA,tA = brk (lvlN x.op) (prT a):=⟨_,rfl⟩
 rw [← htA] at hch
 have hAl:tA.size ≤ 104857602:=by
  rw [htA]
  refine Nat.le_trans (brk_len _ _) ?_
  have:=prX_len a hpa
  show (prX a).size + 2 ≤ _
  omega
 have hch':=fun w h h' => ref_bracketed ih a' X' C' (lvlN x.op + 1) w (by omega) (by omega) hpa' h h'
 obtain ⟨tA',htA'⟩:∃ tA,tA = brk (lvlN x.op + 1) (prT a'):=⟨_,rfl⟩
 rw [← htA'] at hch'
 have hAl':tA'.size ≤ 104857602:=by
  rw [htA']
  refine Nat.le_trans (brk_len _ _) ?_
  have:=prX_len a' hpa'
  show (prX a').size + 2 ≤ _
  omega
 have c32:(⟨#[32]⟩:ByteArray).size = 1:=rfl
 have c41:(⟨#[41]⟩:ByteArray).size = 1:=rfl
 have c44:(⟨#[44,32]⟩:ByteArray).size = 2:=rfl
 have hgl:g < w.heap.size:=hg9
 have hpos:(0:Int) < (x.args.length:Int) ∧ (1:Int) < (x.args.length:Int):=by omega
 obtain ⟨hpos1,hpos2⟩:=hpos
 have hpos':0 < x.args.length:=by omega
 have hpos'':1 < x.args.length:=by omega
 have hlb:=lvl_bd x.op
 have hl7:=lvl_not7 h2.1.1 h2.1.2
 have hsg9:clsS x.op = sgnN x.op:=by unfold clsS;rw [if_neg (by omega),if_pos (by omega)]
 have HT:=Lib.hid (show prX x = tA ++ ⟨#[32]⟩ ++ clsS x.op ++ ⟨#[32]⟩ ++ tA' by
  have h4:=h2.2
  rw [prX_eq,joinT,if_neg (by omega),if_neg (by omega),if_neg (by omega),if_neg (by omega),if_neg (by omega),hsg9,htA,htA']
  unfold tAt
  rw [List.getElem?_map,hl,List.getElem?_map,hl']
  rw [if_neg h4];rfl)
 have hl6:lvlN x.op ≠ 6:=by
  intro h6
  have:x.op = 3 ∨ x.op = 4:=by
   unfold lvlN at h6
   split at h6
   ·cases h6
   split at h6
   ·cases h6
   split at h6
   ·cases h6
   split at h6
   ·cases h6
   split at h6
   ·cases h6
   split at h6
   ·assumption
   ·cases h6
  omega
 obtain ⟨sg,hsg⟩:∃ sg,sg = clsS x.op:=⟨_,rfl⟩
 obtain ⟨k,hk⟩:∃ k,k = lvlN x.op:=⟨_,rfl⟩
 have hsl9:=clsS_len x.op
 have h3:=h2.2
 rw [← hsg] at hcl hsl9
 rw [← hk] at hcl hl6 hlb h3
 rw [← hk] at hch hch'
 have HT:=Lib.hid (HT.out.trans (show _ = tA ++ ⟨#[32]⟩ ++ sg ++ ⟨#[32]⟩ ++ tA' by rw [hsg]))
 have k6:(k == 6) = false:=by rw [beq_eq_false_iff_ne];exact hl6
 have k3:(k == 3) = false:=by rw [beq_eq_false_iff_ne];exact h3
 have hwk:IntKind.i64.wrap (k + 1) = k + 1:=IntWalk.i64_in _ (by omega)
 have hsz:(tA ++ ⟨#[32]⟩ ++ sg ++ ⟨#[32]⟩ ++ tA').size ≤ 209715300:=by simp only [ByteArray.size_append];omega
 have hs1:(tA ++ ⟨#[32]⟩).size ≤ 209715300:=by simp only [ByteArray.size_append];omega
 have hs2:(tA ++ ⟨#[32]⟩ ++ sg).size ≤ 209715300:=by simp only [ByteArray.size_append];omega
 have hs3:(tA ++ ⟨#[32]⟩ ++ sg ++ ⟨#[32]⟩).size ≤ 209715300:=by simp only [ByteArray.size_append];omega
 clear hx ih hsl i1 i2 i3 i4 i5 hg hsg hk hsg9 htA htA' hma hma' hnm hnm' hpa hpa' hl hl' hxa hxa' p1 p2 p3 p4 hp hN hM h2 hl2 hnx har hl6 hl7 hlb h3
 go_enter Tryz.func29,Tryz.ntmps29
 go_upto_region 15 with (go_at_call 49;refine (hcl _).mono ?_;rintro e w1 ⟨rfl,hb1⟩;obtain ⟨hc1,hf1⟩:=bcell hb1;(try simp only [bqh,bqc,bqf] at hc1 hf1);have hz1:=hb1.size;(try simp at hz1);(try have hy1:=nl1 hz1);(try have hx1:=nl2 hy1);refine szz w1 w ?_;intros)
 refine wp_world ?_;intro W0 hW0
 obtain ⟨u0,hu0⟩:∃ y,y = W0.drew:=⟨_,rfl⟩
 have hB0:Below w.heap.size w u0:=by rw [hu0,hW0];exact bel
 have hS0:u0.cell? ⟨w.heap.size,5,none⟩ = some (.slice (some ⟨g,o9,none⟩) x.args.length c) ∧ u0.cell? ⟨g,o9,none⟩ = some (.int .i64 a.op) ∧ u0.cell? ⟨g,o9 + 1,none⟩ = some (.int .i64 a.v.k) ∧ u0.cell? ⟨g,o9 + 2,none⟩ = some (.int .i64 a.v.n) ∧ u0.cell? ⟨g,o9 + 3,none⟩ = some (.string a.v.s) ∧ u0.cell? ⟨g,o9 + 4,none⟩ = some (.string a.name) ∧ u0.cell? ⟨g,o9 + 5,none⟩ = some (.slice X a.args.length C) ∧ u0.cell? ⟨g,o9 + 6,none⟩ = some (.int .i64 a'.op) ∧ u0.cell? ⟨g,o9 + 6 + 1,none⟩ = some (.int .i64 a'.v.k) ∧ u0.cell? ⟨g,o9 + 6 + 2,none⟩ = some (.int .i64 a'.v.n) ∧ u0.cell? ⟨g,o9 + 6 + 3,none⟩ = some (.string a'.v.s) ∧ u0.cell? ⟨g,o9 + 6 + 4,none⟩ = some (.string a'.name) ∧ u0.cell? ⟨g,o9 + 6 + 5,none⟩ = some (.slice X' a'.args.length C'):=⟨by rw [hu0,hW0];go_simp,cell_keep y0 hB0,cell_keep y1 hB0,cell_keep y2 hB0,cell_keep y3 hB0,cell_keep y4 hB0,cell_keep y5 hB0,cell_keep y0' hB0,cell_keep y1' hB0,cell_keep y2' hB0,cell_keep y3' hB0,cell_keep y4' hB0,cell_keep y5' hB0⟩
 have HSS:=Lib.hid (show ∀ y:World,Below u0.heap.size u0 y → (y.cell? ⟨w.heap.size,5,none⟩ = some (.slice (some ⟨g,o9,none⟩) x.args.length c) ∧ y.cell? ⟨g,o9,none⟩ = some (.int .i64 a.op) ∧ y.cell? ⟨g,o9 + 1,none⟩ = some (.int .i64 a.v.k) ∧ y.cell? ⟨g,o9 + 2,none⟩ = some (.int .i64 a.v.n) ∧ y.cell? ⟨g,o9 + 3,none⟩ = some (.string a.v.s) ∧ y.cell? ⟨g,o9 + 4,none⟩ = some (.string a.name) ∧ y.cell? ⟨g,o9 + 5,none⟩ = some (.slice X a.args.length C) ∧ y.cell? ⟨g,o9 + 6,none⟩ = some (.int .i64 a'.op) ∧ y.cell? ⟨g,o9 + 6 + 1,none⟩ = some (.int .i64 a'.v.k) ∧ y.cell? ⟨g,o9 + 6 + 2,none⟩ = some (.int .i64 a'.v.n) ∧ y.cell? ⟨g,o9 + 6 + 3,none⟩ = some (.string a'.v.s) ∧ y.cell? ⟨g,o9 + 6 + 4,none⟩ = some (.string a'.name) ∧ y.cell? ⟨g,o9 + 6 + 5,none⟩ = some (.slice X' a'.args.length C')) from fun y h => ⟨cell_keep hS0.1 h,cell_keep hS0.2.1 h,cell_keep hS0.2.2.1 h,cell_keep hS0.2.2.2.1 h,cell_keep hS0.2.2.2.2.1 h,cell_keep hS0.2.2.2.2.2.1 h,cell_keep hS0.2.2.2.2.2.2.1 h,cell_keep hS0.2.2.2.2.2.2.2.1 h,cell_keep hS0.2.2.2.2.2.2.2.2.1 h,cell_keep hS0.2.2.2.2.2.2.2.2.2.1 h,cell_keep hS0.2.2.2.2.2.2.2.2.2.2.1 h,cell_keep hS0.2.2.2.2.2.2.2.2.2.2.2.1 h,cell_keep hS0.2.2.2.2.2.2.2.2.2.2.2.2 h⟩)
 refine wp_region_T (fun w' => w'.cell? ⟨w.heap.size,5,none⟩ = some (.slice (some ⟨g,o9,none⟩) x.args.length c) ∧ w'.cell? ⟨g,o9,none⟩ = some (.int .i64 a.op) ∧ w'.cell? ⟨g,o9 + 1,none⟩ = some (.int .i64 a.v.k) ∧ w'.cell? ⟨g,o9 + 2,none⟩ = some (.int .i64 a.v.n) ∧ w'.cell? ⟨g,o9 + 3,none⟩ = some (.string a.v.s) ∧ w'.cell? ⟨g,o9 + 4,none⟩ = some (.string a.name) ∧ w'.cell? ⟨g,o9 + 5,none⟩ = some (.slice X a.args.length C) ∧ w'.cell? ⟨g,o9 + 6,none⟩ = some (.int .i64 a'.op) ∧ w'.cell? ⟨g,o9 + 6 + 1,none⟩ = some (.int .i64 a'.v.k) ∧ w'.cell? ⟨g,o9 + 6 + 2,none⟩ = some (.int .i64 a'.v.n) ∧ w'.cell? ⟨g,o9 + 6 + 3,none⟩ = some (.string a'.v.s) ∧ w'.cell? ⟨g,o9 + 6 + 4,none⟩ = some (.string a'.name) ∧ w'.cell? ⟨g,o9 + 6 + 5,none⟩ = some (.slice X' a'.args.length C')) 18 (by kernel_rfl) ?_
 rw [← hu0]
 clear hu0 hW0 y0 y1 y2 y3 y4 y5 y0' y1' y2' y3' y4' y5'
 refine wpAnyT_take (i:=0) (oi:=_) (v:=?_) rfl (by kernel_rfl) (fun _ _ _ h => h) hS0 (by rfl) ?_ ?_
 rotate_left
 ·intro w' hS';(try dsimp only at hS');(try go_split_ands);go_simp;(try rw [if_neg (by omega)]);try with_reducible rfl
 simp only [Act.put,List.setIfInBounds_toArray,List.set_cons_zero,List.set_cons_succ]
 refine wpAnyT_take (i:=1) (oi:=_) (v:=?_) rfl (by kernel_rfl) (fun _ _ _ h => h) hS0 (by rfl) ?_ ?_
 rotate_left
 ·intro w' hS';(try dsimp only at hS');(try go_split_ands);go_simp;(try rw [if_neg (by omega)]);try with_reducible rfl
 simp only [Act.put,List.setIfInBounds_toArray,List.set_cons_zero,List.set_cons_succ]
 refine wpAnyT_take (i:=2) (oi:=_) (v:=?_) rfl (by kernel_rfl) (fun _ _ _ h => h) hS0 (by rfl) ?_ ?_
 rotate_left
 ·intro w' hS';(try dsimp only at hS');(try go_split_ands);go_simp;(try rw [if_neg (by omega)]);try with_reducible rfl
 simp only [Act.put,List.setIfInBounds_toArray,List.set_cons_zero,List.set_cons_succ]
 refine wpAnyT_take (i:=3) (oi:=_) (v:=?_) rfl (by kernel_rfl) (fun _ _ _ h => h) hS0 (by rfl) ?_ ?_
 rotate_left
 ·intro w' hS';(try dsimp only at hS');(try go_split_ands);go_simp;(try rw [if_neg (by omega)]);try with_reducible rfl
 simp only [Act.put,List.setIfInBounds_toArray,List.set_cons_zero,List.set_cons_succ]
 refine wpAnyT_take (i:=4) (oi:=_) (v:=?_) rfl (by kernel_rfl) (fun _ _ _ h => h) hS0 (by rfl) ?_ ?_
 rotate_left
 ·intro w' hS';(try dsimp only at hS');(try go_split_ands);go_simp;(try rw [if_neg (by omega)]);try with_reducible rfl
 simp only [Act.put,List.setIfInBounds_toArray,List.set_cons_zero,List.set_cons_succ]
 refine wpAnyT_take (i:=7) (oi:=_) (v:=?_) rfl (by kernel_rfl) (fun _ _ _ h => h) hS0 (by rfl) ?_ ?_
 rotate_left
 ·intro w' hS';(try dsimp only at hS');(try go_split_ands);go_simp;(try rw [if_neg (by omega)]);try with_reducible rfl
 simp only [Act.put,List.setIfInBounds_toArray,List.set_cons_zero,List.set_cons_succ]
 refine wpAnyT_take (i:=10) (oi:=_) (v:=?_) rfl (by kernel_rfl) (fun _ _ _ h => h) hS0 (by rfl) ?_ ?_
 rotate_left
 ·intro w' hS';(try dsimp only at hS');(try go_split_ands);go_simp;(try rw [if_neg (by omega)]);try with_reducible rfl
 simp only [Act.put,List.setIfInBounds_toArray,List.set_cons_zero,List.set_cons_succ]
 refine wpAnyT_take (i:=11) (oi:=_) (v:=?_) rfl (by kernel_rfl) (fun _ _ _ h => h) hS0 (by rfl) ?_ ?_
 rotate_left
 ·intro w' hS';(try dsimp only at hS');(try go_split_ands);go_simp;(try rw [if_neg (by omega)]);try with_reducible rfl
 simp only [Act.put,List.setIfInBounds_toArray,List.set_cons_zero,List.set_cons_succ]
 refine wpAnyT_take (i:=12) (oi:=_) (v:=?_) rfl (by kernel_rfl) (fun _ _ _ h => h) hS0 (by rfl) ?_ ?_
 rotate_left
 ·intro w' hS';(try dsimp only at hS');(try go_split_ands);go_simp;(try rw [if_neg (by omega)]);try with_reducible rfl
 simp only [Act.put,List.setIfInBounds_toArray,List.set_cons_zero,List.set_cons_succ]
 refine wpAnyT_take (i:=13) (oi:=_) (v:=?_) rfl (by kernel_rfl) (fun _ _ _ h => h) hS0 (by rfl) ?_ ?_
 rotate_left
 ·intro w' hS';(try dsimp only at hS');(try go_split_ands);go_simp;(try rw [if_neg (by omega)]);try with_reducible rfl
 simp only [Act.put,List.setIfInBounds_toArray,List.set_cons_zero,List.set_cons_succ]
 refine wpAnyT_take (i:=14) (oi:=_) (v:=?_) rfl (by kernel_rfl) (fun _ _ _ h => h) hS0 (by rfl) ?_ ?_
 rotate_left
 ·intro w' hS';(try dsimp only at hS');(try go_split_ands);go_simp;(try rw [if_neg (by omega)]);try with_reducible rfl
 simp only [Act.put,List.setIfInBounds_toArray,List.set_cons_zero,List.set_cons_succ]
 refine wpAnyT_take (i:=15) (oi:=_) (v:=?_) rfl (by kernel_rfl) (fun _ _ _ h => h) hS0 (by rfl) ?_ ?_
 rotate_left
 ·intro w' hS';(try dsimp only at hS');(try go_split_ands);go_simp;(try rw [if_neg (by omega)]);try with_reducible rfl
 simp only [Act.put,List.setIfInBounds_toArray,List.set_cons_zero,List.set_cons_succ]
 refine wpAnyT_one (i:=5) (o:=_) rfl (by kernel_rfl) (fun K hK => ?_)
 go_simp
 (try rw [hwk])
 go_at_call 64;refine (hch _ (HG.out.keep hB0) (HXA.out.keep (old_keep hB0))).mono ?_;rintro e u1 ⟨rfl,hb1⟩
 have hB1:=below_step hB0 hb1 hB0.size
 have hC1:Below u0.heap.size u0 u1:=hb1
 have hS1:=HSS.out u1 hC1
 refine hK.out _ _ (fun _ => hS1) ?_
 clear hK K
 try simp only [Act.put,List.setIfInBounds_toArray,List.set_cons_zero,List.set_cons_succ]
 refine wpAnyT_take (i:=6) (oi:=_) (v:=?_) rfl (by kernel_rfl) (fun _ _ _ h => h) hS1 (by rfl) ?_ ?_
 rotate_left
 ·intro w' hS';(try dsimp only at hS');(try go_split_ands);go_simp;(try rw [if_neg (by omega)]);try with_reducible rfl
 simp only [Act.put,List.setIfInBounds_toArray,List.set_cons_zero,List.set_cons_succ]
 refine wpAnyT_take (i:=8) (oi:=_) (v:=?_) rfl (by kernel_rfl) (fun _ _ _ h => h) hS1 (by rfl) ?_ ?_
 rotate_left
 ·intro w' hS';(try dsimp only at hS');(try go_split_ands);go_simp;(try rw [if_neg (by omega)]);try with_reducible rfl
 simp only [Act.put,List.setIfInBounds_toArray,List.set_cons_zero,List.set_cons_succ]
 refine wpAnyT_take (i:=9) (oi:=_) (v:=?_) rfl (by kernel_rfl) (fun _ _ _ h => h) hS1 (by rfl) ?_ ?_
 rotate_left
 ·intro w' hS';(try dsimp only at hS');(try go_split_ands);go_simp;(try rw [if_neg (by omega)]);try with_reducible rfl
 simp only [Act.put,List.setIfInBounds_toArray,List.set_cons_zero,List.set_cons_succ]
 refine wpAnyT_one (i:=16) (o:=_) rfl (by kernel_rfl) (fun K hK => ?_)
 go_simp
 (try rw [hwk])
 go_at_call 64;refine (hch' _ (HG.out.keep hB1) (HXA'.out.keep (old_keep hB1))).mono ?_;rintro e u2 ⟨rfl,hb2⟩
 have hB2:=below_step hB1 hb2 hB1.size
 have hC2:=below_step hC1 hb2 hC1.size
 have hS2:=HSS.out u2 hC2
 refine hK.out _ _ (fun _ => hS2) ?_
 clear hK K
 try simp only [Act.put,List.setIfInBounds_toArray,List.set_cons_zero,List.set_cons_succ]
 refine wpAnyT_take (i:=17) (oi:=_) (v:=?_) rfl (by kernel_rfl) (fun _ _ _ h => h) hS2 (by rfl) ?_ ?_
 rotate_left
 ·intro w' hS';(try dsimp only at hS');(try go_split_ands);go_simp;(try rw [if_neg (by omega)]);try with_reducible rfl
 simp only [Act.put,List.setIfInBounds_toArray,List.set_cons_zero,List.set_cons_succ]
 refine wpAnyT_one (i:=18) (o:=_) rfl (by kernel_rfl) (fun K hK => ?_)
 go_simp
 refine hK.out _ _ (fun h => absurd h (by decide)) ?_
 clear hK K
 refine wpAnyT_done (by kernel_rfl) ?_ _
 try simp only [Act.put,List.setIfInBounds_toArray,List.set_cons_zero,List.set_cons_succ]
 go_wp2_with fail
 go_ret
 exact ⟨by rw [HT.out];try rfl,hB2⟩
set_option maxRecDepth 100000 in
set_option maxHeartbeats 8000000 in
theorem text_if (x:Exp) (A:Option Addr) (c:Nat) (w:World) (hp:prtN x = 0) (h2:x.op = 17) (hg:Gd w) (N:Nat) (hN:x.nodes ≤ N + 1) (hM:x.nodes ≤ 1048576) (ih:TxtN N) (hx:XRep w (old w) [.int .i64 x.op,.int .i64 x.v.k,.int .i64 x.v.n,.string x.v.s,.string x.name,.slice A x.args.length c] x) :
  Calls Tryz.prog 29 #[.agg #[.int .i64 x.op,.int .i64 x.v.k,.int .i64 x.v.n,.string x.v.s,.string x.name,.slice A x.args.length c]] w (RetS w (prX x)):=by
 obtain ⟨p1,p2,p3,p4⟩:=prt_ok hp
 obtain ⟨A0,c0,e0,i1,i2,i3,i4,i5,hsl⟩:=hx.open_
 simp only [List.cons.injEq,Value.slice.injEq,and_true,true_and] at e0
 obtain ⟨rfl,rfl⟩:=e0
 have HSL:=Lib.hid hsl
 have HP4:=Lib.hid p4
 have HG:=Lib.hid hg
 have HI:=Lib.hid ih
 have HNN:=Lib.hid (And.intro hN hM)
 have hcl:=fun w => ref_closeness x.op w p1 p2
 have hnx:x.nodes = nodesL x.args + 1:=by cases x;rfl
 have hl3:x.args.length = 3:=by
  have:argsN x.op = 3:=by rw [h2];decide
  omega
 have g1:(x.op == 1) = false:=by simp only [beq_eq_false_iff_ne,ne_eq];omega
 have g2:(x.op == 2) = false:=by simp only [beq_eq_false_iff_ne,ne_eq];omega
 have g18:(x.op == 18) = false:=by simp only [beq_eq_false_iff_ne,ne_eq];omega
 have g17:(x.op == 17) = true:=by rw [beq_iff_eq];exact h2
 obtain ⟨g,o9,a,X,C,e9,hg9,hl,hxa,y0,y1,y2,y3,y4,y5⟩:=Exp_at HSL.out (k:=0) (by omega)
 have hma:=List.mem_of_getElem? hl
 have hnm:=nodes_mem9 hma
 have hpa:=HP4.out a hma
 have HXA:=Lib.hid hxa
 obtain ⟨g',o9',a',X',C',e9',hg9',hl',hxa',y0',y1',y2',y3',y4',y5'⟩:=Exp_at HSL.out (k:=1) (by omega)
 have hma':=List.mem_of_getElem? hl'
 have hnm':=nodes_mem9 hma'
 have hpa':=HP4.out a' hma'
 have HXA':=Lib.hid hxa'
 obtain ⟨g'',o9'',a'',X'',C'',e9'',hg9'',hl'',hxa'',y0'',y1'',y2'',y3'',y4'',y5''⟩:=Exp_at HSL.out (k:=2) (by omega)
 have hma'':=List.mem_of_getElem? hl''
 have hnm'':=nodes_mem9 hma''
 have hpa'':=HP4.out a'' hma''
 have HXA'':=Lib.hid hxa''
 rw [e9] at e9'
 cases e9'
 rw [e9] at e9''
 cases e9''
 subst e9
 simp only [Nat.zero_mul,Nat.one_mul,Nat.reduceMul,Nat.add_zero] at y0 y1 y2 y3 y4 y5 y0' y1' y2' y3' y4' y5' y0'' y1'' y2'' y3'' y4'' y5''
 have hch:=fun w h h' => ih a X C w (by omega) (by omega) hpa h h'
 obtain ⟨tA,htA⟩:∃ tA,tA = prX a:=⟨_,rfl⟩
 rw [← htA] at hch
 have hAl:tA.size ≤ 104857602:=by
  rw [htA]
  have:=prX_len a hpa
  omega
 have hch':=fun w h h' => ih a' X' C' w (by omega) (by omega) hpa' h h'
 obtain ⟨tA',htA'⟩:∃ tA,tA = prX a':=⟨_,rfl⟩
 rw [← htA'] at hch'
 have hAl':tA'.size ≤ 104857602:=by
  rw [htA']
  have:=prX_len a' hpa'
  omega
 have hch'':=fun w h h' => ih a'' X'' C'' w (by omega) (by omega) hpa'' h h'
 obtain ⟨tA'',htA''⟩:∃ tA,tA = prX a'':=⟨_,rfl⟩
 rw [← htA''] at hch''
 have hAl'':tA''.size ≤ 104857602:=by
  rw [htA'']
  have:=prX_len a'' hpa''
  omega
 have c32:(⟨#[32]⟩:ByteArray).size = 1:=rfl
 have c41:(⟨#[41]⟩:ByteArray).size = 1:=rfl
 have c44:(⟨#[44,32]⟩:ByteArray).size = 2:=rfl
 have hgl:g < w.heap.size:=hg9
 have hpos:(0:Int) < (x.args.length:Int) ∧ (1:Int) < (x.args.length:Int) ∧ (2:Int) < (x.args.length:Int):=by omega
 obtain ⟨hpos1,hpos2,hpos3⟩:=hpos
 have hpos':2 < x.args.length ∧ 1 < x.args.length ∧ 0 < x.args.length:=by omega
 obtain ⟨hpos4,hpos5,hpos6⟩:=hpos'
 have c3:(⟨#[105,102,40]⟩:ByteArray).size = 3:=rfl
 have HT:=Lib.hid (show prX x = ⟨#[105,102,40]⟩ ++ tA ++ ⟨#[44,32]⟩ ++ tA' ++ ⟨#[44,32]⟩ ++ tA'' ++ ⟨#[41]⟩ by
  rw [prX_eq,htA,htA',htA'',h2,joinT,if_neg (by decide),if_neg (by decide),if_pos (by decide)]
  match x.args,hl3,hl,hl',hl'' with
  | [b,b',b''],_,hl,hl',hl'' => cases hl;cases hl';cases hl'';rfl)
 have hsz:(⟨#[105,102,40]⟩ ++ tA ++ ⟨#[44,32]⟩ ++ tA' ++ ⟨#[44,32]⟩ ++ tA'').size ≤ 409715300:=by simp only [ByteArray.size_append];omega
 have hs1:(⟨#[105,102,40]⟩ ++ tA ++ ⟨#[44,32]⟩ ++ tA' ++ ⟨#[44,32]⟩).size ≤ 409715300:=by simp only [ByteArray.size_append];omega
 have hs2:(⟨#[105,102,40]⟩ ++ tA ++ ⟨#[44,32]⟩ ++ tA').size ≤ 409715300:=by simp only [ByteArray.size_append];omega
 have hs3:(⟨#[105,102,40]⟩ ++ tA ++ ⟨#[44,32]⟩).size ≤ 409715300:=by simp only [ByteArray.size_append];omega
 have hs4:(⟨#[105,102,40]⟩ ++ tA).size ≤ 409715300:=by simp only [ByteArray.size_append];omega
 clear hx ih hsl i1 i2 i3 i4 i5 hg htA htA' htA'' hma hma' hma'' hnm hnm' hnm'' hpa hpa' hpa'' hl hl' hl'' hxa hxa' hxa'' p1 p2 p3 p4 hp hN hM h2 hl3 hnx
 go_enter Tryz.func29,Tryz.ntmps29
 go_upto_region 10 with (go_at_call 49;refine (hcl _).mono ?_;rintro e w1 ⟨rfl,hb1⟩;obtain ⟨hc1,hf1⟩:=bcell hb1;(try simp only [bqh,bqc,bqf] at hc1 hf1);have hz1:=hb1.size;(try simp at hz1);(try have hy1:=nl1 hz1);(try have hx1:=nl2 hy1);refine szz w1 w ?_;intros)
 refine wp_world ?_;intro W0 hW0
 obtain ⟨u0,hu0⟩:∃ y,y = W0.drew:=⟨_,rfl⟩
 have hB0:Below w.heap.size w u0:=by rw [hu0,hW0];exact bel
 have hS0:u0.cell? ⟨w.heap.size,5,none⟩ = some (.slice (some ⟨g,o9,none⟩) x.args.length c) ∧ u0.cell? ⟨g,o9,none⟩ = some (.int .i64 a.op) ∧ u0.cell? ⟨g,o9 + 1,none⟩ = some (.int .i64 a.v.k) ∧ u0.cell? ⟨g,o9 + 2,none⟩ = some (.int .i64 a.v.n) ∧ u0.cell? ⟨g,o9 + 3,none⟩ = some (.string a.v.s) ∧ u0.cell? ⟨g,o9 + 4,none⟩ = some (.string a.name) ∧ u0.cell? ⟨g,o9 + 5,none⟩ = some (.slice X a.args.length C) ∧ u0.cell? ⟨g,o9 + 6,none⟩ = some (.int .i64 a'.op) ∧ u0.cell? ⟨g,o9 + 6 + 1,none⟩ = some (.int .i64 a'.v.k) ∧ u0.cell? ⟨g,o9 + 6 + 2,none⟩ = some (.int .i64 a'.v.n) ∧ u0.cell? ⟨g,o9 + 6 + 3,none⟩ = some (.string a'.v.s) ∧ u0.cell? ⟨g,o9 + 6 + 4,none⟩ = some (.string a'.name) ∧ u0.cell? ⟨g,o9 + 6 + 5,none⟩ = some (.slice X' a'.args.length C') ∧ u0.cell? ⟨g,o9 + 12,none⟩ = some (.int .i64 a''.op) ∧ u0.cell? ⟨g,o9 + 12 + 1,none⟩ = some (.int .i64 a''.v.k) ∧ u0.cell? ⟨g,o9 + 12 + 2,none⟩ = some (.int .i64 a''.v.n) ∧ u0.cell? ⟨g,o9 + 12 + 3,none⟩ = some (.string a''.v.s) ∧ u0.cell? ⟨g,o9 + 12 + 4,none⟩ = some (.string a''.name) ∧ u0.cell? ⟨g,o9 + 12 + 5,none⟩ = some (.slice X'' a''.args.length C''):=⟨by rw [hu0,hW0];go_simp,cell_keep y0 hB0,cell_keep y1 hB0,cell_keep y2 hB0,cell_keep y3 hB0,cell_keep y4 hB0,cell_keep y5 hB0,cell_keep y0' hB0,cell_keep y1' hB0,cell_keep y2' hB0,cell_keep y3' hB0,cell_keep y4' hB0,cell_keep y5' hB0,cell_keep y0'' hB0,cell_keep y1'' hB0,cell_keep y2'' hB0,cell_keep y3'' hB0,cell_keep y4'' hB0,cell_keep y5'' hB0⟩
 have HSS:=Lib.hid (show ∀ y:World,Below u0.heap.size u0 y → (y.cell? ⟨w.heap.size,5,none⟩ = some (.slice (some ⟨g,o9,none⟩) x.args.length c) ∧ y.cell? ⟨g,o9,none⟩ = some (.int .i64 a.op) ∧ y.cell? ⟨g,o9 + 1,none⟩ = some (.int .i64 a.v.k) ∧ y.cell? ⟨g,o9 + 2,none⟩ = some (.int .i64 a.v.n) ∧ y.cell? ⟨g,o9 + 3,none⟩ = some (.string a.v.s) ∧ y.cell? ⟨g,o9 + 4,none⟩ = some (.string a.name) ∧ y.cell? ⟨g,o9 + 5,none⟩ = some (.slice X a.args.length C) ∧ y.cell? ⟨g,o9 + 6,none⟩ = some (.int .i64 a'.op) ∧ y.cell? ⟨g,o9 + 6 + 1,none⟩ = some (.int .i64 a'.v.k) ∧ y.cell? ⟨g,o9 + 6 + 2,none⟩ = some (.int .i64 a'.v.n) ∧ y.cell? ⟨g,o9 + 6 + 3,none⟩ = some (.string a'.v.s) ∧ y.cell? ⟨g,o9 + 6 + 4,none⟩ = some (.string a'.name) ∧ y.cell? ⟨g,o9 + 6 + 5,none⟩ = some (.slice X' a'.args.length C') ∧ y.cell? ⟨g,o9 + 12,none⟩ = some (.int .i64 a''.op) ∧ y.cell? ⟨g,o9 + 12 + 1,none⟩ = some (.int .i64 a''.v.k) ∧ y.cell? ⟨g,o9 + 12 + 2,none⟩ = some (.int .i64 a''.v.n) ∧ y.cell? ⟨g,o9 + 12 + 3,none⟩ = some (.string a''.v.s) ∧ y.cell? ⟨g,o9 + 12 + 4,none⟩ = some (.string a''.name) ∧ y.cell? ⟨g,o9 + 12 + 5,none⟩ = some (.slice X'' a''.args.length C'')) from fun y h => ⟨cell_keep hS0.1 h,cell_keep hS0.2.1 h,cell_keep hS0.2.2.1 h,cell_keep hS0.2.2.2.1 h,cell_keep hS0.2.2.2.2.1 h,cell_keep hS0.2.2.2.2.2.1 h,cell_keep hS0.2.2.2.2.2.2.1 h,cell_keep hS0.2.2.2.2.2.2.2.1 h,cell_keep hS0.2.2.2.2.2.2.2.2.1 h,cell_keep hS0.2.2.2.2.2.2.2.2.2.1 h,cell_keep hS0.2.2.2.2.2.2.2.2.2.2.1 h,cell_keep hS0.2.2.2.2.2.2.2.2.2.2.2.1 h,cell_keep hS0.2.2.2.2.2.2.2.2.2.2.2.2.1 h,cell_keep hS0.2.2.2.2.2.2.2.2.2.2.2.2.2.1 h,cell_keep hS0.2.2.2.2.2.2.2.2.2.2.2.2.2.2.1 h,cell_keep hS0.2.2.2.2.2.2.2.2.2.2.2.2.2.2.2.1 h,cell_keep hS0.2.2.2.2.2.2.2.2.2.2.2.2.2.2.2.2.1 h,cell_keep hS0.2.2.2.2.2.2.2.2.2.2.2.2.2.2.2.2.2.1 h,cell_keep hS0.2.2.2.2.2.2.2.2.2.2.2.2.2.2.2.2.2.2 h⟩)
 refine wp_region_T (fun w' => w'.cell? ⟨w.heap.size,5,none⟩ = some (.slice (some ⟨g,o9,none⟩) x.args.length c) ∧ w'.cell? ⟨g,o9,none⟩ = some (.int .i64 a.op) ∧ w'.cell? ⟨g,o9 + 1,none⟩ = some (.int .i64 a.v.k) ∧ w'.cell? ⟨g,o9 + 2,none⟩ = some (.int .i64 a.v.n) ∧ w'.cell? ⟨g,o9 + 3,none⟩ = some (.string a.v.s) ∧ w'.cell? ⟨g,o9 + 4,none⟩ = some (.string a.name) ∧ w'.cell? ⟨g,o9 + 5,none⟩ = some (.slice X a.args.length C) ∧ w'.cell? ⟨g,o9 + 6,none⟩ = some (.int .i64 a'.op) ∧ w'.cell? ⟨g,o9 + 6 + 1,none⟩ = some (.int .i64 a'.v.k) ∧ w'.cell? ⟨g,o9 + 6 + 2,none⟩ = some (.int .i64 a'.v.n) ∧ w'.cell? ⟨g,o9 + 6 + 3,none⟩ = some (.string a'.v.s) ∧ w'.cell? ⟨g,o9 + 6 + 4,none⟩ = some (.string a'.name) ∧ w'.cell? ⟨g,o9 + 6 + 5,none⟩ = some (.slice X' a'.args.length C') ∧ w'.cell? ⟨g,o9 + 12,none⟩ = some (.int .i64 a''.op) ∧ w'.cell? ⟨g,o9 + 12 + 1,none⟩ = some (.int .i64 a''.v.k) ∧ w'.cell? ⟨g,o9 + 12 + 2,none⟩ = some (.int .i64 a''.v.n) ∧ w'.cell? ⟨g,o9 + 12 + 3,none⟩ = some (.string a''.v.s) ∧ w'.cell? ⟨g,o9 + 12 + 4,none⟩ = some (.string a''.name) ∧ w'.cell? ⟨g,o9 + 12 + 5,none⟩ = some (.slice X'' a''.args.length C'')) 21 (by kernel_rfl) ?_
 rw [← hu0]
 clear hu0 hW0 y0 y1 y2 y3 y4 y5 y0' y1' y2' y3' y4' y5' y0'' y1'' y2'' y3'' y4'' y5''
 refine wpAnyT_take (i:=0) (oi:=_) (v:=?_) rfl (by kernel_rfl) (fun _ _ _ h => h) hS0 (by rfl) ?_ ?_
 rotate_left
 ·intro w' hS';(try dsimp only at hS');(try go_split_ands);go_simp;(try rw [if_neg (by omega)]);try with_reducible rfl
 simp only [Act.put,List.setIfInBounds_toArray,List.set_cons_zero,List.set_cons_succ]
 refine wpAnyT_take (i:=1) (oi:=_) (v:=?_) rfl (by kernel_rfl) (fun _ _ _ h => h) hS0 (by rfl) ?_ ?_
 rotate_left
 ·intro w' hS';(try dsimp only at hS');(try go_split_ands);go_simp;(try rw [if_neg (by omega)]);try with_reducible rfl
 simp only [Act.put,List.setIfInBounds_toArray,List.set_cons_zero,List.set_cons_succ]
 refine wpAnyT_take (i:=2) (oi:=_) (v:=?_) rfl (by kernel_rfl) (fun _ _ _ h => h) hS0 (by rfl) ?_ ?_
 rotate_left
 ·intro w' hS';(try dsimp only at hS');(try go_split_ands);go_simp;(try rw [if_neg (by omega)]);try with_reducible rfl
 simp only [Act.put,List.setIfInBounds_toArray,List.set_cons_zero,List.set_cons_succ]
 refine wpAnyT_take (i:=3) (oi:=_) (v:=?_) rfl (by kernel_rfl) (fun _ _ _ h => h) hS0 (by rfl) ?_ ?_
 rotate_left
 ·intro w' hS';(try dsimp only at hS');(try go_split_ands);go_simp;(try rw [if_neg (by omega)]);try with_reducible rfl
 simp only [Act.put,List.setIfInBounds_toArray,List.set_cons_zero,List.set_cons_succ]
 refine wpAnyT_take (i:=7) (oi:=_) (v:=?_) rfl (by kernel_rfl) (fun _ _ _ h => h) hS0 (by rfl) ?_ ?_
 rotate_left
 ·intro w' hS';(try dsimp only at hS');(try go_split_ands);go_simp;(try rw [if_neg (by omega)]);try with_reducible rfl
 simp only [Act.put,List.setIfInBounds_toArray,List.set_cons_zero,List.set_cons_succ]
 refine wpAnyT_take (i:=8) (oi:=_) (v:=?_) rfl (by kernel_rfl) (fun _ _ _ h => h) hS0 (by rfl) ?_ ?_
 rotate_left
 ·intro w' hS';(try dsimp only at hS');(try go_split_ands);go_simp;(try rw [if_neg (by omega)]);try with_reducible rfl
 simp only [Act.put,List.setIfInBounds_toArray,List.set_cons_zero,List.set_cons_succ]
 refine wpAnyT_take (i:=9) (oi:=_) (v:=?_) rfl (by kernel_rfl) (fun _ _ _ h => h) hS0 (by rfl) ?_ ?_
 rotate_left
 ·intro w' hS';(try dsimp only at hS');(try go_split_ands);go_simp;(try rw [if_neg (by omega)]);try with_reducible rfl
 simp only [Act.put,List.setIfInBounds_toArray,List.set_cons_zero,List.set_cons_succ]
 refine wpAnyT_take (i:=10) (oi:=_) (v:=?_) rfl (by kernel_rfl) (fun _ _ _ h => h) hS0 (by rfl) ?_ ?_
 rotate_left
 ·intro w' hS';(try dsimp only at hS');(try go_split_ands);go_simp;(try rw [if_neg (by omega)]);try with_reducible rfl
 simp only [Act.put,List.setIfInBounds_toArray,List.set_cons_zero,List.set_cons_succ]
 refine wpAnyT_take (i:=14) (oi:=_) (v:=?_) rfl (by kernel_rfl) (fun _ _ _ h => h) hS0 (by rfl) ?_ ?_
 rotate_left
 ·intro w' hS';(try dsimp only at hS');(try go_split_ands);go_simp;(try rw [if_neg (by omega)]);try with_reducible rfl
 simp only [Act.put,List.setIfInBounds_toArray,List.set_cons_zero,List.set_cons_succ]
 refine wpAnyT_take (i:=15) (oi:=_) (v:=?_) rfl (by kernel_rfl) (fun _ _ _ h => h) hS0 (by rfl) ?_ ?_
 rotate_left
 ·intro w' hS';(try dsimp only at hS');(try go_split_ands);go_simp;(try rw [if_neg (by omega)]);try with_reducible rfl
 simp only [Act.put,List.setIfInBounds_toArray,List.set_cons_zero,List.set_cons_succ]
 refine wpAnyT_take (i:=16) (oi:=_) (v:=?_) rfl (by kernel_rfl) (fun _ _ _ h => h) hS0 (by rfl) ?_ ?_
 rotate_left
 ·intro w' hS';(try dsimp only at hS');(try go_split_ands);go_simp;(try rw [if_neg (by omega)]);try with_reducible rfl
 simp only [Act.put,List.setIfInBounds_toArray,List.set_cons_zero,List.set_cons_succ]
 refine wpAnyT_take (i:=17) (oi:=_) (v:=?_) rfl (by kernel_rfl) (fun _ _ _ h => h) hS0 (by rfl) ?_ ?_
 rotate_left
 ·intro w' hS';(try dsimp only at hS');(try go_split_ands);go_simp;(try rw [if_neg (by omega)]);try with_reducible rfl
 simp only [Act.put,List.setIfInBounds_toArray,List.set_cons_zero,List.set_cons_succ]
 refine wpAnyT_one (i:=4) (o:=_) rfl (by kernel_rfl) (fun K hK => ?_)
 go_simp
 (try rw [hwk])
 go_at_call 29;refine (hch _ (HG.out.keep hB0) (HXA.out.keep (old_keep hB0))).mono ?_;rintro e u1 ⟨rfl,hb1⟩
 have hB1:=below_step hB0 hb1 hB0.size
 have hC1:Below u0.heap.size u0 u1:=hb1
 have hS1:=HSS.out u1 hC1
 refine hK.out _ _ (fun _ => hS1) ?_
 clear hK K
 try simp only [Act.put,List.setIfInBounds_toArray,List.set_cons_zero,List.set_cons_succ]
 refine wpAnyT_take (i:=5) (oi:=_) (v:=?_) rfl (by kernel_rfl) (fun _ _ _ h => h) hS1 (by rfl) ?_ ?_
 rotate_left
 ·intro w' hS';(try dsimp only at hS');(try go_split_ands);go_simp;(try rw [if_neg (by omega)]);try with_reducible rfl
 simp only [Act.put,List.setIfInBounds_toArray,List.set_cons_zero,List.set_cons_succ]
 refine wpAnyT_take (i:=6) (oi:=_) (v:=?_) rfl (by kernel_rfl) (fun _ _ _ h => h) hS1 (by rfl) ?_ ?_
 rotate_left
 ·intro w' hS';(try dsimp only at hS');(try go_split_ands);go_simp;(try rw [if_neg (by omega)]);try with_reducible rfl
 simp only [Act.put,List.setIfInBounds_toArray,List.set_cons_zero,List.set_cons_succ]
 refine wpAnyT_one (i:=11) (o:=_) rfl (by kernel_rfl) (fun K hK => ?_)
 go_simp
 (try rw [hwk])
 go_at_call 29;refine (hch' _ (HG.out.keep hB1) (HXA'.out.keep (old_keep hB1))).mono ?_;rintro e u2 ⟨rfl,hb2⟩
 have hB2:=below_step hB1 hb2 hB1.size
 have hC2:=below_step hC1 hb2 hC1.size
 have hS2:=HSS.out u2 hC2
 refine hK.out _ _ (fun _ => hS2) ?_
 clear hK K
 try simp only [Act.put,List.setIfInBounds_toArray,List.set_cons_zero,List.set_cons_succ]
 refine wpAnyT_take (i:=12) (oi:=_) (v:=?_) rfl (by kernel_rfl) (fun _ _ _ h => h) hS2 (by rfl) ?_ ?_
 rotate_left
 ·intro w' hS';(try dsimp only at hS');(try go_split_ands);go_simp;(try rw [if_neg (by omega)]);try with_reducible rfl
 simp only [Act.put,List.setIfInBounds_toArray,List.set_cons_zero,List.set_cons_succ]
 refine wpAnyT_take (i:=13) (oi:=_) (v:=?_) rfl (by kernel_rfl) (fun _ _ _ h => h) hS2 (by rfl) ?_ ?_
 rotate_left
 ·intro w' hS';(try dsimp only at hS');(try go_split_ands);go_simp;(try rw [if_neg (by omega)]);try with_reducible rfl
 simp only [Act.put,List.setIfInBounds_toArray,List.set_cons_zero,List.set_cons_succ]
 refine wpAnyT_one (i:=18) (o:=_) rfl (by kernel_rfl) (fun K hK => ?_)
 go_simp
 (try rw [hwk])
 go_at_call 29;refine (hch'' _ (HG.out.keep hB2) (HXA''.out.keep (old_keep hB2))).mono ?_;rintro e u3 ⟨rfl,hb3⟩
 have hB3:=below_step hB2 hb3 hB2.size
 have hC3:=below_step hC2 hb3 hC2.size
 have hS3:=HSS.out u3 hC3
 refine hK.out _ _ (fun _ => hS3) ?_
 clear hK K
 try simp only [Act.put,List.setIfInBounds_toArray,List.set_cons_zero,List.set_cons_succ]
 refine wpAnyT_take (i:=19) (oi:=_) (v:=?_) rfl (by kernel_rfl) (fun _ _ _ h => h) hS3 (by rfl) ?_ ?_
 rotate_left
 ·intro w' hS';(try dsimp only at hS');(try go_split_ands);go_simp;(try rw [if_neg (by omega)]);try with_reducible rfl
 simp only [Act.put,List.setIfInBounds_toArray,List.set_cons_zero,List.set_cons_succ]
 refine wpAnyT_take (i:=20) (oi:=_) (v:=?_) rfl (by kernel_rfl) (fun _ _ _ h => h) hS3 (by rfl) ?_ ?_
 rotate_left
 ·intro w' hS';(try dsimp only at hS');(try go_split_ands);go_simp;(try rw [if_neg (by omega)]);try with_reducible rfl
 simp only [Act.put,List.setIfInBounds_toArray,List.set_cons_zero,List.set_cons_succ]
 refine wpAnyT_one (i:=21) (o:=_) rfl (by kernel_rfl) (fun K hK => ?_)
 go_simp
 refine hK.out _ _ (fun h => absurd h (by decide)) ?_
 clear hK K
 refine wpAnyT_done (by kernel_rfl) ?_ _
 try simp only [Act.put,List.setIfInBounds_toArray,List.set_cons_zero,List.set_cons_succ]
 go_wp2_with fail
 go_ret
 exact ⟨by rw [HT.out];try rfl,hB3⟩
theorem text_N:∀ N,TxtN N
 | 0 => fun x A c w hn _ _ _ _ => absurd hn (by cases x;simp [Exp.nodes])
 | N + 1 => fun x A c w hn hM hp hg hx => by
  have ih:=text_N N
  obtain ⟨p1,p2,_,_⟩:=prt_ok hp
  by_cases h1:x.op = 1
  ·exact text_const x A c w hp h1 hg N hn hM ih hx
  by_cases h2:x.op = 2
  ·exact text_ref x A c w hp h2 hg N hn hM ih hx
  by_cases h3:x.op = 3 ∨ x.op = 4
  ·exact text_one x A c w hp h3 hg N hn hM ih hx
  by_cases h5:x.op = 17
  ·exact text_if x A c w hp h5 hg N hn hM ih hx
  by_cases h6:x.op = 18
  ·exact text_len x A c w hp h6 hg N hn hM ih hx
  by_cases h7:lvlN x.op = 3
  ·exact text_near x A c w hp ⟨by omega,h7⟩ hg N hn hM ih hx
  ·exact text_far x A c w hp ⟨by omega,h7⟩ hg N hn hM ih hx
end Go.Proofs.YtldbpmlgbbomcaaGreatDoor
