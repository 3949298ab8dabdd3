/- expr.printed at two parts. (printed by mkprn.py) -/
import Derived.Test.YtldbpmlgbbomcaaGreatDoorPrn2
namespace Go.Proofs.YtldbpmlgbbomcaaGreatDoor
open Go.RowKit

theorem lvl_bd (op:Int):lvlN op ≤ 7 ∧ 1 ≤ lvlN op:=by
 unfold lvlN
 repeat' split
 all_goals omega
theorem lvl_not7 {op:Int} (h1:5 ≤ op) (h2:op ≤ 16):lvlN op ≠ 7:=by
 unfold lvlN
 repeat' split
 all_goals omega
set_option maxRecDepth 100000 in
set_option maxHeartbeats 4000000 in
theorem printed_near (x:Exp) (A:Option Addr) (c:Nat) (level:Int) (w:World) (hp:prtN x = 0) (h2:5 ≤ x.op ∧ x.op ≤ 16) (h3:lvlN x.op = 3) (hg:Gd w) (N:Nat) (hN:x.nodes ≤ N + 1) (hM:x.nodes ≤ 1048576) (ih:PrnN N) (hx:XRep w (old w) [.int .i64 x.op,.int .i64 x.v.k,.int .i64 x.v.n,.string x.v.s,.string x.name,.slice A x.args.length c] x) :
  Calls Tryz.prog 106 #[.agg #[.int .i64 x.op,.int .i64 x.v.k,.int .i64 x.v.n,.string x.v.s,.string x.name,.slice A x.args.length c],.int .i64 level] w (RetS w (brk level (prT x))):=by
 obtain ⟨p1,p2,p3,p4⟩:=prt_ok hp
 have hix:=shape_at x.op p1 p2
 have har:argsN x.op = 2:=by unfold argsN;rw [if_neg (by omega),if_neg (by omega),if_neg (by omega)]
 have hn1:x.args.length = 2:=by omega
 have hlv:lvlN x.op = 3:=by exact h3
 obtain ⟨A0,c0,e0,i1,i2,i3,i4,i5,hsl⟩:=hx.open_
 simp only [List.cons.injEq,Value.slice.injEq,and_true,true_and] at e0
 obtain ⟨rfl,rfl⟩:=e0
 have HSL:=Lib.hid hsl
 have HP4:=Lib.hid p4
 have HG:=Lib.hid hg
 have H0:=Lib.hid h2
 have HI:=Lib.hid ih
 have hpos:(0:Int) < x.args.length ∧ (1:Int) < x.args.length:=by omega
 have hpos':1 < x.args.length:=by omega
 have hpos0:0 < x.args.length:=by omega
 obtain ⟨hpos1,hpos2⟩:=hpos
 have g1:(x.op == 1) = false:=by simp only [beq_eq_false_iff_ne,ne_eq];omega
 have g2:(x.op == 2) = false:=by simp only [beq_eq_false_iff_ne,ne_eq];omega
 have g3:(x.op == 3) = false:=by simp only [beq_eq_false_iff_ne,ne_eq];omega
 have g4:(x.op == 4) = false:=by simp only [beq_eq_false_iff_ne,ne_eq];omega
 have hlv':(lvlN x.op == 7) = false:=by simp only [beq_eq_false_iff_ne,ne_eq];omega
 have hlv3:(lvlN x.op == 3) = true:=by rw [hlv];rfl
 have eLL:(if lvlN x.op = 3 then 4 else lvlN x.op) = lvlN x.op + 1:=by rw [if_pos hlv,hlv];rfl
 have HLV:=Lib.hid eLL
 have hno:5 ≤ x.op ∧ x.op ≤ 16:=h2
 clear hsl i1 i2 i3 i4 i5 hg ih hlv hn1 har eLL h3
 obtain ⟨k,hk⟩:∃ k,k = lvlN x.op:=⟨_,rfl⟩
 obtain ⟨sg,hsg⟩:∃ sg,sg = sgnN x.op:=⟨_,rfl⟩
 rw [← hk] at hlv' hlv3
 simp only [← hk,← hsg] at hix
 have HKS:=Lib.hid (And.intro hk hsg)
 clear hk hsg
 go_enter Tryz.func106,Tryz.ntmps106
 go_wp2_with fail
 rename_i K hK
 have key:∀ (b:Nat) (W:World),W.cell? ⟨b,0,none⟩ = some (.string sg) → W.cell? ⟨b,1,none⟩ = some (.int .i64 k) → W.cell? ⟨w.heap.size,0,none⟩ = some (.int .i64 x.op) → W.cell? ⟨w.heap.size,1,none⟩ = some (.int .i64 x.v.k) → W.cell? ⟨w.heap.size,2,none⟩ = some (.int .i64 x.v.n) → W.cell? ⟨w.heap.size,3,none⟩ = some (.string x.v.s) → W.cell? ⟨w.heap.size,4,none⟩ = some (.string x.name) → W.cell? ⟨w.heap.size,5,none⟩ = some (.slice A x.args.length c) → Below w.heap.size w W → w.heap.size < b → b < W.heap.size → K { tmps:=#[.agg #[.int .i64 x.op,.int .i64 x.v.k,.int .i64 x.v.n,.string x.v.s,.string x.name,.slice A x.args.length c],.int .i64 level,.pointer (some ⟨w.heap.size,0,none⟩),undef,.string ⟨#[]⟩,.pointer (some ⟨b,0,none⟩),undef,undef,undef,undef,.agg shapesC.toArray,.pointer (some ⟨w.heap.size,0,none⟩),.int .i64 x.op,.agg #[.string sg,.int .i64 k,.int .i64 (argsN x.op)],undef,undef,undef,undef,undef,undef,undef,undef,undef,undef,undef,undef,undef,undef,undef,undef,undef,undef,undef,undef,undef,undef,undef,undef,undef,undef,undef,undef,undef,undef,undef,undef,undef,undef,undef,undef,undef,undef,undef,undef,undef,undef,undef,undef,undef,undef,undef,undef,undef,undef,undef,undef,undef,undef,undef,undef,undef,undef,undef,undef,undef,undef,undef,undef,undef,undef,undef,undef,undef,undef,undef,undef,undef,undef,undef,undef,undef,undef,undef,undef,undef,undef,undef,undef,undef,undef,undef,undef,undef,undef,undef,undef,undef,undef,undef,undef,undef,undef,undef,undef,undef],defers:=[] } W:=by
  intro b W s0 s1 x0 x1 x2 x3 x4 x5 hW hb1 hb2
  apply hK
  clear hK K
  obtain ⟨g,o9,a,X9,C9,e9,hg9,hl9,hx9,y0,y1,y2,y3,y4,y5⟩:=Exp_at (HSL.out.nowN keeps_Exp hW) (k:=0) (by omega)
  obtain ⟨g',o9',a',X8,C8,e9',hg9',hl8,hx8,t0,t1,t2,t3,t4,t5⟩:=Exp_at (HSL.out.nowN keeps_Exp hW) (k:=1) (by omega)
  rw [e9] at e9'
  cases e9'
  subst e9
  have hgl:g < W.heap.size:=hg9
  simp only [Nat.zero_mul,Nat.one_mul,Nat.add_zero] at y0 y1 y2 y3 y4 y5 t0 t1 t2 t3 t4 t5
  have hma:=List.mem_of_getElem? hl9
  have hmb:=List.mem_of_getElem? hl8
  have hnm:=nodes_mem9 hma
  have hnb:=nodes_mem9 hmb
  have hpa:=HP4.out a hma
  have hpb:=HP4.out a' hmb
  obtain ⟨tA,htA⟩:∃ tA,tA = brk (k + 1) (prT a):=⟨_,rfl⟩
  obtain ⟨tB,htB⟩:∃ tB,tB = brk (k + 1) (prT a'):=⟨_,rfl⟩
  have hAl:tA.size ≤ 104857602:=by
   rw [htA]
   refine Nat.le_trans (brk_len _ _) ?_
   have:=prX_len a hpa
   show (prX a).size + 2 ≤ _
   omega
  have hBl:tB.size ≤ 104857602:=by
   rw [htB]
   refine Nat.le_trans (brk_len _ _) ?_
   have:=prX_len a' hpb
   show (prX a').size + 2 ≤ _
   omega
  have hch:=fun w h h' => HI.out a X9 C9 (k + 1) w (by omega) (by omega) hpa h h'
  have hch2:=fun w h h' => HI.out a' X8 C8 (k + 1) w (by omega) (by omega) hpb h h'
  rw [← htA] at hch
  rw [← htB] at hch2
  have htx:prX x = tA ++ ⟨#[32]⟩ ++ sg ++ ⟨#[32]⟩ ++ tB:=by
   have eL:(if lvlN x.op = 3 then 4 else lvlN x.op) = (k + 1):=by rw [HKS.out.1];exact HLV.out
   rw [prX_eq,joinT,if_neg (by omega),if_neg (by omega),if_neg (by omega),if_neg (by omega),if_neg (by omega),eL,← HKS.out.2,← HKS.out.1,htA,htB]
   unfold tAt
   rw [List.getElem?_map,hl9,List.getElem?_map,hl8]
   rfl
  have HK:=Lib.hid (And.intro HKS.out.1 htx)
  have HXA:=Lib.hid (And.intro hx9 hx8)
  have hsgl:sg.size ≤ 3:=by rw [HKS.out.2];exact sgn_len _
  have hk7:k ≤ 7 ∧ 1 ≤ k:=by rw [HKS.out.1];exact lvl_bd _
  clear HKS htx htA htB hx9 hx8 hl9 hl8 hma hmb hnm hnb hpa hpb hx hix hno p1 p2 p3 p4 hp hN hM h2
  obtain ⟨hk8,hk9⟩:=hk7
  have hwk:IntKind.i64.wrap (k + 1) = k + 1:=IntWalk.i64_in _ (by omega)
  have hwb:w.heap.size < W.heap.size:=by omega
  have c32:(⟨#[32]⟩:ByteArray).size = 1:=rfl
  have hsz:(tA ++ ⟨#[32]⟩ ++ sg ++ ⟨#[32]⟩ ++ tB).size ≤ 209715300:=by simp only [ByteArray.size_append];omega
  go_wp2_with fail
  refine wp_world ?_;intro W0 hW0
  have hS0:((W0.drew.cell? ⟨g,o9,none⟩ = some (.int .i64 a.op) ∧ W0.drew.cell? ⟨g,o9 + 1,none⟩ = some (.int .i64 a.v.k) ∧ W0.drew.cell? ⟨g,o9 + 2,none⟩ = some (.int .i64 a.v.n) ∧ W0.drew.cell? ⟨g,o9 + 3,none⟩ = some (.string a.v.s) ∧ W0.drew.cell? ⟨g,o9 + 4,none⟩ = some (.string a.name) ∧ W0.drew.cell? ⟨g,o9 + 5,none⟩ = some (.slice X9 a.args.length C9)) ∧ (W0.drew.cell? ⟨g,(o9 + 6),none⟩ = some (.int .i64 a'.op) ∧ W0.drew.cell? ⟨g,(o9 + 6) + 1,none⟩ = some (.int .i64 a'.v.k) ∧ W0.drew.cell? ⟨g,(o9 + 6) + 2,none⟩ = some (.int .i64 a'.v.n) ∧ W0.drew.cell? ⟨g,(o9 + 6) + 3,none⟩ = some (.string a'.v.s) ∧ W0.drew.cell? ⟨g,(o9 + 6) + 4,none⟩ = some (.string a'.name) ∧ W0.drew.cell? ⟨g,(o9 + 6) + 5,none⟩ = some (.slice X8 a'.args.length C8))) ∧ (W0.drew.cell? ⟨b,0,none⟩ = some (.string sg) ∧ (W0.drew.cell? ⟨b,1,none⟩ = some (.int .i64 k) ∧ W0.drew.cell? ⟨w.heap.size,5,none⟩ = some (.slice (some ⟨g,o9,none⟩) x.args.length c))):=by rw [hW0];exact ⟨⟨⟨by go_simp,by go_simp,by go_simp,by go_simp,by go_simp,by go_simp⟩,⟨by go_simp,by go_simp,by go_simp,by go_simp,by go_simp,by go_simp⟩⟩,⟨by go_simp,by go_simp,by go_simp⟩⟩
  have hB0:Below W.heap.size W W0.drew:=by rw [hW0];exact bel
  have hZ0:W0.heap.size = W.heap.size:=by rw [hW0]
  have hBw:Below w.heap.size w W0.drew:=below_step hW hB0 (by omega)
  clear hW0
  refine wp_region_T (fun w' => ((w'.cell? ⟨g,o9,none⟩ = some (.int .i64 a.op) ∧ w'.cell? ⟨g,o9 + 1,none⟩ = some (.int .i64 a.v.k) ∧ w'.cell? ⟨g,o9 + 2,none⟩ = some (.int .i64 a.v.n) ∧ w'.cell? ⟨g,o9 + 3,none⟩ = some (.string a.v.s) ∧ w'.cell? ⟨g,o9 + 4,none⟩ = some (.string a.name) ∧ w'.cell? ⟨g,o9 + 5,none⟩ = some (.slice X9 a.args.length C9)) ∧ (w'.cell? ⟨g,(o9 + 6),none⟩ = some (.int .i64 a'.op) ∧ w'.cell? ⟨g,(o9 + 6) + 1,none⟩ = some (.int .i64 a'.v.k) ∧ w'.cell? ⟨g,(o9 + 6) + 2,none⟩ = some (.int .i64 a'.v.n) ∧ w'.cell? ⟨g,(o9 + 6) + 3,none⟩ = some (.string a'.v.s) ∧ w'.cell? ⟨g,(o9 + 6) + 4,none⟩ = some (.string a'.name) ∧ w'.cell? ⟨g,(o9 + 6) + 5,none⟩ = some (.slice X8 a'.args.length C8))) ∧ (w'.cell? ⟨b,0,none⟩ = some (.string sg) ∧ (w'.cell? ⟨b,1,none⟩ = some (.int .i64 k) ∧ w'.cell? ⟨w.heap.size,5,none⟩ = some (.slice (some ⟨g,o9,none⟩) x.args.length c)))) 20 (by kernel_rfl) ?_
  refine wpAnyT_take (i:=0) (oi:=_) (v:=?_) rfl (by kernel_rfl) (fun _ _ _ h => h) hS0 (by rfl) ?_ ?_
  rotate_left
  ·intro w' hS';(try dsimp only at hS');(try go_split_ands);go_simp;(try rw [if_neg (by omega)]);try with_reducible rfl
  simp only [Act.put,List.setIfInBounds_toArray,List.set_cons_zero,List.set_cons_succ]
  refine wpAnyT_take (i:=1) (oi:=_) (v:=?_) rfl (by kernel_rfl) (fun _ _ _ h => h) hS0 (by rfl) ?_ ?_
  rotate_left
  ·intro w' hS';(try dsimp only at hS');(try go_split_ands);go_simp;(try rw [if_neg (by omega)]);try with_reducible rfl
  simp only [Act.put,List.setIfInBounds_toArray,List.set_cons_zero,List.set_cons_succ]
  refine wpAnyT_take (i:=2) (oi:=_) (v:=?_) rfl (by kernel_rfl) (fun _ _ _ h => h) hS0 (by rfl) ?_ ?_
  rotate_left
  ·intro w' hS';(try dsimp only at hS');(try go_split_ands);go_simp;(try rw [if_neg (by omega)]);try with_reducible rfl
  simp only [Act.put,List.setIfInBounds_toArray,List.set_cons_zero,List.set_cons_succ]
  refine wpAnyT_take (i:=3) (oi:=_) (v:=?_) rfl (by kernel_rfl) (fun _ _ _ h => h) hS0 (by rfl) ?_ ?_
  rotate_left
  ·intro w' hS';(try dsimp only at hS');(try go_split_ands);go_simp;(try rw [if_neg (by omega)]);try with_reducible rfl
  simp only [Act.put,List.setIfInBounds_toArray,List.set_cons_zero,List.set_cons_succ]
  refine wpAnyT_take (i:=4) (oi:=_) (v:=?_) rfl (by kernel_rfl) (fun _ _ _ h => h) hS0 (by rfl) ?_ ?_
  rotate_left
  ·intro w' hS';(try dsimp only at hS');(try go_split_ands);go_simp;(try rw [if_neg (by omega)]);try with_reducible rfl
  simp only [Act.put,List.setIfInBounds_toArray,List.set_cons_zero,List.set_cons_succ]
  refine wpAnyT_take (i:=7) (oi:=_) (v:=?_) rfl (by kernel_rfl) (fun _ _ _ h => h) hS0 (by rfl) ?_ ?_
  rotate_left
  ·intro w' hS';(try dsimp only at hS');(try go_split_ands);go_simp;(try rw [if_neg (by omega)]);try with_reducible rfl
  simp only [Act.put,List.setIfInBounds_toArray,List.set_cons_zero,List.set_cons_succ]
  refine wpAnyT_take (i:=8) (oi:=_) (v:=?_) rfl (by kernel_rfl) (fun _ _ _ h => h) hS0 (by rfl) ?_ ?_
  rotate_left
  ·intro w' hS';(try dsimp only at hS');(try go_split_ands);go_simp;(try rw [if_neg (by omega)]);try with_reducible rfl
  simp only [Act.put,List.setIfInBounds_toArray,List.set_cons_zero,List.set_cons_succ]
  refine wpAnyT_take (i:=11) (oi:=_) (v:=?_) rfl (by kernel_rfl) (fun _ _ _ h => h) hS0 (by rfl) ?_ ?_
  rotate_left
  ·intro w' hS';(try dsimp only at hS');(try go_split_ands);go_simp;(try rw [if_neg (by omega)]);try with_reducible rfl
  simp only [Act.put,List.setIfInBounds_toArray,List.set_cons_zero,List.set_cons_succ]
  refine wpAnyT_take (i:=12) (oi:=_) (v:=?_) rfl (by kernel_rfl) (fun _ _ _ h => h) hS0 (by rfl) ?_ ?_
  rotate_left
  ·intro w' hS';(try dsimp only at hS');(try go_split_ands);go_simp;(try rw [if_neg (by omega)]);try with_reducible rfl
  simp only [Act.put,List.setIfInBounds_toArray,List.set_cons_zero,List.set_cons_succ]
  refine wpAnyT_take (i:=13) (oi:=_) (v:=?_) rfl (by kernel_rfl) (fun _ _ _ h => h) hS0 (by rfl) ?_ ?_
  rotate_left
  ·intro w' hS';(try dsimp only at hS');(try go_split_ands);go_simp;(try rw [if_neg (by omega)]);try with_reducible rfl
  simp only [Act.put,List.setIfInBounds_toArray,List.set_cons_zero,List.set_cons_succ]
  refine wpAnyT_take (i:=14) (oi:=_) (v:=?_) rfl (by kernel_rfl) (fun _ _ _ h => h) hS0 (by rfl) ?_ ?_
  rotate_left
  ·intro w' hS';(try dsimp only at hS');(try go_split_ands);go_simp;(try rw [if_neg (by omega)]);try with_reducible rfl
  simp only [Act.put,List.setIfInBounds_toArray,List.set_cons_zero,List.set_cons_succ]
  refine wpAnyT_take (i:=15) (oi:=_) (v:=?_) rfl (by kernel_rfl) (fun _ _ _ h => h) hS0 (by rfl) ?_ ?_
  rotate_left
  ·intro w' hS';(try dsimp only at hS');(try go_split_ands);go_simp;(try rw [if_neg (by omega)]);try with_reducible rfl
  simp only [Act.put,List.setIfInBounds_toArray,List.set_cons_zero,List.set_cons_succ]
  refine wpAnyT_take (i:=16) (oi:=_) (v:=?_) rfl (by kernel_rfl) (fun _ _ _ h => h) hS0 (by rfl) ?_ ?_
  rotate_left
  ·intro w' hS';(try dsimp only at hS');(try go_split_ands);go_simp;(try rw [if_neg (by omega)]);try with_reducible rfl
  simp only [Act.put,List.setIfInBounds_toArray,List.set_cons_zero,List.set_cons_succ]
  refine wpAnyT_take (i:=17) (oi:=_) (v:=?_) rfl (by kernel_rfl) (fun _ _ _ h => h) hS0 (by rfl) ?_ ?_
  rotate_left
  ·intro w' hS';(try dsimp only at hS');(try go_split_ands);go_simp;(try rw [if_neg (by omega)]);try with_reducible rfl
  simp only [Act.put,List.setIfInBounds_toArray,List.set_cons_zero,List.set_cons_succ]
  refine wpAnyT_one (i:=5) (o:=_) rfl (by kernel_rfl) (fun K hK => ?_)
  go_simp
  go_at_call 106;refine (hch _ (HG.out.keep hBw) (HXA.out.1.keep (old_keep hB0))).mono ?_;rintro e w3 ⟨rfl,hb3⟩
  have hS3:=And.intro (And.intro (rows6c' hS0.1.1 hb3) (rows6c' hS0.1.2 hb3)) (And.intro (cell_keep hS0.2.1 hb3) (And.intro (cell_keep hS0.2.2.1 hb3) (cell_keep hS0.2.2.2 hb3)))
  have hw3:Below W.heap.size W w3:=below_step hB0 hb3 (by simp [heap_drew];omega)
  have hzz3:W.heap.size ≤ w3.heap.size:=hw3.size
  have hBw3:Below w.heap.size w w3:=below_step hW hw3 (by omega)
  refine hK.out _ _ (fun _ => hS3) ?_
  clear hK K
  try simp only [Act.put,List.setIfInBounds_toArray,List.set_cons_zero,List.set_cons_succ]
  refine wpAnyT_take (i:=6) (oi:=_) (v:=?_) rfl (by kernel_rfl) (fun _ _ _ h => h) hS3 (by rfl) ?_ ?_
  rotate_left
  ·intro w' hS';(try dsimp only at hS');(try go_split_ands);go_simp;(try rw [if_neg (by omega)]);try with_reducible rfl
  simp only [Act.put,List.setIfInBounds_toArray,List.set_cons_zero,List.set_cons_succ]
  refine wpAnyT_take (i:=9) (oi:=_) (v:=?_) rfl (by kernel_rfl) (fun _ _ _ h => h) hS3 (by rfl) ?_ ?_
  rotate_left
  ·intro w' hS';(try dsimp only at hS');(try go_split_ands);go_simp;(try rw [if_neg (by omega)]);try with_reducible rfl
  simp only [Act.put,List.setIfInBounds_toArray,List.set_cons_zero,List.set_cons_succ]
  refine wpAnyT_take (i:=10) (oi:=_) (v:=?_) rfl (by kernel_rfl) (fun _ _ _ h => h) hS3 (by rfl) ?_ ?_
  rotate_left
  ·intro w' hS';(try dsimp only at hS');(try go_split_ands);go_simp;(try rw [if_neg (by omega)]);try with_reducible rfl
  simp only [Act.put,List.setIfInBounds_toArray,List.set_cons_zero,List.set_cons_succ]
  refine wpAnyT_one (i:=18) (o:=_) rfl (by kernel_rfl) (fun K hK => ?_)
  go_simp
  (try rw [hwk])
  go_at_call 106;refine (hch2 _ (HG.out.keep hBw3) (HXA.out.2.keep (old_keep hw3))).mono ?_;rintro e w4 ⟨rfl,hb4⟩
  have hS4:=And.intro (And.intro (rows6c' hS3.1.1 hb4) (rows6c' hS3.1.2 hb4)) (And.intro (cell_keep hS3.2.1 hb4) (And.intro (cell_keep hS3.2.2.1 hb4) (cell_keep hS3.2.2.2 hb4)))
  have hw4:Below W.heap.size W w4:=below_step hw3 hb4 (by omega)
  have hzz4:W.heap.size ≤ w4.heap.size:=hw4.size
  refine hK.out _ _ (fun _ => hS4) ?_
  clear hK K
  try simp only [Act.put,List.setIfInBounds_toArray,List.set_cons_zero,List.set_cons_succ]
  refine wpAnyT_take (i:=19) (oi:=_) (v:=?_) rfl (by kernel_rfl) (fun _ _ _ h => h) hS4 (by rfl) ?_ ?_
  rotate_left
  ·intro w' hS';(try dsimp only at hS');(try go_split_ands);go_simp;(try rw [if_neg (by omega)]);try with_reducible rfl
  simp only [Act.put,List.setIfInBounds_toArray,List.set_cons_zero,List.set_cons_succ]
  refine wpAnyT_one (i:=20) (o:=_) rfl (by kernel_rfl) (fun K hK => ?_)
  go_simp
  refine hK.out _ _ (fun h => absurd h (by decide)) ?_
  clear hK K
  refine wpAnyT_done (by kernel_rfl) ?_ _
  try simp only [Act.put,List.setIfInBounds_toArray,List.set_cons_zero,List.set_cons_succ]
  have q1:w4.cell? ⟨b,1,none⟩ = some (.int .i64 k):=cell_keep s1 hw4
  have hB4:Below w.heap.size w w4:=below_step hW hw4 (by omega)
  clear hch hch2
  by_cases hl:k < level
  ·have hbr:brk level (prT x) = ⟨#[40]⟩ ++ (tA ++ ⟨#[32]⟩ ++ sg ++ ⟨#[32]⟩ ++ tB) ++ ⟨#[41]⟩:=by unfold brk;show (if lvlN x.op < level then ⟨#[40]⟩ ++ prX x ++ ⟨#[41]⟩ else prX x) = _;rw [← HK.out.1,if_pos hl,HK.out.2]
   have HBR:=Lib.hid hbr
   clear hbr
   go_wp2_with fail
   go_ret
   exact ⟨by rw [HBR.out];try rfl,bel⟩
  ·have hbr:brk level (prT x) = tA ++ ⟨#[32]⟩ ++ sg ++ ⟨#[32]⟩ ++ tB:=by unfold brk;show (if lvlN x.op < level then ⟨#[40]⟩ ++ prX x ++ ⟨#[41]⟩ else prX x) = _;rw [← HK.out.1,if_neg hl,HK.out.2]
   have HBR:=Lib.hid hbr
   clear hbr
   go_wp2_with fail
   go_ret
   exact ⟨by rw [HBR.out];try rfl,bel⟩
 go_region_law (first | (go_simp;go_at_call 16;refine (expr_shapes _).mono ?_;rintro e w1 ⟨rfl,hb1⟩;have hw1:Below w.heap.size w w1:=(by refine below_step ?_ hb1 (by simp [heap_drew] <;> omega);exact bel);have hz1:=hb1.size;simp [heap_drew] at hz1;have ho1:w.heap.size < w1.heap.size:=(by omega);have hy7:w.heap.size < w.heap.size + 1:=(by omega);have hy8:w.heap.size < w.heap.size + 1 + 1:=(by omega);have hy9:w.heap.size + 1 < w.heap.size + 1 + 1:=(by omega);obtain ⟨hc1,hf1⟩:=bcell hb1;(try simp only [bqh,bqc,bqf] at hc1 hf1);have hz1:=hb1.size;(try simp at hz1);(try have hy1:=nl1 hz1);(try have hx1:=nl2 hy1);refine szz w1 w ?_;intros))
 all_goals
  refine key _ _ ?_ ?_ ?_ ?_ ?_ ?_ ?_ ?_ ?_ ?_ ?_
 all_goals first | (go_simp;done) | exact bel | (refine below_step hw1 ?_ (by omega);exact bel) | omega | (simp;omega)
set_option maxRecDepth 100000 in
set_option maxHeartbeats 4000000 in
theorem printed_far (x:Exp) (A:Option Addr) (c:Nat) (level:Int) (w:World) (hp:prtN x = 0) (h2:5 ≤ x.op ∧ x.op ≤ 16) (h3:lvlN x.op ≠ 3) (hg:Gd w) (N:Nat) (hN:x.nodes ≤ N + 1) (hM:x.nodes ≤ 1048576) (ih:PrnN N) (hx:XRep w (old w) [.int .i64 x.op,.int .i64 x.v.k,.int .i64 x.v.n,.string x.v.s,.string x.name,.slice A x.args.length c] x) :
  Calls Tryz.prog 106 #[.agg #[.int .i64 x.op,.int .i64 x.v.k,.int .i64 x.v.n,.string x.v.s,.string x.name,.slice A x.args.length c],.int .i64 level] w (RetS w (brk level (prT x))):=by
 obtain ⟨p1,p2,p3,p4⟩:=prt_ok hp
 have hix:=shape_at x.op p1 p2
 have har:argsN x.op = 2:=by unfold argsN;rw [if_neg (by omega),if_neg (by omega),if_neg (by omega)]
 have hn1:x.args.length = 2:=by omega
 have hlv:lvlN x.op ≠ 3 ∧ lvlN x.op ≠ 7:=by exact ⟨h3,lvl_not7 h2.1 h2.2⟩
 obtain ⟨A0,c0,e0,i1,i2,i3,i4,i5,hsl⟩:=hx.open_
 simp only [List.cons.injEq,Value.slice.injEq,and_true,true_and] at e0
 obtain ⟨rfl,rfl⟩:=e0
 have HSL:=Lib.hid hsl
 have HP4:=Lib.hid p4
 have HG:=Lib.hid hg
 have H0:=Lib.hid h2
 have HI:=Lib.hid ih
 have hpos:(0:Int) < x.args.length ∧ (1:Int) < x.args.length:=by omega
 have hpos':1 < x.args.length:=by omega
 have hpos0:0 < x.args.length:=by omega
 obtain ⟨hpos1,hpos2⟩:=hpos
 have g1:(x.op == 1) = false:=by simp only [beq_eq_false_iff_ne,ne_eq];omega
 have g2:(x.op == 2) = false:=by simp only [beq_eq_false_iff_ne,ne_eq];omega
 have g3:(x.op == 3) = false:=by simp only [beq_eq_false_iff_ne,ne_eq];omega
 have g4:(x.op == 4) = false:=by simp only [beq_eq_false_iff_ne,ne_eq];omega
 have hlv':(lvlN x.op == 7) = false:=by simp only [beq_eq_false_iff_ne,ne_eq];omega
 have hlv3:(lvlN x.op == 3) = false:=by simp only [beq_eq_false_iff_ne,ne_eq];omega
 have eLL:(if lvlN x.op = 3 then 4 else lvlN x.op) = lvlN x.op:=by rw [if_neg hlv.1]
 have HLV:=Lib.hid eLL
 have hno:5 ≤ x.op ∧ x.op ≤ 16:=h2
 clear hsl i1 i2 i3 i4 i5 hg ih hlv hn1 har eLL h3
 obtain ⟨k,hk⟩:∃ k,k = lvlN x.op:=⟨_,rfl⟩
 obtain ⟨sg,hsg⟩:∃ sg,sg = sgnN x.op:=⟨_,rfl⟩
 rw [← hk] at hlv' hlv3
 simp only [← hk,← hsg] at hix
 have HKS:=Lib.hid (And.intro hk hsg)
 clear hk hsg
 go_enter Tryz.func106,Tryz.ntmps106
 go_wp2_with fail
 rename_i K hK
 have key:∀ (b:Nat) (W:World),W.cell? ⟨b,0,none⟩ = some (.string sg) → W.cell? ⟨b,1,none⟩ = some (.int .i64 k) → W.cell? ⟨w.heap.size,0,none⟩ = some (.int .i64 x.op) → W.cell? ⟨w.heap.size,1,none⟩ = some (.int .i64 x.v.k) → W.cell? ⟨w.heap.size,2,none⟩ = some (.int .i64 x.v.n) → W.cell? ⟨w.heap.size,3,none⟩ = some (.string x.v.s) → W.cell? ⟨w.heap.size,4,none⟩ = some (.string x.name) → W.cell? ⟨w.heap.size,5,none⟩ = some (.slice A x.args.length c) → Below w.heap.size w W → w.heap.size < b → b < W.heap.size → K { tmps:=#[.agg #[.int .i64 x.op,.int .i64 x.v.k,.int .i64 x.v.n,.string x.v.s,.string x.name,.slice A x.args.length c],.int .i64 level,.pointer (some ⟨w.heap.size,0,none⟩),undef,.string ⟨#[]⟩,.pointer (some ⟨b,0,none⟩),undef,undef,undef,undef,.agg shapesC.toArray,.pointer (some ⟨w.heap.size,0,none⟩),.int .i64 x.op,.agg #[.string sg,.int .i64 k,.int .i64 (argsN x.op)],undef,undef,undef,undef,undef,undef,undef,undef,undef,undef,undef,undef,undef,undef,undef,undef,undef,undef,undef,undef,undef,undef,undef,undef,undef,undef,undef,undef,undef,undef,undef,undef,undef,undef,undef,undef,undef,undef,undef,undef,undef,undef,undef,undef,undef,undef,undef,undef,undef,undef,undef,undef,undef,undef,undef,undef,undef,undef,undef,undef,undef,undef,undef,undef,undef,undef,undef,undef,undef,undef,undef,undef,undef,undef,undef,undef,undef,undef,undef,undef,undef,undef,undef,undef,undef,undef,undef,undef,undef,undef,undef,undef,undef,undef,undef,undef,undef,undef,undef,undef,undef],defers:=[] } W:=by
  intro b W s0 s1 x0 x1 x2 x3 x4 x5 hW hb1 hb2
  apply hK
  clear hK K
  obtain ⟨g,o9,a,X9,C9,e9,hg9,hl9,hx9,y0,y1,y2,y3,y4,y5⟩:=Exp_at (HSL.out.nowN keeps_Exp hW) (k:=0) (by omega)
  obtain ⟨g',o9',a',X8,C8,e9',hg9',hl8,hx8,t0,t1,t2,t3,t4,t5⟩:=Exp_at (HSL.out.nowN keeps_Exp hW) (k:=1) (by omega)
  rw [e9] at e9'
  cases e9'
  subst e9
  have hgl:g < W.heap.size:=hg9
  simp only [Nat.zero_mul,Nat.one_mul,Nat.add_zero] at y0 y1 y2 y3 y4 y5 t0 t1 t2 t3 t4 t5
  have hma:=List.mem_of_getElem? hl9
  have hmb:=List.mem_of_getElem? hl8
  have hnm:=nodes_mem9 hma
  have hnb:=nodes_mem9 hmb
  have hpa:=HP4.out a hma
  have hpb:=HP4.out a' hmb
  obtain ⟨tA,htA⟩:∃ tA,tA = brk k (prT a):=⟨_,rfl⟩
  obtain ⟨tB,htB⟩:∃ tB,tB = brk (k + 1) (prT a'):=⟨_,rfl⟩
  have hAl:tA.size ≤ 104857602:=by
   rw [htA]
   refine Nat.le_trans (brk_len _ _) ?_
   have:=prX_len a hpa
   show (prX a).size + 2 ≤ _
   omega
  have hBl:tB.size ≤ 104857602:=by
   rw [htB]
   refine Nat.le_trans (brk_len _ _) ?_
   have:=prX_len a' hpb
   show (prX a').size + 2 ≤ _
   omega
  have hch:=fun w h h' => HI.out a X9 C9 k w (by omega) (by omega) hpa h h'
  have hch2:=fun w h h' => HI.out a' X8 C8 (k + 1) w (by omega) (by omega) hpb h h'
  rw [← htA] at hch
  rw [← htB] at hch2
  have htx:prX x = tA ++ ⟨#[32]⟩ ++ sg ++ ⟨#[32]⟩ ++ tB:=by
   have eL:(if lvlN x.op = 3 then 4 else lvlN x.op) = k:=by rw [HKS.out.1];exact HLV.out
   rw [prX_eq,joinT,if_neg (by omega),if_neg (by omega),if_neg (by omega),if_neg (by omega),if_neg (by omega),eL,← HKS.out.2,← HKS.out.1,htA,htB]
   unfold tAt
   rw [List.getElem?_map,hl9,List.getElem?_map,hl8]
   rfl
  have HK:=Lib.hid (And.intro HKS.out.1 htx)
  have HXA:=Lib.hid (And.intro hx9 hx8)
  have hsgl:sg.size ≤ 3:=by rw [HKS.out.2];exact sgn_len _
  have hk7:k ≤ 7 ∧ 1 ≤ k:=by rw [HKS.out.1];exact lvl_bd _
  clear HKS htx htA htB hx9 hx8 hl9 hl8 hma hmb hnm hnb hpa hpb hx hix hno p1 p2 p3 p4 hp hN hM h2
  obtain ⟨hk8,hk9⟩:=hk7
  have hwk:IntKind.i64.wrap (k + 1) = k + 1:=IntWalk.i64_in _ (by omega)
  have hwb:w.heap.size < W.heap.size:=by omega
  have c32:(⟨#[32]⟩:ByteArray).size = 1:=rfl
  have hsz:(tA ++ ⟨#[32]⟩ ++ sg ++ ⟨#[32]⟩ ++ tB).size ≤ 209715300:=by simp only [ByteArray.size_append];omega
  go_wp2_with fail
  refine wp_world ?_;intro W0 hW0
  have hS0:((W0.drew.cell? ⟨g,o9,none⟩ = some (.int .i64 a.op) ∧ W0.drew.cell? ⟨g,o9 + 1,none⟩ = some (.int .i64 a.v.k) ∧ W0.drew.cell? ⟨g,o9 + 2,none⟩ = some (.int .i64 a.v.n) ∧ W0.drew.cell? ⟨g,o9 + 3,none⟩ = some (.string a.v.s) ∧ W0.drew.cell? ⟨g,o9 + 4,none⟩ = some (.string a.name) ∧ W0.drew.cell? ⟨g,o9 + 5,none⟩ = some (.slice X9 a.args.length C9)) ∧ (W0.drew.cell? ⟨g,(o9 + 6),none⟩ = some (.int .i64 a'.op) ∧ W0.drew.cell? ⟨g,(o9 + 6) + 1,none⟩ = some (.int .i64 a'.v.k) ∧ W0.drew.cell? ⟨g,(o9 + 6) + 2,none⟩ = some (.int .i64 a'.v.n) ∧ W0.drew.cell? ⟨g,(o9 + 6) + 3,none⟩ = some (.string a'.v.s) ∧ W0.drew.cell? ⟨g,(o9 + 6) + 4,none⟩ = some (.string a'.name) ∧ W0.drew.cell? ⟨g,(o9 + 6) + 5,none⟩ = some (.slice X8 a'.args.length C8))) ∧ (W0.drew.cell? ⟨b,0,none⟩ = some (.string sg) ∧ (W0.drew.cell? ⟨b,1,none⟩ = some (.int .i64 k) ∧ W0.drew.cell? ⟨w.heap.size,5,none⟩ = some (.slice (some ⟨g,o9,none⟩) x.args.length c))):=by rw [hW0];exact ⟨⟨⟨by go_simp,by go_simp,by go_simp,by go_simp,by go_simp,by go_simp⟩,⟨by go_simp,by go_simp,by go_simp,by go_simp,by go_simp,by go_simp⟩⟩,⟨by go_simp,by go_simp,by go_simp⟩⟩
  have hB0:Below W.heap.size W W0.drew:=by rw [hW0];exact bel
  have hZ0:W0.heap.size = W.heap.size:=by rw [hW0]
  have hBw:Below w.heap.size w W0.drew:=below_step hW hB0 (by omega)
  clear hW0
  refine wp_region_T (fun w' => ((w'.cell? ⟨g,o9,none⟩ = some (.int .i64 a.op) ∧ w'.cell? ⟨g,o9 + 1,none⟩ = some (.int .i64 a.v.k) ∧ w'.cell? ⟨g,o9 + 2,none⟩ = some (.int .i64 a.v.n) ∧ w'.cell? ⟨g,o9 + 3,none⟩ = some (.string a.v.s) ∧ w'.cell? ⟨g,o9 + 4,none⟩ = some (.string a.name) ∧ w'.cell? ⟨g,o9 + 5,none⟩ = some (.slice X9 a.args.length C9)) ∧ (w'.cell? ⟨g,(o9 + 6),none⟩ = some (.int .i64 a'.op) ∧ w'.cell? ⟨g,(o9 + 6) + 1,none⟩ = some (.int .i64 a'.v.k) ∧ w'.cell? ⟨g,(o9 + 6) + 2,none⟩ = some (.int .i64 a'.v.n) ∧ w'.cell? ⟨g,(o9 + 6) + 3,none⟩ = some (.string a'.v.s) ∧ w'.cell? ⟨g,(o9 + 6) + 4,none⟩ = some (.string a'.name) ∧ w'.cell? ⟨g,(o9 + 6) + 5,none⟩ = some (.slice X8 a'.args.length C8))) ∧ (w'.cell? ⟨b,0,none⟩ = some (.string sg) ∧ (w'.cell? ⟨b,1,none⟩ = some (.int .i64 k) ∧ w'.cell? ⟨w.heap.size,5,none⟩ = some (.slice (some ⟨g,o9,none⟩) x.args.length c)))) 20 (by kernel_rfl) ?_
  refine wpAnyT_take (i:=0) (oi:=_) (v:=?_) rfl (by kernel_rfl) (fun _ _ _ h => h) hS0 (by rfl) ?_ ?_
  rotate_left
  ·intro w' hS';(try dsimp only at hS');(try go_split_ands);go_simp;(try rw [if_neg (by omega)]);try with_reducible rfl
  simp only [Act.put,List.setIfInBounds_toArray,List.set_cons_zero,List.set_cons_succ]
  refine wpAnyT_take (i:=1) (oi:=_) (v:=?_) rfl (by kernel_rfl) (fun _ _ _ h => h) hS0 (by rfl) ?_ ?_
  rotate_left
  ·intro w' hS';(try dsimp only at hS');(try go_split_ands);go_simp;(try rw [if_neg (by omega)]);try with_reducible rfl
  simp only [Act.put,List.setIfInBounds_toArray,List.set_cons_zero,List.set_cons_succ]
  refine wpAnyT_take (i:=2) (oi:=_) (v:=?_) rfl (by kernel_rfl) (fun _ _ _ h => h) hS0 (by rfl) ?_ ?_
  rotate_left
  ·intro w' hS';(try dsimp only at hS');(try go_split_ands);go_simp;(try rw [if_neg (by omega)]);try with_reducible rfl
  simp only [Act.put,List.setIfInBounds_toArray,List.set_cons_zero,List.set_cons_succ]
  refine wpAnyT_take (i:=3) (oi:=_) (v:=?_) rfl (by kernel_rfl) (fun _ _ _ h => h) hS0 (by rfl) ?_ ?_
  rotate_left
  ·intro w' hS';(try dsimp only at hS');(try go_split_ands);go_simp;(try rw [if_neg (by omega)]);try with_reducible rfl
  simp only [Act.put,List.setIfInBounds_toArray,List.set_cons_zero,List.set_cons_succ]
  refine wpAnyT_take (i:=4) (oi:=_) (v:=?_) rfl (by kernel_rfl) (fun _ _ _ h => h) hS0 (by rfl) ?_ ?_
  rotate_left
  ·intro w' hS';(try dsimp only at hS');(try go_split_ands);go_simp;(try rw [if_neg (by omega)]);try with_reducible rfl
  simp only [Act.put,List.setIfInBounds_toArray,List.set_cons_zero,List.set_cons_succ]
  refine wpAnyT_take (i:=7) (oi:=_) (v:=?_) rfl (by kernel_rfl) (fun _ _ _ h => h) hS0 (by rfl) ?_ ?_
  rotate_left
  ·intro w' hS';(try dsimp only at hS');(try go_split_ands);go_simp;(try rw [if_neg (by omega)]);try with_reducible rfl
  simp only [Act.put,List.setIfInBounds_toArray,List.set_cons_zero,List.set_cons_succ]
  refine wpAnyT_take (i:=8) (oi:=_) (v:=?_) rfl (by kernel_rfl) (fun _ _ _ h => h) hS0 (by rfl) ?_ ?_
  rotate_left
  ·intro w' hS';(try dsimp only at hS');(try go_split_ands);go_simp;(try rw [if_neg (by omega)]);try with_reducible rfl
  simp only [Act.put,List.setIfInBounds_toArray,List.set_cons_zero,List.set_cons_succ]
  refine wpAnyT_take (i:=11) (oi:=_) (v:=?_) rfl (by kernel_rfl) (fun _ _ _ h => h) hS0 (by rfl) ?_ ?_
  rotate_left
  ·intro w' hS';(try dsimp only at hS');(try go_split_ands);go_simp;(try rw [if_neg (by omega)]);try with_reducible rfl
  simp only [Act.put,List.setIfInBounds_toArray,List.set_cons_zero,List.set_cons_succ]
  refine wpAnyT_take (i:=12) (oi:=_) (v:=?_) rfl (by kernel_rfl) (fun _ _ _ h => h) hS0 (by rfl) ?_ ?_
  rotate_left
  ·intro w' hS';(try dsimp only at hS');(try go_split_ands);go_simp;(try rw [if_neg (by omega)]);try with_reducible rfl
  simp only [Act.put,List.setIfInBounds_toArray,List.set_cons_zero,List.set_cons_succ]
  refine wpAnyT_take (i:=13) (oi:=_) (v:=?_) rfl (by kernel_rfl) (fun _ _ _ h => h) hS0 (by rfl) ?_ ?_
  rotate_left
  ·intro w' hS';(try dsimp only at hS');(try go_split_ands);go_simp;(try rw [if_neg (by omega)]);try with_reducible rfl
  simp only [Act.put,List.setIfInBounds_toArray,List.set_cons_zero,List.set_cons_succ]
  refine wpAnyT_take (i:=14) (oi:=_) (v:=?_) rfl (by kernel_rfl) (fun _ _ _ h => h) hS0 (by rfl) ?_ ?_
  rotate_left
  ·intro w' hS';(try dsimp only at hS');(try go_split_ands);go_simp;(try rw [if_neg (by omega)]);try with_reducible rfl
  simp only [Act.put,List.setIfInBounds_toArray,List.set_cons_zero,List.set_cons_succ]
  refine wpAnyT_take (i:=15) (oi:=_) (v:=?_) rfl (by kernel_rfl) (fun _ _ _ h => h) hS0 (by rfl) ?_ ?_
  rotate_left
  ·intro w' hS';(try dsimp only at hS');(try go_split_ands);go_simp;(try rw [if_neg (by omega)]);try with_reducible rfl
  simp only [Act.put,List.setIfInBounds_toArray,List.set_cons_zero,List.set_cons_succ]
  refine wpAnyT_take (i:=16) (oi:=_) (v:=?_) rfl (by kernel_rfl) (fun _ _ _ h => h) hS0 (by rfl) ?_ ?_
  rotate_left
  ·intro w' hS';(try dsimp only at hS');(try go_split_ands);go_simp;(try rw [if_neg (by omega)]);try with_reducible rfl
  simp only [Act.put,List.setIfInBounds_toArray,List.set_cons_zero,List.set_cons_succ]
  refine wpAnyT_take (i:=17) (oi:=_) (v:=?_) rfl (by kernel_rfl) (fun _ _ _ h => h) hS0 (by rfl) ?_ ?_
  rotate_left
  ·intro w' hS';(try dsimp only at hS');(try go_split_ands);go_simp;(try rw [if_neg (by omega)]);try with_reducible rfl
  simp only [Act.put,List.setIfInBounds_toArray,List.set_cons_zero,List.set_cons_succ]
  refine wpAnyT_one (i:=5) (o:=_) rfl (by kernel_rfl) (fun K hK => ?_)
  go_simp
  go_at_call 106;refine (hch _ (HG.out.keep hBw) (HXA.out.1.keep (old_keep hB0))).mono ?_;rintro e w3 ⟨rfl,hb3⟩
  have hS3:=And.intro (And.intro (rows6c' hS0.1.1 hb3) (rows6c' hS0.1.2 hb3)) (And.intro (cell_keep hS0.2.1 hb3) (And.intro (cell_keep hS0.2.2.1 hb3) (cell_keep hS0.2.2.2 hb3)))
  have hw3:Below W.heap.size W w3:=below_step hB0 hb3 (by simp [heap_drew];omega)
  have hzz3:W.heap.size ≤ w3.heap.size:=hw3.size
  have hBw3:Below w.heap.size w w3:=below_step hW hw3 (by omega)
  refine hK.out _ _ (fun _ => hS3) ?_
  clear hK K
  try simp only [Act.put,List.setIfInBounds_toArray,List.set_cons_zero,List.set_cons_succ]
  refine wpAnyT_take (i:=6) (oi:=_) (v:=?_) rfl (by kernel_rfl) (fun _ _ _ h => h) hS3 (by rfl) ?_ ?_
  rotate_left
  ·intro w' hS';(try dsimp only at hS');(try go_split_ands);go_simp;(try rw [if_neg (by omega)]);try with_reducible rfl
  simp only [Act.put,List.setIfInBounds_toArray,List.set_cons_zero,List.set_cons_succ]
  refine wpAnyT_take (i:=9) (oi:=_) (v:=?_) rfl (by kernel_rfl) (fun _ _ _ h => h) hS3 (by rfl) ?_ ?_
  rotate_left
  ·intro w' hS';(try dsimp only at hS');(try go_split_ands);go_simp;(try rw [if_neg (by omega)]);try with_reducible rfl
  simp only [Act.put,List.setIfInBounds_toArray,List.set_cons_zero,List.set_cons_succ]
  refine wpAnyT_take (i:=10) (oi:=_) (v:=?_) rfl (by kernel_rfl) (fun _ _ _ h => h) hS3 (by rfl) ?_ ?_
  rotate_left
  ·intro w' hS';(try dsimp only at hS');(try go_split_ands);go_simp;(try rw [if_neg (by omega)]);try with_reducible rfl
  simp only [Act.put,List.setIfInBounds_toArray,List.set_cons_zero,List.set_cons_succ]
  refine wpAnyT_one (i:=18) (o:=_) rfl (by kernel_rfl) (fun K hK => ?_)
  go_simp
  (try rw [hwk])
  go_at_call 106;refine (hch2 _ (HG.out.keep hBw3) (HXA.out.2.keep (old_keep hw3))).mono ?_;rintro e w4 ⟨rfl,hb4⟩
  have hS4:=And.intro (And.intro (rows6c' hS3.1.1 hb4) (rows6c' hS3.1.2 hb4)) (And.intro (cell_keep hS3.2.1 hb4) (And.intro (cell_keep hS3.2.2.1 hb4) (cell_keep hS3.2.2.2 hb4)))
  have hw4:Below W.heap.size W w4:=below_step hw3 hb4 (by omega)
  have hzz4:W.heap.size ≤ w4.heap.size:=hw4.size
  refine hK.out _ _ (fun _ => hS4) ?_
  clear hK K
  try simp only [Act.put,List.setIfInBounds_toArray,List.set_cons_zero,List.set_cons_succ]
  refine wpAnyT_take (i:=19) (oi:=_) (v:=?_) rfl (by kernel_rfl) (fun _ _ _ h => h) hS4 (by rfl) ?_ ?_
  rotate_left
  ·intro w' hS';(try dsimp only at hS');(try go_split_ands);go_simp;(try rw [if_neg (by omega)]);try with_reducible rfl
  simp only [Act.put,List.setIfInBounds_toArray,List.set_cons_zero,List.set_cons_succ]
  refine wpAnyT_one (i:=20) (o:=_) rfl (by kernel_rfl) (fun K hK => ?_)
  go_simp
  refine hK.out _ _ (fun h => absurd h (by decide)) ?_
  clear hK K
  refine wpAnyT_done (by kernel_rfl) ?_ _
  try simp only [Act.put,List.setIfInBounds_toArray,List.set_cons_zero,List.set_cons_succ]
  have q1:w4.cell? ⟨b,1,none⟩ = some (.int .i64 k):=cell_keep s1 hw4
  have hB4:Below w.heap.size w w4:=below_step hW hw4 (by omega)
  clear hch hch2
  by_cases hl:k < level
  ·have hbr:brk level (prT x) = ⟨#[40]⟩ ++ (tA ++ ⟨#[32]⟩ ++ sg ++ ⟨#[32]⟩ ++ tB) ++ ⟨#[41]⟩:=by unfold brk;show (if lvlN x.op < level then ⟨#[40]⟩ ++ prX x ++ ⟨#[41]⟩ else prX x) = _;rw [← HK.out.1,if_pos hl,HK.out.2]
   have HBR:=Lib.hid hbr
   clear hbr
   go_wp2_with fail
   go_ret
   exact ⟨by rw [HBR.out];try rfl,bel⟩
  ·have hbr:brk level (prT x) = tA ++ ⟨#[32]⟩ ++ sg ++ ⟨#[32]⟩ ++ tB:=by unfold brk;show (if lvlN x.op < level then ⟨#[40]⟩ ++ prX x ++ ⟨#[41]⟩ else prX x) = _;rw [← HK.out.1,if_neg hl,HK.out.2]
   have HBR:=Lib.hid hbr
   clear hbr
   go_wp2_with fail
   go_ret
   exact ⟨by rw [HBR.out];try rfl,bel⟩
 go_region_law (first | (go_simp;go_at_call 16;refine (expr_shapes _).mono ?_;rintro e w1 ⟨rfl,hb1⟩;have hw1:Below w.heap.size w w1:=(by refine below_step ?_ hb1 (by simp [heap_drew] <;> omega);exact bel);have hz1:=hb1.size;simp [heap_drew] at hz1;have ho1:w.heap.size < w1.heap.size:=(by omega);have hy7:w.heap.size < w.heap.size + 1:=(by omega);have hy8:w.heap.size < w.heap.size + 1 + 1:=(by omega);have hy9:w.heap.size + 1 < w.heap.size + 1 + 1:=(by omega);obtain ⟨hc1,hf1⟩:=bcell hb1;(try simp only [bqh,bqc,bqf] at hc1 hf1);have hz1:=hb1.size;(try simp at hz1);(try have hy1:=nl1 hz1);(try have hx1:=nl2 hy1);refine szz w1 w ?_;intros))
 all_goals
  refine key _ _ ?_ ?_ ?_ ?_ ?_ ?_ ?_ ?_ ?_ ?_ ?_
 all_goals first | (go_simp;done) | exact bel | (refine below_step hw1 ?_ (by omega);exact bel) | omega | (simp;omega)
end Go.Proofs.YtldbpmlgbbomcaaGreatDoor
