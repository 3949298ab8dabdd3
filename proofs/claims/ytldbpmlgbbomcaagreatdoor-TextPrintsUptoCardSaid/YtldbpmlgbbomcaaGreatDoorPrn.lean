/- expr.printed and expr.Print. (printed by mkprn.py) -/
import Derived.Test.YtldbpmlgbbomcaaGreatDoorPrnP
import Derived.Test.YtldbpmlgbbomcaaGreatDoorPrt3
import Derived.Test.YtldbpmlgbbomcaaGreatDoorTypes
namespace Go.Proofs.YtldbpmlgbbomcaaGreatDoor
open Go.RowKit

theorem nodes_mem9 {x a:Exp} (h:a ∈ x.args):a.nodes + 1 ≤ x.nodes:=by
 obtain ⟨i,hi,he⟩:=List.mem_iff_getElem.1 h
 have:=nodes_at x.args i a (by rw [List.getElem?_eq_getElem hi,he])
 have hnx:x.nodes = nodesL x.args + 1:=by cases x;rfl
 omega
theorem rows6c' {w w1:World} {b o:Nat} {v0 v1 v2 v3 v4 v5:Value} (h:w.cell? ⟨b,o,none⟩ = some v0 ∧ w.cell? ⟨b,o + 1,none⟩ = some v1 ∧ w.cell? ⟨b,o + 2,none⟩ = some v2 ∧ w.cell? ⟨b,o + 3,none⟩ = some v3 ∧ w.cell? ⟨b,o + 4,none⟩ = some v4 ∧ w.cell? ⟨b,o + 5,none⟩ = some v5) (hb:Below w.heap.size w w1) :
  w1.cell? ⟨b,o,none⟩ = some v0 ∧ w1.cell? ⟨b,o + 1,none⟩ = some v1 ∧ w1.cell? ⟨b,o + 2,none⟩ = some v2 ∧ w1.cell? ⟨b,o + 3,none⟩ = some v3 ∧ w1.cell? ⟨b,o + 4,none⟩ = some v4 ∧ w1.cell? ⟨b,o + 5,none⟩ = some v5 :=
 ⟨cell_keep h.1 hb,cell_keep h.2.1 hb,cell_keep h.2.2.1 hb,cell_keep h.2.2.2.1 hb,cell_keep h.2.2.2.2.1 hb,cell_keep h.2.2.2.2.2 hb⟩
def RetS (w:World) (s:ByteArray) (e:Ending) (w':World):Prop:=e = .returned (.string s) ∧ Below w.heap.size w w'
set_option maxRecDepth 100000 in
set_option maxHeartbeats 4000000 in
theorem printed_ref (x:Exp) (A:Option Addr) (c:Nat) (level:Int) (w:World) (hp:prtN x = 0) (h2:x.op = 2) (_hx:XRep w (old w) [.int .i64 x.op,.int .i64 x.v.k,.int .i64 x.v.n,.string x.v.s,.string x.name,.slice A x.args.length c] x) :
  Calls Tryz.prog 106 #[.agg #[.int .i64 x.op,.int .i64 x.v.k,.int .i64 x.v.n,.string x.v.s,.string x.name,.slice A x.args.length c],.int .i64 level] w (RetS w (brk level (prT x))):=by
 obtain ⟨p1,p2,p3,p4⟩:=prt_ok hp
 have hix:=shape_at x.op p1 p2
 have hnm:=part_name hp h2
 have g1:(x.op == 1) = false:=by rw [h2];rfl
 have g2:(x.op == 2) = true:=by rw [h2];rfl
 have htx:prX x = x.name:=by rw [prX_eq,joinT,if_neg (by omega),if_pos h2]
 clear h2
 obtain ⟨k,hk⟩:∃ k,k = lvlN x.op:=⟨_,rfl⟩
 obtain ⟨sg,hsg⟩:∃ sg,sg = sgnN x.op:=⟨_,rfl⟩
 simp only [← hk,← hsg] at hix
 have HKS:=Lib.hid (And.intro hk hsg)
 clear hk hsg
 go_enter Tryz.func106,Tryz.ntmps106
 go_wp2_with fail
 rename_i K hK
 have key:∀ (b:Nat) (W:World),W.cell? ⟨b,0,none⟩ = some (.string sg) → W.cell? ⟨b,1,none⟩ = some (.int .i64 k) → W.cell? ⟨w.heap.size,0,none⟩ = some (.int .i64 x.op) → W.cell? ⟨w.heap.size,1,none⟩ = some (.int .i64 x.v.k) → W.cell? ⟨w.heap.size,2,none⟩ = some (.int .i64 x.v.n) → W.cell? ⟨w.heap.size,3,none⟩ = some (.string x.v.s) → W.cell? ⟨w.heap.size,4,none⟩ = some (.string x.name) → W.cell? ⟨w.heap.size,5,none⟩ = some (.slice A x.args.length c) → Below w.heap.size w W → w.heap.size < b → b < W.heap.size → K { tmps:=#[.agg #[.int .i64 x.op,.int .i64 x.v.k,.int .i64 x.v.n,.string x.v.s,.string x.name,.slice A x.args.length c],.int .i64 level,.pointer (some ⟨w.heap.size,0,none⟩),undef,.string ⟨#[]⟩,.pointer (some ⟨b,0,none⟩),undef,undef,undef,undef,.agg shapesC.toArray,.pointer (some ⟨w.heap.size,0,none⟩),.int .i64 x.op,.agg #[.string sg,.int .i64 k,.int .i64 (argsN x.op)],undef,undef,undef,undef,undef,undef,undef,undef,undef,undef,undef,undef,undef,undef,undef,undef,undef,undef,undef,undef,undef,undef,undef,undef,undef,undef,undef,undef,undef,undef,undef,undef,undef,undef,undef,undef,undef,undef,undef,undef,undef,undef,undef,undef,undef,undef,undef,undef,undef,undef,undef,undef,undef,undef,undef,undef,undef,undef,undef,undef,undef,undef,undef,undef,undef,undef,undef,undef,undef,undef,undef,undef,undef,undef,undef,undef,undef,undef,undef,undef,undef,undef,undef,undef,undef,undef,undef,undef,undef,undef,undef,undef,undef,undef,undef,undef,undef,undef,undef,undef,undef],defers:=[] } W:=by
  intro b W s0 s1 x0 x1 x2 x3 x4 x5 hW hb1 hb2
  apply hK
  clear hK K
  obtain ⟨tx,htx2⟩:∃ tx,tx = x.name:=⟨_,rfl⟩
  rw [← htx2] at x4 hnm htx
  have HK:=Lib.hid (And.intro HKS.out.1 htx)
  clear HKS htx htx2 p1 p2 p3 p4 hp _hx hix
  by_cases hl:k < level
  ·have hbr:brk level (prT x) = ⟨#[40]⟩ ++ tx ++ ⟨#[41]⟩:=by unfold brk;show (if lvlN x.op < level then ⟨#[40]⟩ ++ prX x ++ ⟨#[41]⟩ else prX x) = _;rw [← HK.out.1,if_pos hl,HK.out.2]
   have HBR:=Lib.hid hbr
   clear hbr
   go_wp2_with fail
   go_ret
   exact ⟨by rw [HBR.out];try rfl,bel⟩
  ·have hbr:brk level (prT x) = tx:=by unfold brk;show (if lvlN x.op < level then ⟨#[40]⟩ ++ prX x ++ ⟨#[41]⟩ else prX x) = _;rw [← HK.out.1,if_neg hl,HK.out.2]
   have HBR:=Lib.hid hbr
   clear hbr
   go_wp2_with fail
   go_ret
   exact ⟨by rw [HBR.out];try rfl,bel⟩
 go_region_law (first | (go_simp;go_at_call 16;refine (expr_shapes _).mono ?_;rintro e w1 ⟨rfl,hb1⟩;have hw1:Below w.heap.size w w1:=(by refine below_step ?_ hb1 (by simp [heap_drew] <;> omega);exact bel);have hz1:=hb1.size;simp [heap_drew] at hz1;have ho1:w.heap.size < w1.heap.size:=(by omega);have hy7:w.heap.size < w.heap.size + 1:=(by omega);have hy8:w.heap.size < w.heap.size + 1 + 1:=(by omega);have hy9:w.heap.size + 1 < w.heap.size + 1 + 1:=(by omega);obtain ⟨hc1,hf1⟩:=bcell hb1;(try simp only [bqh,bqc,bqf] at hc1 hf1);have hz1:=hb1.size;(try simp at hz1);(try have hy1:=nl1 hz1);(try have hx1:=nl2 hy1);refine szz w1 w ?_;intros))
 all_goals
  refine key _ _ ?_ ?_ ?_ ?_ ?_ ?_ ?_ ?_ ?_ ?_ ?_
 all_goals first | (go_simp;done) | exact bel | (refine below_step hw1 ?_ (by omega);exact bel) | omega | (simp;omega)
set_option maxRecDepth 100000 in
set_option maxHeartbeats 4000000 in
theorem printed_const (x:Exp) (A:Option Addr) (c:Nat) (level:Int) (w:World) (hp:prtN x = 0) (h2:x.op = 1) (hg:Gd w) (_hx:XRep w (old w) [.int .i64 x.op,.int .i64 x.v.k,.int .i64 x.v.n,.string x.v.s,.string x.name,.slice A x.args.length c] x) :
  Calls Tryz.prog 106 #[.agg #[.int .i64 x.op,.int .i64 x.v.k,.int .i64 x.v.n,.string x.v.s,.string x.name,.slice A x.args.length c],.int .i64 level] w (RetS w (brk level (prT x))):=by
 obtain ⟨p1,p2,p3,p4⟩:=prt_ok hp
 have hix:=shape_at x.op p1 p2
 have hck:=((valKnown_iff' _).1 (part_v hp h2)).1
 have hwf:=val_wf9 hck
 have hsh:=fun w h => value_Show x.v w hwf h
 have hln:=showV_len hwf
 have g1:(x.op == 1) = true:=by rw [h2];rfl
 have htx:prX x = showV x.v:=by rw [prX_eq,joinT,if_pos h2]
 have HG:=Lib.hid hg
 clear h2
 obtain ⟨k,hk⟩:∃ k,k = lvlN x.op:=⟨_,rfl⟩
 obtain ⟨sg,hsg⟩:∃ sg,sg = sgnN x.op:=⟨_,rfl⟩
 simp only [← hk,← hsg] at hix
 have HKS:=Lib.hid (And.intro hk hsg)
 clear hk hsg
 go_enter Tryz.func106,Tryz.ntmps106
 go_wp2_with fail
 rename_i K hK
 have key:∀ (b:Nat) (W:World),W.cell? ⟨b,0,none⟩ = some (.string sg) → W.cell? ⟨b,1,none⟩ = some (.int .i64 k) → W.cell? ⟨w.heap.size,0,none⟩ = some (.int .i64 x.op) → W.cell? ⟨w.heap.size,1,none⟩ = some (.int .i64 x.v.k) → W.cell? ⟨w.heap.size,2,none⟩ = some (.int .i64 x.v.n) → W.cell? ⟨w.heap.size,3,none⟩ = some (.string x.v.s) → W.cell? ⟨w.heap.size,4,none⟩ = some (.string x.name) → W.cell? ⟨w.heap.size,5,none⟩ = some (.slice A x.args.length c) → Below w.heap.size w W → w.heap.size < b → b < W.heap.size → K { tmps:=#[.agg #[.int .i64 x.op,.int .i64 x.v.k,.int .i64 x.v.n,.string x.v.s,.string x.name,.slice A x.args.length c],.int .i64 level,.pointer (some ⟨w.heap.size,0,none⟩),undef,.string ⟨#[]⟩,.pointer (some ⟨b,0,none⟩),undef,undef,undef,undef,.agg shapesC.toArray,.pointer (some ⟨w.heap.size,0,none⟩),.int .i64 x.op,.agg #[.string sg,.int .i64 k,.int .i64 (argsN x.op)],undef,undef,undef,undef,undef,undef,undef,undef,undef,undef,undef,undef,undef,undef,undef,undef,undef,undef,undef,undef,undef,undef,undef,undef,undef,undef,undef,undef,undef,undef,undef,undef,undef,undef,undef,undef,undef,undef,undef,undef,undef,undef,undef,undef,undef,undef,undef,undef,undef,undef,undef,undef,undef,undef,undef,undef,undef,undef,undef,undef,undef,undef,undef,undef,undef,undef,undef,undef,undef,undef,undef,undef,undef,undef,undef,undef,undef,undef,undef,undef,undef,undef,undef,undef,undef,undef,undef,undef,undef,undef,undef,undef,undef,undef,undef,undef,undef,undef,undef,undef,undef],defers:=[] } W:=by
  intro b W s0 s1 x0 x1 x2 x3 x4 x5 hW hb1 hb2
  apply hK
  clear hK K
  obtain ⟨tx,htx2⟩:∃ tx,tx = showV x.v:=⟨_,rfl⟩
  rw [← htx2] at hln htx
  simp only [← htx2] at hsh
  have HK:=Lib.hid (And.intro HKS.out.1 htx)
  clear HKS htx htx2 p1 p2 p3 p4 hp _hx hix hck hwf hg
  have hwb:w.heap.size < W.heap.size:=by omega
  by_cases hl:k < level
  ·have hbr:brk level (prT x) = ⟨#[40]⟩ ++ tx ++ ⟨#[41]⟩:=by unfold brk;show (if lvlN x.op < level then ⟨#[40]⟩ ++ prX x ++ ⟨#[41]⟩ else prX x) = _;rw [← HK.out.1,if_pos hl,HK.out.2]
   have HBR:=Lib.hid hbr
   clear hbr
   go_wp2_with (go_at_call 147;refine (hsh _ (HG.out.keep bel)).mono ?_;clear hsh;rintro e w3 ⟨rfl,hb3⟩;obtain ⟨hc3,hf3⟩:=bcell hb3;(try simp only [bqh,bqc,bqf] at hc3 hf3);have hz3:=hb3.size;(try simp at hz3);(try have hy3:=nl1 hz3);(try have hx3:=nl2 hy3);refine szz w3 w ?_;intros;refine szz w3 W ?_;intros)
   go_ret
   exact ⟨by rw [HBR.out];try rfl,bel⟩
  ·have hbr:brk level (prT x) = tx:=by unfold brk;show (if lvlN x.op < level then ⟨#[40]⟩ ++ prX x ++ ⟨#[41]⟩ else prX x) = _;rw [← HK.out.1,if_neg hl,HK.out.2]
   have HBR:=Lib.hid hbr
   clear hbr
   go_wp2_with (go_at_call 147;refine (hsh _ (HG.out.keep bel)).mono ?_;clear hsh;rintro e w3 ⟨rfl,hb3⟩;obtain ⟨hc3,hf3⟩:=bcell hb3;(try simp only [bqh,bqc,bqf] at hc3 hf3);have hz3:=hb3.size;(try simp at hz3);(try have hy3:=nl1 hz3);(try have hx3:=nl2 hy3);refine szz w3 w ?_;intros;refine szz w3 W ?_;intros)
   go_ret
   exact ⟨by rw [HBR.out];try rfl,bel⟩
 go_region_law (first | (go_simp;go_at_call 16;refine (expr_shapes _).mono ?_;rintro e w1 ⟨rfl,hb1⟩;have hw1:Below w.heap.size w w1:=(by refine below_step ?_ hb1 (by simp [heap_drew] <;> omega);exact bel);have hz1:=hb1.size;simp [heap_drew] at hz1;have ho1:w.heap.size < w1.heap.size:=(by omega);have hy7:w.heap.size < w.heap.size + 1:=(by omega);have hy8:w.heap.size < w.heap.size + 1 + 1:=(by omega);have hy9:w.heap.size + 1 < w.heap.size + 1 + 1:=(by omega);obtain ⟨hc1,hf1⟩:=bcell hb1;(try simp only [bqh,bqc,bqf] at hc1 hf1);have hz1:=hb1.size;(try simp at hz1);(try have hy1:=nl1 hz1);(try have hx1:=nl2 hy1);refine szz w1 w ?_;intros))
 all_goals
  refine key _ _ ?_ ?_ ?_ ?_ ?_ ?_ ?_ ?_ ?_ ?_ ?_
 all_goals first | (go_simp;done) | exact bel | (refine below_step hw1 ?_ (by omega);exact bel) | omega | (simp;omega)
def PrnN (N:Nat):Prop:=∀ (x:Exp) (A:Option Addr) (c:Nat) (level:Int) (w:World),x.nodes ≤ N → x.nodes ≤ 1048576 → prtN x = 0 → Gd w → XRep w (old w) [.int .i64 x.op,.int .i64 x.v.k,.int .i64 x.v.n,.string x.v.s,.string x.name,.slice A x.args.length c] x →
 Calls Tryz.prog 106 #[.agg #[.int .i64 x.op,.int .i64 x.v.k,.int .i64 x.v.n,.string x.v.s,.string x.name,.slice A x.args.length c],.int .i64 level] w (RetS w (brk level (prT x)))
end Go.Proofs.YtldbpmlgbbomcaaGreatDoor
