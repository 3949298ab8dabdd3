/- expr.Parse: what a text is read as. -/
import Derived.Test.YtldbpmlgbbomcaaGreatDoorRd7
import Derived.Test.YtldbpmlgbbomcaaGreatDoorPrt4
import Derived.Defers
import Derived.Recover
import Derived.Laws.Pointers
namespace Go.Proofs.YtldbpmlgbbomcaaGreatDoor
open Go.RowKit

set_option maxRecDepth 100000 in
set_option maxHeartbeats 1000000 in
theorem catch_idle (p q r:Addr) (w:World):CallsD Tryz.prog 15 #[.pointer (some p),.pointer (some q),.pointer (some r)] .returning w fun e u' w' => e = .returned (.tuple #[]) ∧ u' = .returning ∧ w' = w:=by
 refine callsD_of_wpS Tryz.func15 rfl fun c₀ cs hu => ?_
 apply wpS_seq
 apply wpS_region
 simp [wpOpsS,go_sem,recoverD,hu,Tryz.ntmps15,Exit.thenS]
 refine wpS_of_wp ?_
 go_wp2_with fail
 cases c₀
 simp_all [bodyPostS,results,Tryz.results15]
def Caught (B:Nat) (n:Int) (w w':World):Prop :=
 (w'.cell? ⟨B,0,none⟩ = some (.int .i64 0) ∧ w'.cell? ⟨B,1,none⟩ = some (.int .i64 0) ∧ w'.cell? ⟨B,2,none⟩ = some (.int .i64 0) ∧ w'.cell? ⟨B,3,none⟩ = some (.string ⟨#[]⟩) ∧ w'.cell? ⟨B,4,none⟩ = some (.string ⟨#[]⟩) ∧ w'.cell? ⟨B,5,none⟩ = some (.slice none 0 0)) ∧ w'.cell? ⟨B + 1,0,none⟩ = some (.int .i64 n) ∧ w'.cell? ⟨B + 2,0,none⟩ = some (.int .i64 3) ∧ Below B w w'
set_option maxRecDepth 100000 in
set_option maxHeartbeats 2000000 in
theorem catch_wrong (B:Nat) (n:Int) (older:List PanicEntry) (w:World) (hB:B + 2 < w.heap.size) (hx:∃ x A c,XBX w B x A c) (h1:∃ v,w.cell? ⟨B + 1,0,none⟩ = some (.int .i64 v)) (h2:∃ v,w.cell? ⟨B + 2,0,none⟩ = some (.int .i64 v)) (k1:w.frozen? ⟨B + 1,0,none⟩ = false) (k2:w.frozen? ⟨B + 2,0,none⟩ = false) :
  CallsD Tryz.prog 15 #[.pointer (some ⟨B,0,none⟩),.pointer (some ⟨B + 1,0,none⟩),.pointer (some ⟨B + 2,0,none⟩)] (.panicking ({ v:=.iface 46 (.agg #[.int .i64 n]),recovered:=false } :: older)) w
   fun e u' w' => e = .returned (.tuple #[]) ∧ u' = .panicking ({ v:=.iface 46 (.agg #[.int .i64 n]),recovered:=true } :: older) ∧ Caught B n w w':=by
 obtain ⟨v1,h1⟩:=h1
 obtain ⟨v2,h2⟩:=h2
 obtain ⟨x,A,c,⟨z0,z1,z2,z3,z4,z5⟩,q0,q1,q2,q3,q4,q5⟩:=hx
 have hta:∀ w:World,(Instr.typeAssert (.iface 46 (.agg #[.int .i64 n])) 20 46 true).run Tryz.prog w = .ok (.tuple #[.agg #[.int .i64 n],.bool true]) w:=fun _ => by kernel_rfl
 have b0:B < w.heap.size:=by omega
 have b1:B + 1 < w.heap.size:=by omega
 refine callsD_of_wpS Tryz.func15 rfl fun c₀ cs hu => ?_
 apply wpS_seq
 apply wpS_region
 simp [wpOpsS,go_sem,recoverD,hu,Tryz.ntmps15,Exit.thenS]
 refine wpS_of_wp ?_
 go_wp2_with fail
 go_region
 all_goals
  go_wp2_with fail
  cases c₀
  simp only [bodyPostS,results,Tryz.results15]
  refine ⟨trivial,_,rfl,.tuple #[],?_,rfl,rfl,?_⟩
  ·simp [go_sem]
  ·unfold Caught
   and_intros
   any_goals exact bel
   all_goals go_simp
theorem calls_world {P:Program} {f:FuncId} {args:Array Value} {w:World} {Q:Ending → World → Prop} (h:∀ W,W = w → Calls P f args W Q):Calls P f args w Q:=h w rfl
def Ready (w W:World) (a:Int):Prop:=ZBX W w.heap.size ∧ (W.cell? ⟨w.heap.size + 1,0,none⟩ = some (.int .i64 a) ∧ W.cell? ⟨w.heap.size + 2,0,none⟩ = some (.int .i64 0)) ∧ (W.frozen? ⟨w.heap.size + 1,0,none⟩ = false ∧ W.frozen? ⟨w.heap.size + 2,0,none⟩ = false) ∧ Below w.heap.size w W ∧ w.heap.size + 2 < W.heap.size
theorem bes_below {R n:Nat} {a b:World} (h:Bes R a b) (hn:n ≤ R) (ha:n ≤ a.heap.size):Below n a b:=⟨h.os,h.tape,h.output,h.size,fun k hk => h.block k (by omega) (by omega)⟩
theorem Ready.bes {w W W':World} {a:Int} {R:Nat} (h:Ready w W a) (hb:Bes R W W') (hR:w.heap.size + 2 < R):Ready w W' a:=by
 obtain ⟨hz,⟨h1,h2⟩,⟨f1,f2⟩,hB,hs⟩:=h
 have b0:=hb.block w.heap.size (by omega) (by omega)
 have b1:=hb.block (w.heap.size + 1) (by omega) (by omega)
 have b2:=hb.block (w.heap.size + 2) (by omega) (by omega)
 exact ⟨hz.block b0,⟨(World.cell?_of_block (a:=⟨w.heap.size + 1,0,none⟩) b1).trans h1,(World.cell?_of_block (a:=⟨w.heap.size + 2,0,none⟩) b2).trans h2⟩,⟨(World.frozen?_of_block (a:=⟨w.heap.size + 1,0,none⟩) b1).trans f1,(World.frozen?_of_block (a:=⟨w.heap.size + 2,0,none⟩) b2).trans f2⟩,below_step hB (bes_below hb (n:=w.heap.size) (by omega) (by omega)) (Nat.le_refl _),Nat.lt_of_lt_of_le hs hb.size⟩
end Go.Proofs.YtldbpmlgbbomcaaGreatDoor
