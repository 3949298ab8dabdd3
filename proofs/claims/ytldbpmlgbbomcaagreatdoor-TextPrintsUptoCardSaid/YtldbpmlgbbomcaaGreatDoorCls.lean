/- The reference's closeness: how close an op binds, and its sign. -/
import Derived.Test.YtldbpmlgbbomcaaGreatDoorPrnP
namespace Go.Proofs.YtldbpmlgbbomcaaGreatDoor
open Go.RowKit

def clsS (op:Int):ByteArray:=if op = 4 then ⟨#[110,111,116,32]⟩ else if 3 ≤ op ∧ op ≤ 16 then sgnN op else ⟨#[]⟩
theorem clsS_len (op:Int):(clsS op).size ≤ 4:=by
 unfold clsS
 split
 ·decide
 ·split
  ·have:=sgn_len op;omega
  ·decide
set_option maxHeartbeats 4000000 in
theorem ref_closeness (op:Int) (w:World) (h1:1 ≤ op) (h2:op ≤ 18):Calls Tryz.prog 49 #[.int .i64 op] w fun e w' => e = .returned (.tuple #[.int .i64 (lvlN op),.string (clsS op)]) ∧ Below w.heap.size w w':=by
 rcases (by omega:op = 1 ∨ op = 2 ∨ op = 3 ∨ op = 4 ∨ op = 5 ∨ op = 6 ∨ op = 7 ∨ op = 8 ∨ op = 9 ∨ op = 10 ∨ op = 11 ∨ op = 12 ∨ op = 13 ∨ op = 14 ∨ op = 15 ∨ op = 16 ∨ op = 17 ∨ op = 18) with rfl | rfl | rfl | rfl | rfl | rfl | rfl | rfl | rfl | rfl | rfl | rfl | rfl | rfl | rfl | rfl | rfl | rfl
 all_goals
  go_enter Tryz.func49,Tryz.ntmps49
  go_wp2
  go_ret2
  exact ⟨rfl,bel⟩
end Go.Proofs.YtldbpmlgbbomcaaGreatDoor
