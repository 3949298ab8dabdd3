/- The walk of expr.shapes: a table of 57 cells built and stored whole. -/
import Derived.Test.YtgmcojnhpedpnaaPrt
import Derived.Great.BuildSlice
namespace Go.Proofs.Ytgmcojnhpedpnaa
open Go.RowKit

theorem below_setRow {n : Nat} {a b : World} {g : Nat} {cs : Array Value} (h : Below n a b) (hg : n ≤ g) : Below n a (b.setRow g cs) :=
  ⟨h.os, h.tape, h.output, by simpa using h.size, fun k hk => by rw [setRow_other _ _ _ _ (by omega)]; exact h.block k hk⟩
set_option maxRecDepth 100000 in
set_option maxHeartbeats 1000000 in
theorem expr_shapes (w : World) : Calls Try.prog 65 #[] w fun e w' => e = .returned (.agg shapesC.toArray) ∧ Below w.heap.size w w' := by
  go_enter Try.func65, Try.ntmps65
  go_wp2_with (first
    | (refine wpList_buildTo rfl 87 _ rfl (some 19) rfl shapesC.toArray (by kernel_rfl) ?_)
    | (refine wpList_store_rowTo rfl 87 _ _ rfl rfl w.heap.size shapesC.toArray rfl rfl 87 _ (heap_alloc_new w _) (by kernel_rfl) (by kernel_rfl) (by kernel_rfl) ?_))
  generalize hW : World.setRow _ _ _ = W
  have h1 : W.heap[w.heap.size]? = some (.cells shapesC.toArray 87 (0, 0)) := by
    rw [← hW]; exact setRow_heap _ _ _ _ _ _ (heap_alloc_new w _)
  have hl := run_loadVar_row (P := Try.prog) W w.heap.size _ 87 shapesC.toArray _ _ h1 Try.underlying87 rfl (by kernel_rfl)
  have hb : Below w.heap.size w W := by
    rw [← hW]; exact below_setRow ((Below.refl _ _).alloc (Nat.le_refl _) _) (Nat.le_refl _)
  clear hW h1
  generalize shapesC.toArray = sc at hl ⊢
  refine bodyPost_ret (v := .agg sc) ?_ rfl ⟨rfl, hb⟩
  simp [results, Try.results65, asAddr, Act.put, hl]
end Go.Proofs.Ytgmcojnhpedpnaa
