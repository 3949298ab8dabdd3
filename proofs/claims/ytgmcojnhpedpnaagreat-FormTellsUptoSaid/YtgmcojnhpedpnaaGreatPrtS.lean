/- The walk of expr.shapes: a table of 57 cells built and stored whole. -/
import Derived.Test.YtgmcojnhpedpnaaGreatPrt
import Derived.Great.BuildSlice
namespace Go.Proofs.YtgmcojnhpedpnaaGreat
open Go.RowKit

theorem below_setRow {n : Nat} {a b : World} {g : Nat} {cs : Array Value} (h : Below n a b) (hg : n ≤ g) : Below n a (b.setRow g cs) :=
  ⟨h.os, h.tape, h.output, by simpa using h.size, fun k hk => by rw [setRow_other _ _ _ _ (by omega)]; exact h.block k hk⟩
set_option maxRecDepth 100000 in
set_option maxHeartbeats 1000000 in
theorem expr_shapes (w : World) : Calls Tryz.prog 129 #[] w fun e w' => e = .returned (.agg shapesC.toArray) ∧ Below w.heap.size w w' := by
  go_enter Tryz.func129, Tryz.ntmps129
  go_wp2_with (first
    | (refine wpList_buildTo rfl 145 _ rfl (some 19) rfl shapesC.toArray (by kernel_rfl) ?_)
    | (refine wpList_store_rowTo rfl 145 _ _ rfl rfl w.heap.size shapesC.toArray rfl rfl 145 _ (heap_alloc_new w _) (by kernel_rfl) (by kernel_rfl) (by kernel_rfl) ?_))
  generalize hW : World.setRow _ _ _ = W
  have h1 : W.heap[w.heap.size]? = some (.cells shapesC.toArray 145 (0, 0)) := by
    rw [← hW]; exact setRow_heap _ _ _ _ _ _ (heap_alloc_new w _)
  have hl := run_loadVar_row (P := Tryz.prog) W w.heap.size _ 145 shapesC.toArray _ _ h1 Tryz.underlying145 rfl (by kernel_rfl)
  have hb : Below w.heap.size w W := by
    rw [← hW]; exact below_setRow ((Below.refl _ _).alloc (Nat.le_refl _) _) (Nat.le_refl _)
  clear hW h1
  generalize shapesC.toArray = sc at hl ⊢
  refine bodyPost_ret (v := .agg sc) ?_ rfl ⟨rfl, hb⟩
  simp [results, Tryz.results129, asAddr, Act.put, hl]
end Go.Proofs.YtgmcojnhpedpnaaGreat
