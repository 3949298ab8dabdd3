/- Readings: walks through pages. -/
import Derived.Test.YtbhkpepinogigaaGreatDecs
import Derived.Test.YtbhkpepinogigaaGreatNavP
namespace Go.Proofs.YtbhkpepinogigaaGreat
open Go.ChangeShapes Go.WideShapes Go.ChangeAt Go.RowKit

theorem bytes_int : Tryz.prog.bytesOf 3 = 8 := by kernel_rfl
theorem dec_Ints : Dec 23 (fun w => RSl 1 8 (fun _ _ => RInt) w (old w)) (fun l => (l.map fun _v : Int => 1).sum + 1) :=
  dec_sl (R := fun _ _ => RInt) Tryz.underlying23 cells_int bytes_int (by decide) (dec_int Tryz.underlying3)
/-- A walk in memory. -/
def RWlk (w : World) (S : Nat → Prop) (cs : List Value) (x : Wlk) : Prop :=
  inI x.at_ ∧ ∃ Q q cq, cs = [.int .i64 x.at_, .slice Q q cq, .bool x.done] ∧ inB 8 q ∧ q ≤ cq ∧ Sl w S 1 RInt Q q x.path
def Wlk.bulk (_ : Wlk) : Nat := 1
theorem cells_Wlk : Tryz.prog.cellsOf 35 = 3 := by kernel_rfl
theorem cells_Ints : Tryz.prog.cellsOf 23 = 1 := by kernel_rfl
theorem cells_bool : Tryz.prog.cellsOf 4 = 1 := by kernel_rfl
set_option maxRecDepth 100000 in
theorem dec_Wlk : Dec 35 (fun w => RWlk w (old w)) Wlk.bulk := by
  intro H enc w fuel cs x h hw
  obtain ⟨xs, n, hfu, hlen, hl, hb, hf⟩ := struct_parts Tryz.underlying35 h hw
  rw [cells_Wlk] at hl
  match cs, hl with
  | [c0, c1, c2], _ =>
    match xs, hlen with
    | [y0, y1, y2], _ =>
      obtain ⟨z0, e0, g0, q0⟩ := hf 0 _ rfl
      cases e0
      change DataW.trod enc Tryz.prog w 0 (fun _ => true) true n 3 (List.take (Tryz.prog.cellsOf 3) [c0, c1, c2]) = some y0 at g0
      rw [cells_int] at g0
      change DataW.trod enc Tryz.prog w 0 (fun _ => true) true n 3 [c0] = some y0 at g0
      obtain ⟨a0, ⟨r0, i0⟩, m0⟩ := dec_int Tryz.underlying3 g0 q0
      simp only [List.cons.injEq, and_true] at r0
      subst r0
      obtain ⟨z1, e1, g1, q1⟩ := hf 1 _ rfl
      cases e1
      change DataW.trod enc Tryz.prog w 0 (fun _ => true) true n 23 (List.take (Tryz.prog.cellsOf 23) [c1, c2]) = some y1 at g1
      rw [cells_Ints] at g1
      change DataW.trod enc Tryz.prog w 0 (fun _ => true) true n 23 [c1] = some y1 at g1
      obtain ⟨a1, ⟨A1, k1, c1', r1, i1, i1', s1⟩, m1⟩ := dec_Ints g1 q1
      simp only [List.cons.injEq, and_true] at r1
      subst r1
      obtain ⟨z2, e2, g2, q2⟩ := hf 2 _ rfl
      cases e2
      change DataW.trod enc Tryz.prog w 0 (fun _ => true) true n 4 (List.take (Tryz.prog.cellsOf 4) [c2]) = some y2 at g2
      rw [cells_bool] at g2
      change DataW.trod enc Tryz.prog w 0 (fun _ => true) true n 4 [c2] = some y2 at g2
      obtain ⟨a2, r2, m2⟩ := dec_bool Tryz.underlying4 g2 q2
      simp only [List.cons.injEq, and_true] at r2
      subst r2
      simp only [List.map_cons, List.map_nil, List.sum_cons, List.sum_nil] at hb
      exact ⟨⟨a0, a1, a2⟩, ⟨i0, A1, k1, c1', rfl, i1, i1', s1⟩, by unfold Wlk.bulk; simp only [] at *; omega⟩
end Go.Proofs.YtbhkpepinogigaaGreat
