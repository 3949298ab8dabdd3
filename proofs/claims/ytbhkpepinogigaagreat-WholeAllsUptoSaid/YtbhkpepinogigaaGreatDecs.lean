/- More readings: slices of flat things, and forms. -/
import Derived.Test.YtbhkpepinogigaaGreatOpen
namespace Go.Proofs.YtbhkpepinogigaaGreat
open Go.ChangeShapes Go.WideShapes Go.ChangeAt Go.RowKit

theorem bytes_Fct : Tryz.prog.bytesOf 109 = 80 := by kernel_rfl
theorem dec_Fcts : Dec 42 (fun w => RSl 7 80 (fun _ _ => RFct) w (old w)) (fun l => (l.map fun v : Fct => v.name.size + v.key.s.size + v.has.s.size + 1).sum + 1) :=
  dec_sl (R := fun _ _ => RFct) Tryz.underlying42 cells_Fct bytes_Fct (by decide) dec_Fct
theorem bytes_Val : Tryz.prog.bytesOf 73 = 32 := by kernel_rfl
theorem dec_Vals : Dec 33 (fun w => RSl 3 32 (fun _ _ => RVal) w (old w)) (fun l => (l.map fun v : Val => v.s.size + 1).sum + 1) :=
  dec_sl (R := fun _ _ => RVal) Tryz.underlying33 cells_Val bytes_Val (by decide) dec_Val
/-- A form in memory. -/
def RFrm (w : World) (S : Nat → Prop) (cs : List Value) (f : Frm) : Prop :=
  ∃ A n c A2 n2 c2, cs = [.slice A n c, .slice A2 n2 c2] ∧ inB 112 n ∧ n ≤ c ∧ inB 120 n2 ∧ n2 ≤ c2 ∧ Sl w S 9 (RFld w S) A n f.fields ∧ Sl w S 8 (RPag w S) A2 n2 f.pages
def Frm.bulk (f : Frm) : Nat := (f.fields.map Fld.bulk).sum + (f.pages.map Pag.bulk).sum + 1
theorem cells_Frm : Tryz.prog.cellsOf 32 = 2 := by kernel_rfl
theorem cells_Flds : Tryz.prog.cellsOf 22 = 1 := by kernel_rfl
theorem cells_Pags : Tryz.prog.cellsOf 30 = 1 := by kernel_rfl
set_option maxRecDepth 100000 in
theorem dec_Frm : Dec 32 (fun w => RFrm w (old w)) Frm.bulk := by
  intro H enc w fuel cs x h hw
  obtain ⟨xs, n, hfu, hlen, hl, hb, hf⟩ := struct_parts Tryz.underlying32 h hw
  rw [cells_Frm] at hl
  match cs, hl with
  | [c0, c1], _ =>
    match xs, hlen with
    | [y0, y1], _ =>
      obtain ⟨z0, e0, g0, q0⟩ := hf 0 _ rfl
      cases e0
      change DataW.trod enc Tryz.prog w 0 (fun _ => true) true n 22 (List.take (Tryz.prog.cellsOf 22) [c0, c1]) = some y0 at g0
      rw [cells_Flds] at g0
      change DataW.trod enc Tryz.prog w 0 (fun _ => true) true n 22 [c0] = some y0 at g0
      obtain ⟨a0, ⟨A, k, c, r0, i0, i0', s0⟩, m0⟩ := dec_Flds g0 q0
      simp only [List.cons.injEq, and_true] at r0
      subst r0
      obtain ⟨z1, e1, g1, q1⟩ := hf 1 _ rfl
      cases e1
      change DataW.trod enc Tryz.prog w 0 (fun _ => true) true n 30 (List.take (Tryz.prog.cellsOf 30) [c1]) = some y1 at g1
      rw [cells_Pags] at g1
      change DataW.trod enc Tryz.prog w 0 (fun _ => true) true n 30 [c1] = some y1 at g1
      obtain ⟨a1, ⟨A1, k1, c1', r1, i1, i1', s1⟩, m1⟩ := dec_Pags g1 q1
      simp only [List.cons.injEq, and_true] at r1
      subst r1
      simp only [List.map_cons, List.map_nil, List.sum_cons, List.sum_nil] at hb
      exact ⟨⟨a0, a1⟩, ⟨A, k, c, A1, k1, c1', rfl, i0, i0', i1, i1', s0, s1⟩, by unfold Frm.bulk; simp only [] at *; omega⟩
end Go.Proofs.YtbhkpepinogigaaGreat
