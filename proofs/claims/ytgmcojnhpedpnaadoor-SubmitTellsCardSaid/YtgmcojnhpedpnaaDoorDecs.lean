/- More readings: slices of flat things, and forms. -/
import Derived.Test.YtgmcojnhpedpnaaDoorOpen
namespace Go.Proofs.YtgmcojnhpedpnaaDoor
open Go.ChangeShapes Go.WideShapes Go.ChangeAt Go.RowKit

theorem bytes_Fct : Tryd.prog.bytesOf 51 = 80 := by kernel_rfl
theorem dec_Fcts : Dec 28 (fun w => RSl 7 80 (fun _ _ => RFct) w (old w)) (fun l => (l.map fun v : Fct => v.name.size + v.key.s.size + v.has.s.size + 1).sum + 1) :=
  dec_sl (R := fun _ _ => RFct) Tryd.underlying28 cells_Fct bytes_Fct (by decide) dec_Fct
theorem bytes_Val : Tryd.prog.bytesOf 23 = 32 := by kernel_rfl
theorem dec_Vals : Dec 67 (fun w => RSl 3 32 (fun _ _ => RVal) w (old w)) (fun l => (l.map fun v : Val => v.s.size + 1).sum + 1) :=
  dec_sl (R := fun _ _ => RVal) Tryd.underlying67 cells_Val bytes_Val (by decide) dec_Val
end Go.Proofs.YtgmcojnhpedpnaaDoor
