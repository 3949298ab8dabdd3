/- More readings: slices of flat things, and forms. -/
import Derived.Test.YtdngggllkjahcaaOpen
namespace Go.Proofs.Ytdngggllkjahcaa
open Go.ChangeShapes Go.WideShapes Go.ChangeAt Go.RowKit

theorem bytes_Ltr : Try.prog.bytesOf 31 = 88 := by kernel_rfl
theorem dec_Ltrs : Dec 22 (fun w => RSl 8 88 (fun _ _ => RLtr) w (old w)) (fun l => (l.map fun v : Ltr => v.field.size + v.key.s.size + v.answer.s.size + 1).sum + 1) :=
  dec_sl (R := fun _ _ => RLtr) Try.underlying22 cells_Ltr bytes_Ltr (by decide) dec_Ltr
theorem bytes_Val : Try.prog.bytesOf 29 = 32 := by kernel_rfl
end Go.Proofs.Ytdngggllkjahcaa
