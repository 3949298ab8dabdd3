/- From a row's list and the world's shape to what the library's contracts ask. -/
import Derived.Test.YtldbpmlgbbomcaaGreatDoorCardKit
import Derived.Test.YtldbpmlgbbomcaaGreatDoorShow
namespace Go.Proofs.YtldbpmlgbbomcaaGreatDoor
open Go.ChangeShapes Go.WideShapes Go.ChangeAt Go.RowKit

theorem pow_data:(Rows.laid_internal_strconv_uint64pow10:DataW Unit) = Lib.tabData .u64 Lib.pow10Tab:=by kernel_rfl
theorem gd_of {W : World} {laid : List (String × DataW Unit)} (hp : (laid.all fun x => x.2.handleName?.isNone) = true) (n : Nat) (rest : List (String × DataW Unit)) (hd : laid.drop n = ("internal/strconv.uint64pow10", Rows.laid_internal_strconv_uint64pow10) :: rest) (hL : laidMetH Tryz.prog laid W) (hsh : W.ShapedOpen Tryz.prog) : Gd W := by
 rw [MakeChecks.laidMetH_plain _ _ _ hp] at hL
 have hdrop:∀ (k:Nat) (l:List (String × DataW Unit)),laidMet Tryz.prog l W → laidMet Tryz.prog (l.drop k) W:=by
  intro k
  induction k with
  | zero => intro l h;exact h
  | succ k ih =>
   intro l h
   cases l with
   | nil => exact h
   | cons a l => exact ih l h.tail
 have h3:=hdrop n laid hL
 rw [hd,pow_data] at h3
 exact ⟨Go.Proofs.cell_of_shapedOpen_int (zero:=#[.int .i64 0]) (t:=3) hsh (of_decide_eq_true (by kernel_rfl)) (by kernel_rfl) rfl (by kernel_rfl) (by kernel_rfl) Tryz.underlying3,Lib.tabIs_of_head (g:=5) (t:=240) (e:=191) (n:=20) (by kernel_rfl) (by kernel_rfl) Tryz.underlying240 Tryz.underlying191 (by kernel_rfl) (by kernel_rfl) h3⟩
end Go.Proofs.YtldbpmlgbbomcaaGreatDoor
