/- From a row's list and the world's shape to what the library's contracts ask. -/
import Derived.Test.YtldhlpjjcnlbcaaDoorCardKit
import Derived.Test.YtldhlpjjcnlbcaaDoorShow
namespace Go.Proofs.YtldhlpjjcnlbcaaDoor
open Go.ChangeShapes Go.WideShapes Go.ChangeAt Go.RowKit

theorem pow_data:(Rows.laid_internal_strconv_uint64pow10:DataW Unit) = Lib.tabData .u64 Lib.pow10Tab:=by kernel_rfl
theorem gd_of {W : World} {laid : List (String × DataW Unit)} (hp : (laid.all fun x => x.2.handleName?.isNone) = true) (n : Nat) (rest : List (String × DataW Unit)) (hd : laid.drop n = ("internal/strconv.uint64pow10", Rows.laid_internal_strconv_uint64pow10) :: rest) (hL : laidMetH Tryd.prog laid W) (hsh : W.ShapedOpen Tryd.prog) : Gd W := by
 rw [MakeChecks.laidMetH_plain _ _ _ hp] at hL
 have hdrop:∀ (k:Nat) (l:List (String × DataW Unit)),laidMet Tryd.prog l W → laidMet Tryd.prog (l.drop k) W:=by
  intro k
  induction k with
  | zero => intro l h;exact h
  | succ k ih =>
   intro l h
   cases l with
   | nil => exact h
   | cons a l => exact ih l h.tail
 have h3:=hdrop n laid hL
 rw [hd,pow_data] at h3
 exact ⟨Tryd.laysM155.s1_3 W hsh,Lib.tabIs_of_head (g:=2) (t:=109) (e:=79) (n:=20) (by kernel_rfl) (by kernel_rfl) Tryd.underlying109 Tryd.underlying79 (by kernel_rfl) (by kernel_rfl) h3⟩
end Go.Proofs.YtldhlpjjcnlbcaaDoor
