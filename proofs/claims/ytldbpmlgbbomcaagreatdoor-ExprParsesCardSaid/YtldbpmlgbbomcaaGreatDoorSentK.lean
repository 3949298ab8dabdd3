/- The errors that the library's variables hold, off the list. -/
import Derived.Test.YtldbpmlgbbomcaaGreatDoorOpen
import Derived.Test.YtldbpmlgbbomcaaGreatDoorGdKit
namespace Go.Proofs.YtldbpmlgbbomcaaGreatDoor
open Go.ChangeShapes Go.WideShapes Go.ChangeAt Go.RowKit

theorem var_cell {W:World} {n:String} {g:Nat} {v:Value} (hg:Tryz.prog.globalNamed n = some g) (h:W.var? Tryz.prog n = some #[v]):W.cell? ⟨g,0,none⟩ = some v:=by
 unfold World.var? at h
 rw [hg] at h
 simp only [Option.bind_some] at h
 unfold World.cell?
 dsimp only
 cases ho:W.heap[g]? with
 | none => rw [ho] at h;cases h
 | some o =>
  rw [ho] at h
  cases o <;> simp at h ⊢
  rw [h];rfl
theorem err_row : ∀ u, Tryz.prog.typeName? 3 u = some "*errors.errorString" → u = 214 := fun u h =>
 have star : "*" ++ "errors.errorString" = "*errors.errorString" := by decide
 typeName_ptr_named (nm := "errors.errorString") (by rw [star]; kernel_rfl) (by kernel_rfl) (by decide) u (by rw [star]; exact h)
theorem sent_of {W:World} {laid:List (String × DataW Unit)} (hp:(laid.all fun x => x.2.handleName?.isNone) = true) (k:Nat) (n:String) (g:Nat) (text:List UInt8) (rest:List (String × DataW Unit)) (hg:Tryz.prog.globalNamed n = some g) (ht:(Tryz.prog.globals[g]?).map (·.type) = some 94)
  (hd : laid.drop k = (n, .iface "*errors.errorString" (.ptr (.agg [.lit (.string text)]))) :: rest) (hL : laidMetH Tryz.prog laid W) : ∃ v, W.cell? ⟨g, 0, none⟩ = some v ∧ (v = .nilIface ∨ ∃ te pe, v = .iface te pe) := by
 rw [MakeChecks.laidMetH_plain _ _ _ hp] at hL
 have hdrop:∀ (k:Nat) (l:List (String × DataW Unit)),laidMet Tryz.prog l W → laidMet Tryz.prog (l.drop k) W:=by
  intro k
  induction k with
  | zero => intro l h;exact h
  | succ k ih =>
   intro l h
   cases l with
   | nil => exact h
   | cons a l => exact ih l h.tail
 have h3:=hdrop k laid hL
 rw [hd] at h3
 obtain ⟨a,s,hv,_⟩:=laid_sentinel h3 hg ht Tryz.underlying94 err_row Tryz.underlying214 Tryz.underlying216 rfl rfl Tryz.underlying9 (by kernel_rfl) (by kernel_rfl)
 exact ⟨_,var_cell hg hv,.inr ⟨_,_,rfl⟩⟩
end Go.Proofs.YtldbpmlgbbomcaaGreatDoor
