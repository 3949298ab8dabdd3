/- Values that are right; forms that are right: plain laws. -/
import Derived.Test.YtbhkpepinogigaaGreatFrm
import Derived.Test.YtbhkpepinogigaaGreatFrmT
import Derived.Test.YtbhkpepinogigaaGreatEvF
namespace Go.Proofs.YtbhkpepinogigaaGreat
open Go.RowKit

def valErr (V : List Val) (i : Nat) : Int := match V[i]? with | none => 0 | some v => valCheck v
def valsErr (V : List Val) : Int := firstErr (valErr V) V.length
theorem valErr_at {V : List Val} {k : Nat} {v : Val} (h : V[k]? = some v) : valErr V k = valCheck v := by unfold valErr; rw [h]
theorem valsErr_hit {V : List Val} {k : Nat} {v : Val} (h : firstErr (valErr V) k = 0) (hx : V[k]? = some v) (he : valCheck v ≠ 0) : valsErr V = valCheck v := by
  unfold valsErr
  rw [firstErr_hit h (by rw [valErr_at hx]; exact he) _ (List.getElem?_eq_some_iff.1 hx).1, valErr_at hx]
theorem valsErr_ok {V : List Val} (h : valsErr V = 0) : ∀ v ∈ V, valCheck v = 0 := by
  intro v hv
  obtain ⟨i, hi, rfl⟩ := List.mem_iff_getElem.1 hv
  have := firstErr_all h i hi
  rwa [valErr_at (List.getElem?_eq_getElem hi)] at this
theorem firstErr_zero {g : Nat → Int} : ∀ n, (∀ k, k < n → g k = 0) → firstErr g n = 0
  | 0, _ => rfl
  | n + 1, h => by rw [firstErr, if_pos (firstErr_zero n fun k hk => h k (by omega))]; exact h n (by omega)
theorem formErr_pages {F : List Fld} {P : List Pag} (h : formErr F P = 0) : pagesErr P F = 0 := by
  unfold formErr at h
  by_cases he : (rankR F).2.2 = 0
  · rwa [if_neg (by simpa using he)] at h
  · rw [if_pos he] at h; exact absurd h he
end Go.Proofs.YtbhkpepinogigaaGreat
