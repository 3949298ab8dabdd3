/- net.Answer: a letter's answer is set in a row of the call's own. -/
import Derived.Test.YtdngggllkjahcaaNet2
namespace Go.Proofs.Ytdngggllkjahcaa
open Go.RowKit

def setAns (x : Ltr) (v : Val) : Ltr := ⟨x.field, x.id, x.key, v⟩
/-- What net.Answer answers. -/
def ltrAnswer (l : List Ltr) (i : Int) (v : Val) : List Ltr × Int := if (ltrAt l i).2 = 0 then if (ltrAt l i).1.answer.k ≠ 0 then ([], 2) else if valKnown v = false then ([], 9) else (l.set i.toNat (setAns (ltrAt l i).1 v), 0) else ([], (ltrAt l i).2)
theorem flat_set (l : List Ltr) (k : Nat) (x : Ltr) (v : Val) (hx : l[k]? = some x) :
    (((l.flatMap Ltr.cs).set (k * 8 + 5) (.int .i64 v.k)).set (k * 8 + 6) (.int .i64 v.n)).set (k * 8 + 7) (.string v.s) = (l.set k (setAns x v)).flatMap Ltr.cs := by
  have hk : k < l.length := (List.getElem?_eq_some_iff.1 hx).1
  have hxe : l[k] = x := (List.getElem?_eq_some_iff.1 hx).2
  have e : l = l.take k ++ x :: l.drop (k + 1) := by
    rw [← hxe, List.getElem_cons_drop, List.take_append_drop]
  have hlen : ((l.take k).flatMap Ltr.cs).length = k * 8 := by rw [flat_len _ 8 lenLtr, List.length_take, Nat.min_eq_left (by omega)]
  have e1 : l.flatMap Ltr.cs = (l.take k).flatMap Ltr.cs ++ (x.cs ++ (l.drop (k + 1)).flatMap Ltr.cs) := by
    conv => lhs; rw [e]
    rw [List.flatMap_append, List.flatMap_cons]
  have e2 : (l.set k (setAns x v)).flatMap Ltr.cs = (l.take k).flatMap Ltr.cs ++ ((setAns x v).cs ++ (l.drop (k + 1)).flatMap Ltr.cs) := by
    rw [List.set_eq_take_append_cons_drop, if_pos hk, List.flatMap_append, List.flatMap_cons]
  rw [e1, e2]
  rw [List.set_append_right _ _ (by omega), List.set_append_right _ _ (by omega), List.set_append_right _ _ (by omega), hlen]
  have a1 : k * 8 + 5 - k * 8 = 5 := by omega
  have a2 : k * 8 + 6 - k * 8 = 6 := by omega
  have a3 : k * 8 + 7 - k * 8 = 7 := by omega
  rw [a1, a2, a3]
  simp [Ltr.cs, setAns]
theorem cells_own {w : World} {base g n cap k : Nat} {l : List Ltr} {e : TypeId} {x : Ltr} (h : w.ownsRow base e 8 (.slice (some ⟨g, 0, none⟩) n cap) n (l.flatMap Ltr.cs)) (hx : l[k]? = some x) (hk : k < n) :
    w.cell? ⟨g, k * 8 + 5, none⟩ = some (.int .i64 x.answer.k) ∧ w.cell? ⟨g, k * 8 + 6, none⟩ = some (.int .i64 x.answer.n) ∧ w.cell? ⟨g, k * 8 + 7, none⟩ = some (.string x.answer.s) := by
  have f := fun j hj => flat_at Ltr.cs 8 lenLtr l k j x hx hj
  refine ⟨?_, ?_, ?_⟩
  · rw [h.cellAt _ (by omega), f 5 (by decide)]; rfl
  · rw [h.cellAt _ (by omega), f 6 (by decide)]; rfl
  · rw [h.cellAt _ (by omega), f 7 (by decide)]; rfl
theorem ltrAnswer_err {l : List Ltr} {i : Int} {v : Val} (h : (ltrAt l i).2 ≠ 0) : ltrAnswer l i v = ([], (ltrAt l i).2) := by rw [ltrAnswer, if_neg h]
theorem ltrAt_ok {l : List Ltr} {i : Int} (h : (ltrAt l i).2 = 0) : ltrCheck l = 0 ∧ ∃ (k : Nat) (x : Ltr), i = k ∧ k < l.length ∧ l[k]? = some x ∧ ltrAt l i = (x, 0) := by
  rcases ltrAt_cases l i with ⟨h0, e⟩ | ⟨h0, h1, e⟩ | ⟨h0, h1, h2, e⟩ | ⟨h0, k, x, h1, h2, h3, e⟩
  · rw [e] at h; exact absurd h h0
  · rw [e] at h; cases h
  · rw [e] at h; cases h
  · exact ⟨h0, k, x, h1, h2, h3, e⟩
end Go.Proofs.Ytdngggllkjahcaa
