/- sheet.Inputs, sheet.Free and what the law holds them against. (printed by mkfrmt.py) -/
import Derived.Test.YtbhkpepinogigaaGreatFrm
import Derived.Test.YtbhkpepinogigaaGreatPag2
namespace Go.Proofs.YtbhkpepinogigaaGreat
open Go.RowKit

/-- The places of the inputs among the first k fields; the names of those among them that no page has. -/
def inpTo (F : List Fld) : Nat → List Int
  | 0 => []
  | k + 1 => inpTo F k ++ (match (F)[k]? with | some f => if f.kind = 1 then [(k : Int)] else [] | none => [])
def freeTo (F : List Fld) (P : List Pag) : Nat → List ByteArray
  | 0 => []
  | k + 1 => freeTo F P k ++ (match (F)[k]? with | some f => if P.any (hasField f.name) then [] else [f.name] | none => [])
theorem inpTo_len (F : List Fld) : ∀ k, (inpTo F k).length ≤ k
  | 0 => Nat.le_refl _
  | k + 1 => by
    have := inpTo_len F k
    simp only [inpTo, List.length_append]
    cases (F)[k]? with
    | none => simp; omega
    | some f => dsimp only; split <;> simp <;> omega
theorem freeTo_len (F : List Fld) (P : List Pag) : ∀ k, (freeTo F P k).length ≤ k
  | 0 => Nat.le_refl _
  | k + 1 => by
    have := freeTo_len F P k
    simp only [freeTo, List.length_append]
    cases (F)[k]? with
    | none => simp; omega
    | some f => dsimp only; split <;> simp <;> omega
theorem inpTo_yes {F : List Fld} {k : Nat} {f : Fld} (h : (F)[k]? = some f) (hk : f.kind = 1) : inpTo F (k + 1) = inpTo F k ++ [(k : Int)] := by rw [inpTo, h]; dsimp only; rw [if_pos hk]
theorem inpTo_no {F : List Fld} {k : Nat} {f : Fld} (h : (F)[k]? = some f) (hk : ¬ f.kind = 1) : inpTo F (k + 1) = inpTo F k := by rw [inpTo, h]; dsimp only; rw [if_neg hk, List.append_nil]
theorem freeTo_yes {F : List Fld} {P : List Pag} {k : Nat} {f : Fld} (h : (F)[k]? = some f) (hk : P.any (hasField f.name) = false) : freeTo F P (k + 1) = freeTo F P k ++ [f.name] := by rw [freeTo, h]; dsimp only; rw [if_neg (by rw [hk]; decide)]
theorem freeTo_no {F : List Fld} {P : List Pag} {k : Nat} {f : Fld} (h : (F)[k]? = some f) (hk : P.any (hasField f.name) = true) : freeTo F P (k + 1) = freeTo F P k := by rw [freeTo, h]; dsimp only; rw [if_pos hk, List.append_nil]
theorem formErr_flds {F : List Fld} {P : List Pag} (h : formErr F P = 0) : fieldsErr F = 0 := by
  unfold formErr at h
  by_cases he : fieldsErr F = 0
  · exact he
  · have e : (rankR F).2.2 = fieldsErr F := by rw [rankR, if_pos he]
    rw [e, if_pos he] at h
    exact h
def inpR (F : List Fld) (P : List Pag) : List Int × Int := if formErr F P = 0 then (inpTo F F.length, 0) else ([], formErr F P)
def freeR (F : List Fld) (P : List Pag) : List ByteArray × Int := if formErr F P = 0 then (freeTo F P F.length, 0) else ([], formErr F P)

end Go.Proofs.YtbhkpepinogigaaGreat
