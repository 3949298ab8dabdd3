/- sheet.Facts and the reference FactsFault. -/
import Derived.Test.YtgmcojnhpedpnaaGreatFld1
namespace Go.Proofs.YtgmcojnhpedpnaaGreat
open Go.RowKit

theorem Sl.take {α : Type} {w : World} {S : Nat → Prop} {size : Nat} {R : List Value → α → Prop} {A : Option Addr} {n k : Nat} {l : List α} (h : Sl w S size R A n l) (hk : k ≤ n) : Sl w S size R A k (l.take k) := by
  refine ⟨by rw [List.length_take, h.1]; omega, fun h0 => ?_⟩
  obtain ⟨b, o, e, hs, hc⟩ := h.2 (by omega)
  refine ⟨b, o, e, hs, fun i v hv => ?_⟩
  have hi : i < k := by
    have := (List.getElem?_eq_some_iff.1 hv).1
    rw [List.length_take] at this
    omega
  rw [List.getElem?_take_of_lt hi] at hv
  exact hc i v hv
def sameName (name : ByteArray) (y : Fct) : Bool := y.name.toList == name.toList
def factStep (F : List Fld) (l : List Fct) (i : Nat) : Int := match l[i]? with
  | none => 0
  | some x => if fieldTold F x.name x.has = 0 then if valEq x.key ⟨0, 0, ⟨#[]⟩⟩ then (if (l.take i).any (sameName x.name) then 6 else 0) else 3 else fieldTold F x.name x.has
def factsCheck (F : List Fld) (l : List Fct) : Int := firstErr (factStep F l) l.length

theorem factStep_cases {F : List Fld} {l : List Fct} {k : Nat} {x : Fct} (h : l[k]? = some x) :
    ((fieldTold F x.name x.has != 0) = true ∧ factStep F l k = fieldTold F x.name x.has ∧ factStep F l k ≠ 0) ∨
    ((fieldTold F x.name x.has != 0) = false ∧ valEq ⟨x.key.k, x.key.n, x.key.s⟩ ⟨0, 0, ⟨#[]⟩⟩ = false ∧ factStep F l k = 3) ∨
    ((fieldTold F x.name x.has != 0) = false ∧ valEq ⟨x.key.k, x.key.n, x.key.s⟩ ⟨0, 0, ⟨#[]⟩⟩ = true ∧ (l.take k).any (sameName x.name) = true ∧ factStep F l k = 6) ∨
    ((fieldTold F x.name x.has != 0) = false ∧ valEq ⟨x.key.k, x.key.n, x.key.s⟩ ⟨0, 0, ⟨#[]⟩⟩ = true ∧ (l.take k).any (sameName x.name) = false ∧ factStep F l k = 0) := by
  unfold factStep
  rw [h]
  by_cases h1 : fieldTold F x.name x.has = 0
  · cases h2 : valEq ⟨x.key.k, x.key.n, x.key.s⟩ ⟨0, 0, ⟨#[]⟩⟩ <;> cases h3 : (l.take k).any (sameName x.name) <;> simp_all
  · left; simp [h1]
theorem key_cases (v : Val) : (valEq ⟨v.k, v.n, v.s⟩ ⟨0, 0, ⟨#[]⟩⟩ = true ∧ (v.k != 0) = false ∧ (v.n != 0) = false ∧ (!v.s.toList.isEmpty) = false) ∨ (valEq ⟨v.k, v.n, v.s⟩ ⟨0, 0, ⟨#[]⟩⟩ = false ∧ ((v.k != 0) = true ∨ ((v.k != 0) = false ∧ (v.n != 0) = true) ∨ ((v.k != 0) = false ∧ (v.n != 0) = false ∧ (!v.s.toList.isEmpty) = true))) := by
  unfold valEq
  have e : (⟨#[]⟩ : ByteArray).toList = [] := by rw [ByteArray.toList_eq]
  by_cases h1 : v.k = 0 <;> by_cases h2 : v.n = 0 <;> by_cases h3 : v.s.toList = [] <;> simp [h1, h2, h3, e]
end Go.Proofs.YtgmcojnhpedpnaaGreat
