/- whole.Asked and the reference AskedOf. -/
import Derived.Test.YtgmcojnhpedpnaaGreatFacts
namespace Go.Proofs.YtgmcojnhpedpnaaGreat
open Go.RowKit

/-- The ending with a value. -/
def RetV (w : World) (v : Val) (e : Ending) (w' : World) : Prop := e = .returned (.agg #[.int .i64 v.k, .int .i64 v.n, .string v.s]) ∧ Below w.heap.size w w'
def askHit (nm : ByteArray) (key : Val) (x : Fct) : Bool := x.name.toList == nm.toList && valEq x.key key
def pendV : Val := ⟨4, 0, ⟨#[]⟩⟩
def askL (l : List Fct) (nm : ByteArray) (key : Val) : Val := ((l.find? (askHit nm key)).map (·.has)).getD pendV
def askV (l : List Fct) (nm : ByteArray) (key : Val) : Val := bif valKnown key then askL l nm key else key
theorem find_take {α : Type} {p : α → Bool} {l : List α} {k : Nat} {x : α} (h0 : (l.take k).any p = false) (h1 : l[k]? = some x) (h2 : p x = true) : l.find? p = some x := by
  have hk : k < l.length := (List.getElem?_eq_some_iff.1 h1).1
  have hf : l[k] = x := by rw [List.getElem?_eq_getElem hk] at h1; exact Option.some.inj h1
  have e1 : l = l.take k ++ x :: l.drop (k + 1) := by rw [← hf, ← List.drop_eq_getElem_cons hk, List.take_append_drop]
  rw [e1, List.find?_append, find_none _ _ h0]
  simp [h2]
theorem any_next {α : Type} {p : α → Bool} {l : List α} {k : Nat} {x : α} (h0 : (l.take k).any p = false) (h1 : l[k]? = some x) (h2 : p x = false) : (l.take (k + 1)).any p = false := by
  rw [List.take_add_one, h1, List.any_append, h0]; simp [h2]
theorem drop_at {α : Type} {l : List α} {k : Nat} {x : α} (h : l[k]? = some x) : l.drop k = x :: l.drop (k + 1) := by
  have hk : k < l.length := (List.getElem?_eq_some_iff.1 h).1
  have hf : l[k] = x := by rw [List.getElem?_eq_getElem hk] at h; exact Option.some.inj h
  rw [← hf, ← List.drop_eq_getElem_cons hk]

end Go.Proofs.YtgmcojnhpedpnaaGreat
