/- Texts merged: Facts Ask. -/
import Derived.Test.YtldbpmlgbbomcaaGreatDoorFld1
/- sheet.Facts and the reference FactsFault. -/
--TRYSZ (some lists of worlds name one that is not there)
namespace Go.Proofs.YtldbpmlgbbomcaaGreatDoor
open Go.RowKit

theorem Sl.take {α:Type} {w:World} {S:Nat → Prop} {size:Nat} {R:List Value → α → Prop} {A:Option Addr} {n k:Nat} {l:List α} (h:Sl w S size R A n l) (hk:k ≤ n):Sl w S size R A k (l.take k):=by
 refine ⟨by rw [List.length_take,h.1];omega,fun h0 => ?_⟩
 obtain ⟨b,o,e,hs,hc⟩:=h.2 (by omega)
 refine ⟨b,o,e,hs,fun i v hv => ?_⟩
 have hi:i < k:=by
  have:=(List.getElem?_eq_some_iff.1 hv).1
  rw [List.length_take] at this
  omega
 rw [List.getElem?_take_of_lt hi] at hv
 exact hc i v hv
def sameName (name:ByteArray) (y:Fct):Bool:=y.name.toList == name.toList
def factStep (F:List Fld) (l:List Fct) (i:Nat):Int:=match l[i]? with
 | none => 0
 | some x => if fieldTold F x.name x.has = 0 then if valEq x.key ⟨0,0,⟨#[]⟩⟩ then (if (l.take i).any (sameName x.name) then 6 else 0) else 3 else fieldTold F x.name x.has
def factsCheck (F:List Fld) (l:List Fct):Int:=firstErr (factStep F l) l.length

theorem factStep_cases {F:List Fld} {l:List Fct} {k:Nat} {x:Fct} (h:l[k]? = some x) :
  ((fieldTold F x.name x.has != 0) = true ∧ factStep F l k = fieldTold F x.name x.has ∧ factStep F l k ≠ 0) ∨
  ((fieldTold F x.name x.has != 0) = false ∧ valEq ⟨x.key.k,x.key.n,x.key.s⟩ ⟨0,0,⟨#[]⟩⟩ = false ∧ factStep F l k = 3) ∨
  ((fieldTold F x.name x.has != 0) = false ∧ valEq ⟨x.key.k,x.key.n,x.key.s⟩ ⟨0,0,⟨#[]⟩⟩ = true ∧ (l.take k).any (sameName x.name) = true ∧ factStep F l k = 6) ∨
  ((fieldTold F x.name x.has != 0) = false ∧ valEq ⟨x.key.k,x.key.n,x.key.s⟩ ⟨0,0,⟨#[]⟩⟩ = true ∧ (l.take k).any (sameName x.name) = false ∧ factStep F l k = 0):=by
 unfold factStep
 rw [h]
 by_cases h1:fieldTold F x.name x.has = 0
 ·cases h2:valEq ⟨x.key.k,x.key.n,x.key.s⟩ ⟨0,0,⟨#[]⟩⟩ <;> cases h3:(l.take k).any (sameName x.name) <;> simp_all
 ·left;simp [h1]
theorem key_cases (v:Val):(valEq ⟨v.k,v.n,v.s⟩ ⟨0,0,⟨#[]⟩⟩ = true ∧ (v.k != 0) = false ∧ (v.n != 0) = false ∧ (!v.s.toList.isEmpty) = false) ∨ (valEq ⟨v.k,v.n,v.s⟩ ⟨0,0,⟨#[]⟩⟩ = false ∧ ((v.k != 0) = true ∨ ((v.k != 0) = false ∧ (v.n != 0) = true) ∨ ((v.k != 0) = false ∧ (v.n != 0) = false ∧ (!v.s.toList.isEmpty) = true))):=by
 unfold valEq
 have e:(⟨#[]⟩:ByteArray).toList = []:=by rw [ByteArray.toList_eq]
 by_cases h1:v.k = 0 <;> by_cases h2:v.n = 0 <;> by_cases h3:v.s.toList = [] <;> simp [h1,h2,h3,e]
end Go.Proofs.YtldbpmlgbbomcaaGreatDoor
/- whole.Asked and the reference AskedOf. -/
namespace Go.Proofs.YtldbpmlgbbomcaaGreatDoor
open Go.RowKit

def RetV (w:World) (v:Val) (e:Ending) (w':World):Prop:=e = .returned (.agg #[.int .i64 v.k,.int .i64 v.n,.string v.s]) ∧ Below w.heap.size w w'
def askHit (nm:ByteArray) (key:Val) (x:Fct):Bool:=x.name.toList == nm.toList && valEq x.key key
def pendV:Val:=⟨4,0,⟨#[]⟩⟩
def askL (l:List Fct) (nm:ByteArray) (key:Val):Val:=((l.find? (askHit nm key)).map (·.has)).getD pendV
def askV (l:List Fct) (nm:ByteArray) (key:Val):Val:=bif valKnown key then askL l nm key else key
theorem find_at0 {α:Type} {p:α → Bool} {l:List α} {k:Nat} {x:α} (h0:(l.take k).any p = false) (h1:l[k]? = some x) (h2:p x = true):l.find? p = some x:=by
 have hk:k < l.length:=(List.getElem?_eq_some_iff.1 h1).1
 have hf:l[k] = x:=by rw [List.getElem?_eq_getElem hk] at h1;exact Option.some.inj h1
 have e1:l = l.take k ++ x :: l.drop (k + 1):=by rw [← hf,← List.drop_eq_getElem_cons hk,List.take_append_drop]
 rw [e1,List.find?_append,find_none _ _ h0]
 simp [h2]
theorem any_next {α:Type} {p:α → Bool} {l:List α} {k:Nat} {x:α} (h0:(l.take k).any p = false) (h1:l[k]? = some x) (h2:p x = false):(l.take (k + 1)).any p = false:=by
 rw [List.take_add_one,h1,List.any_append,h0];simp [h2]
theorem drop_at {α:Type} {l:List α} {k:Nat} {x:α} (h:l[k]? = some x):l.drop k = x :: l.drop (k + 1):=by
 have hk:k < l.length:=(List.getElem?_eq_some_iff.1 h).1
 have hf:l[k] = x:=by rw [List.getElem?_eq_getElem hk] at h;exact Option.some.inj h
 rw [← hf,← List.drop_eq_getElem_cons hk]

end Go.Proofs.YtldbpmlgbbomcaaGreatDoor
