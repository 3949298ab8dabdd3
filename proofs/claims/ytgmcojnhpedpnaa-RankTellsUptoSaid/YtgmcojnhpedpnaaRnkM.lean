/- The reference's maps of ranks: plain laws. No program text is walked here. -/
import Derived.Test.YtgmcojnhpedpnaaRnkP
import Derived.Test.YtgmcojnhpedpnaaMp
import Derived.Test.YtgmcojnhpedpnaaBkw
namespace Go.Proofs.Ytgmcojnhpedpnaa
open Go.RowKit

/-- The name that a key is. -/
def keyNm : Lit → Option ByteArray
  | .string bs => some ⟨bs.toArray⟩
  | _ => none
theorem keyNm_str (s : ByteArray) : keyNm (.string s.data.toList) = some s := by simp [keyNm]
theorem keyNm_eq {kl : Lit} {s : ByteArray} (h : keyNm kl = some s) : kl = .string s.data.toList := by
  unfold keyNm at h
  split at h
  · cases h; simp
  · cases h
def rkAt (l : List Fld) (k : Nat) (s : ByteArray) : Option Nat := if l.any (hasName s) then rkL (needL l) k (fieldAt l s) else none
/-- The map of ranks behind k levels. -/
def rkMap (l : List Fld) (k : Nat) (kl : Lit) : Option Value := ((keyNm kl).bind (rkAt l k)).map fun (n : Nat) => Value.int .i64 (n : Int)
/-- Those of the first j fields that are ready at level k. -/
def rdAt (l : List Fld) (k j : Nat) (s : ByteArray) : Bool := (l.take j).any (hasName s) && (rkL (needL l) k (fieldAt l s)).isNone && (rkL (needL l) (k + 1) (fieldAt l s)).isSome
def rdMap (l : List Fld) (k j : Nat) (kl : Lit) : Option Value := (keyNm kl).bind fun s => if rdAt l k j s then some (.int .i64 (k : Int)) else none
/-- The map of ranks while those that are ready are laid into it: left tells which are still to come. -/
def mixMap (l : List Fld) (k : Nat) (left : Lit → Bool) (kl : Lit) : Option Value :=
  (keyNm kl).bind fun s => if rdAt l k l.length s && left kl then none else (rkAt l (k + 1) s).map fun (n : Nat) => Value.int .i64 (n : Int)

theorem rkMap_0 (l : List Fld) (kl : Lit) : rkMap l 0 kl = none := by
  unfold rkMap
  cases keyNm kl with
  | none => rfl
  | some s => simp [rkAt, rkL]
theorem rdMap_0 (l : List Fld) (k : Nat) (kl : Lit) : rdMap l k 0 kl = none := by
  unfold rdMap
  cases keyNm kl with
  | none => rfl
  | some s => simp [rdAt]
theorem rkMap_str (l : List Fld) (k : Nat) (s : ByteArray) : rkMap l k (.string s.data.toList) = (rkAt l k s).map fun (n : Nat) => Value.int .i64 (n : Int) := by
  unfold rkMap
  rw [keyNm_str]
  rfl
theorem rkAt_some {l : List Fld} {k : Nat} {s : ByteArray} (h : l.any (hasName s) = true) : rkAt l k s = rkL (needL l) k (fieldAt l s) := by rw [rkAt, if_pos h]
theorem any_name {l : List Fld} {i : Nat} {f : Fld} (hf : l[i]? = some f) : l.any (hasName f.name) = true := List.any_eq_true.2 ⟨f, List.mem_of_getElem? hf, hasName_iff.2 rfl⟩
theorem rkAt_field {l : List Fld} (h : fieldsErr l = 0) {k i : Nat} {f : Fld} (hf : l[i]? = some f) : rkAt l k f.name = rkL (needL l) k i := by
  rw [rkAt_some (any_name hf), fieldAt_name h hf]
/-- All that a field asks for has a rank: what the walk finds. -/
def allK (l : List Fld) (k : Nat) (ss : List ByteArray) : Bool := ss.all fun s => (rkAt l k s).isSome
theorem allK_src {l : List Fld} (h : fieldsErr l = 0) {k i : Nat} {f : Fld} (hf : l[i]? = some f) (hn : rkL (needL l) k i = none) : (rkL (needL l) (k + 1) i).isSome = allK l k (srcN f) := by
  rw [rkL, hn]
  dsimp only
  have e : ((ndAt (needL l) i).all fun s => (rkL (needL l) k s).isSome) = allK l k (srcN f) := by
    rw [ndAt_need hf, List.all_map]
    unfold allK
    rw [Bool.eq_iff_iff, List.all_eq_true, List.all_eq_true]
    constructor
    · intro hh s hs
      have := hh s hs
      rw [rkAt_some (((fieldsErr_all h).2 i f hf).2.2.2.2 s hs)]
      exact this
    · intro hh s hs
      have := hh s hs
      rw [rkAt_some (((fieldsErr_all h).2 i f hf).2.2.2.2 s hs)] at this
      exact this
  rw [e]
  cases allK l k (srcN f) <;> rfl
theorem rd_take {l : List Fld} {j : Nat} {f : Fld} (hf : l[j]? = some f) (s : ByteArray) : (l.take (j + 1)).any (hasName s) = ((l.take j).any (hasName s) || hasName s f) := by
  rw [List.take_add_one, hf, List.any_append]
  simp
/-- A field that has a rank, or is not ready, changes nothing. -/
theorem rdMap_skip {l : List Fld} (h : fieldsErr l = 0) {k j : Nat} {f : Fld} (hf : l[j]? = some f) (hn : (rkL (needL l) k j).isSome = true ∨ (rkL (needL l) (k + 1) j).isSome = false) : rdMap l k (j + 1) = rdMap l k j := by
  funext kl
  unfold rdMap
  cases keyNm kl with
  | none => rfl
  | some s =>
    have e : rdAt l k (j + 1) s = rdAt l k j s := by
      unfold rdAt
      rw [rd_take hf]
      cases hs : hasName s f
      · rw [Bool.or_false]
      · have hs' := hasName_iff.1 hs
        subst hs'
        rw [fieldAt_name h hf]
        rcases hn with hn | hn
        · cases hq : rkL (needL l) k j with
          | none => rw [hq] at hn; cases hn
          | some n => simp
        · rw [hn]; simp
    show (if rdAt l k (j + 1) s then _ else _) = _
    rw [e]
    rfl
theorem rdMap_put {l : List Fld} (h : fieldsErr l = 0) {k j : Nat} {f : Fld} (hf : l[j]? = some f) (hn : rkL (needL l) k j = none) (hs : (rkL (needL l) (k + 1) j).isSome = true) :
    putAt (rdMap l k j) (.string f.name.data.toList) (.int .i64 (k : Int)) = rdMap l k (j + 1) := by
  funext kl
  by_cases he : kl = .string f.name.data.toList
  · subst he
    rw [putAt_same (by trivial)]
    unfold rdMap
    rw [keyNm_str]
    show _ = if rdAt l k (j + 1) f.name then _ else _
    have : rdAt l k (j + 1) f.name = true := by
      unfold rdAt
      rw [rd_take hf, fieldAt_name h hf, hn, hs, hasName_iff.2 rfl]
      simp
    rw [if_pos this]
  · rw [putAt_other he]
    unfold rdMap
    cases hk : keyNm kl with
    | none => rfl
    | some s =>
      have hne : hasName s f = false := by
        cases hh : hasName s f
        · rfl
        · exact absurd (by rw [keyNm_eq hk, hasName_iff.1 hh]) he
      have e : rdAt l k (j + 1) s = rdAt l k j s := by
        unfold rdAt
        rw [rd_take hf, hne, Bool.or_false]
      show (if rdAt l k j s then _ else _) = if rdAt l k (j + 1) s then _ else _
      rw [e]
theorem rdMap_has (l : List Fld) (k : Nat) (kl : Lit) : (rdMap l k l.length kl).isSome = ((keyNm kl).map (rdAt l k l.length)).getD false := by
  unfold rdMap
  cases keyNm kl with
  | none => rfl
  | some s => simp only [Option.bind_some, Option.map_some, Option.getD_some]; cases rdAt l k l.length s <;> rfl
/-- Nothing of what is ready is laid in yet. -/
theorem mixMap_start {l : List Fld} {k : Nat} {left : Lit → Bool} (hl : ∀ kl, left kl = (rdMap l k l.length kl).isSome) : mixMap l k left = rkMap l k := by
  funext kl
  unfold mixMap rkMap
  have hlk := hl kl
  rw [rdMap_has] at hlk
  cases hk : keyNm kl with
  | none => rfl
  | some s =>
    rw [hk] at hlk
    simp only [Option.map_some, Option.getD_some] at hlk
    simp only [Option.bind_some]
    rw [hlk, Bool.and_self]
    unfold rdAt
    by_cases ha : l.any (hasName s) = true
    · rw [List.take_length, ha, rkAt_some ha, rkAt_some ha]
      cases hq : rkL (needL l) k (fieldAt l s) with
      | some n => simp [rkL_succ hq]
      | none =>
        cases hq' : rkL (needL l) (k + 1) (fieldAt l s) <;> simp
    · rw [List.take_length, rkAt, if_neg ha, rkAt, if_neg ha]
      simp
/-- All of what is ready is laid in. -/
theorem mixMap_end {l : List Fld} {k : Nat} {left : Lit → Bool} (hl : ∀ kl, left kl = false) : mixMap l k left = rkMap l (k + 1) := by
  funext kl
  unfold mixMap rkMap
  cases keyNm kl with
  | none => rfl
  | some s => simp [hl kl]
theorem mixMap_step {l : List Fld} {k : Nat} {left : Lit → Bool} {s : ByteArray} {c : Value} (hc : rdMap l k l.length (.string s.data.toList) = some c) :
    putAt (mixMap l k left) (.string s.data.toList) c = mixMap l k (fun z => left z && !z.sameKey (.string s.data.toList)) := by
  funext kl
  unfold rdMap at hc
  rw [keyNm_str] at hc
  simp only [Option.bind_some] at hc
  split at hc
  · rename_i hr
    cases hc
    by_cases he : kl = .string s.data.toList
    · subst he
      rw [putAt_same (by trivial)]
      unfold mixMap
      rw [keyNm_str]
      simp only [Option.bind_some]
      have hsk : Lit.sameKey (.string s.data.toList) (.string s.data.toList) = true := WideAt.sameKey_self (by trivial)
      simp only [hsk, Bool.not_true, Bool.and_false, Bool.false_eq_true, if_false]
      unfold rdAt at hr
      simp only [Bool.and_eq_true] at hr
      obtain ⟨⟨h1, h2⟩, h3⟩ := hr
      rw [List.take_length] at h1
      rw [rkAt_some h1]
      obtain ⟨n, hn⟩ := Option.isSome_iff_exists.1 h3
      have h2' : rkL (needL l) k (fieldAt l s) = none := by simpa using h2
      have hk : n = k := by
        have h4 := rkL_inv hn
        rcases Nat.lt_or_ge n k with h5 | h5
        · have := rkL_mono (rkL_at hn) k (by omega)
          rw [this] at h2'; cases h2'
        · omega
      rw [hn, hk]
      rfl
    · rw [putAt_other he]
      unfold mixMap
      cases hk : keyNm kl with
      | none => rfl
      | some t =>
        have : kl.sameKey (.string s.data.toList) = false := Maps.sameKey_ne he
        simp only [this, Bool.not_false, Bool.and_true]
  · cases hc
end Go.Proofs.Ytgmcojnhpedpnaa
