/- The record of a walk through a form's pages. Plain laws. -/
import Derived.Test.YtbhkpepinogigaaGreatNavP
namespace Go.Proofs.YtbhkpepinogigaaGreat
open Go.RowKit

def fsOf (P : List Pag) (p : Int) : List ByteArray := (pageFs P p).getD []
def recL (F : List Fld) (V : List Val) (fs : List ByteArray) : List Fct := fs.map fun s => ⟨s, noVal, valOf F V s⟩
def recTo (F : List Fld) (P : List Pag) (V : List Val) (path : List Int) : List Fct := path.flatMap fun p => recL F V (fsOf P p)
def recBad (F : List Fld) (P : List Pag) (V : List Val) (p : Int) : Bool := (fsOf P p).any (lacks F V)
def recR (F : List Fld) (P : List Pag) (V : List Val) (x : Wlk) : List Fct × Int :=
  if walkErr F P V x ≠ 0 then ([], walkErr F P V x) else if x.done = false then ([], 11) else if x.path.any (recBad F P V) then ([], 11) else (recTo F P V x.path, 0)
section
variable {F : List Fld} {P : List Pag} {V : List Val} {x : Wlk}
theorem recR_err (h : walkErr F P V x ≠ 0) : recR F P V x = ([], walkErr F P V x) := by unfold recR; rw [if_pos h]
theorem recR_not (h : walkErr F P V x = 0) (h1 : x.done = false) : recR F P V x = ([], 11) := by unfold recR; rw [if_neg (by simpa using h), if_pos h1]
theorem recR_bad (h : walkErr F P V x = 0) (h2 : x.path.any (recBad F P V) = true) : recR F P V x = ([], 11) := by
  unfold recR; rw [if_neg (by simpa using h), h2, if_pos rfl, ite_self]
theorem recR_ok (h : walkErr F P V x = 0) (h1 : x.done = true) (h2 : x.path.any (recBad F P V) = false) : recR F P V x = (recTo F P V x.path, 0) := by
  unfold recR; rw [if_neg (by simpa using h), if_neg (by rw [h1]; decide), h2, if_neg (by decide)]
theorem recL_next {fs : List ByteArray} {k : Nat} {s : ByteArray} {v : Val} (h : fs[k]? = some s) (hv : valOf F V s = v) : recL F V (fs.take (k + 1)) = recL F V (fs.take k) ++ [⟨s, noVal, v⟩] := by
  unfold recL; rw [List.take_add_one, h, List.map_append, ← hv]; rfl
theorem recL_len (fs : List ByteArray) : (recL F V fs).length = fs.length := List.length_map _
theorem recTo_next {path : List Int} {k : Nat} {p : Int} (h : path[k]? = some p) : recTo F P V (path.take (k + 1)) = recTo F P V (path.take k) ++ recL F V (fsOf P p) := by
  unfold recTo; rw [List.take_add_one, h, List.flatMap_append]; simp
theorem recTo_len (hP : ∀ p, (fsOf P p).length ≤ 14) : ∀ path : List Int, (recTo F P V path).length ≤ 14 * path.length
  | [] => Nat.le_refl _
  | p :: l => by
    have ih := recTo_len hP l
    have h1 := hP p
    unfold recTo at *
    rw [List.flatMap_cons, List.length_append, recL_len, List.length_cons]
    omega
theorem fsOf_at {k : Nat} {p : Pag} (hp : P[k]? = some p) : fsOf P (k : Int) = p.fields := by unfold fsOf; rw [pageFs_at hp]; rfl
theorem fsOf_in {p : Int} {s : ByteArray} (h : s ∈ fsOf P p) : ∃ (k : Nat) (g : Pag), P[k]? = some g ∧ s ∈ g.fields := by
  unfold fsOf pageFs at h
  split at h
  · cases h
  · cases hg : P[p.toNat]? with
    | none => rw [hg] at h; cases h
    | some g => rw [hg] at h; exact ⟨_, g, hg, h⟩
theorem fsOf_len (he : formErr F P = 0) (p : Int) : (fsOf P p).length ≤ 14 := by
  unfold fsOf pageFs
  split
  · exact Nat.zero_le _
  · cases hg : P[p.toNat]? with
    | none => exact Nat.zero_le _
    | some g =>
      have h1 := page_fields_len (formErr_pages he) hg
      have h2 := (fieldsErr_all (formErr_flds he)).1
      show g.fields.length ≤ 14
      omega
/-- With the walk also the start of a walk is right. -/
theorem walkErr_w0 (h : walkErr F P V x = 0) : walkErr F P V ⟨0, [], false⟩ = 0 := by
  obtain ⟨h1, h2, h3, _⟩ := walkErr_zero h
  rw [walkErr_walk h1 h2 h3]
  have hp := (pagesErr_len (formErr_pages h1)).1
  have e : walkOk P.length ⟨0, [], false⟩ = true := by
    rw [walkOk_end]
    · show (false == decide ((0 : Int) = P.length)) = true
      rw [decide_eq_false (by omega)]; rfl
    · show firstErr (stepErr P.length [0]) 1 = 0
      show stepErr P.length [0] 0 = 0
      rw [stepErr_at (p := 0) rfl, if_neg]
      simp only [prevAt]; omega
  rw [e]; rfl
theorem lackL_pos (fs : List ByteArray) : decide (0 < ((lackL F V fs).length : Int)) = fs.any (lacks F V) := by
  unfold lackL
  induction fs with
  | nil => rfl
  | cons a r ih =>
    rw [List.any_cons, List.filter_cons]
    cases lacks F V a
    · simpa using ih
    · simp
theorem recR_in {V : List Val} (hV : ∀ v ∈ V, v.wf) (hs : ∀ g ∈ P, ∀ s ∈ g.fields, inS s) : ∀ a ∈ (recR F P V x).1, a.wf := by
  have hn : noVal.wf := by unfold noVal Val.wf inI inS; exact ⟨by decide +kernel, by decide +kernel, by decide⟩
  intro a ha
  by_cases he : walkErr F P V x = 0
  · cases hd : x.done
    · rw [recR_not he hd] at ha; cases ha
    · cases hb : x.path.any (recBad F P V)
      · rw [recR_ok he hd hb] at ha
        obtain ⟨p, _, hp⟩ := List.mem_flatMap.1 ha
        obtain ⟨s, hs1, rfl⟩ := List.mem_map.1 hp
        obtain ⟨k, g, hg, hs2⟩ := fsOf_in hs1
        refine ⟨hs g (List.mem_of_getElem? hg) s hs2, hn, ?_⟩
        show (valOf F V s).wf
        unfold valOf
        cases hq : V[fieldAt F s]? with
        | none => exact hn
        | some v => exact hV v (List.mem_of_getElem? hq)
      · rw [recR_bad he hb] at ha; cases ha
  · rw [recR_err he] at ha; cases ha
theorem recR_len (x : Wlk) : (recR F P V x).1.length ≤ 84 := by
  by_cases he : walkErr F P V x = 0
  · cases hd : x.done
    · rw [recR_not he hd]; exact Nat.zero_le _
    · cases hb : x.path.any (recBad F P V)
      · rw [recR_ok he hd hb]
        have h1 := recTo_len (F := F) (V := V) (fsOf_len (walkErr_zero he).1) x.path
        have h2 := walkOk_len (walkErr_zero he).2.2.2
        have h3 := (pagesErr_len (formErr_pages (walkErr_zero he).1)).2
        show (recTo F P V x.path).length ≤ 84
        omega
      · rw [recR_bad he hb]; exact Nat.zero_le _
  · rw [recR_err he]; exact Nat.zero_le _
end
end Go.Proofs.YtbhkpepinogigaaGreat
