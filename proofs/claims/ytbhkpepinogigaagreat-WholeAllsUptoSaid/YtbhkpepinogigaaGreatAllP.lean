/- All values of a form: by the order of the ranks, and round by round. Plain laws. -/
import Derived.Test.YtbhkpepinogigaaGreatOne
import Derived.Test.YtbhkpepinogigaaGreatOrc
import Derived.Test.YtbhkpepinogigaaGreatOrdF
import Derived.Test.YtbhkpepinogigaaGreatNavQ
namespace Go.Proofs.YtbhkpepinogigaaGreat
open Go.RowKit

def namedF (F : List Fld) (vs : List Val) : List Fct := List.zipWith (fun f v => ⟨f.name, noVal, v⟩) F vs
theorem namedF_at {F : List Fld} {vs : List Val} {i : Nat} {f : Fld} {v : Val} (hf : (F)[i]? = some f) (hv : vs[i]? = some v) : (namedF F vs)[i]? = some ⟨f.name, noVal, v⟩ := by
  unfold namedF; rw [List.getElem?_zipWith, hf, hv]
theorem namedF_len {F : List Fld} {vs : List Val} (h : vs.length = F.length) : (namedF F vs).length = F.length := by unfold namedF; rw [List.length_zipWith, h, Nat.min_self]
theorem namedF_mem {F : List Fld} {vs : List Val} {x : Fct} (h : x ∈ namedF F vs) : ∃ (i : Nat) (f : Fld) (v : Val), (F)[i]? = some f ∧ vs[i]? = some v ∧ x = ⟨f.name, noVal, v⟩ := by
  obtain ⟨i, hi, rfl⟩ := List.mem_iff_getElem.1 h
  have hi' := hi
  unfold namedF at hi'
  rw [List.length_zipWith] at hi'
  have hf : (F)[i]? = some (F)[i] := List.getElem?_eq_getElem (by omega)
  have hv : vs[i]? = some vs[i] := List.getElem?_eq_getElem (by omega)
  refine ⟨i, _, _, hf, hv, ?_⟩
  have := namedF_at hf hv
  rw [List.getElem?_eq_getElem hi] at this
  exact Option.some.inj this
theorem factV_named {F : List Fld} {vs : List Val} (h : fieldsErr F = 0) {i : Nat} {f : Fld} {v : Val} (hf : (F)[i]? = some f) (hv : vs[i]? = some v) : factV (namedF F vs) f.name = some v := by
  unfold factV
  rw [find_at0 (k := i) (x := ⟨f.name, noVal, v⟩) ?_ (namedF_at hf hv) (by simp [sameName])]
  · rfl
  · rw [List.any_eq_false]
    intro x hx hs
    have h2 := ((fieldsErr_all h).2 i f hf).2.1
    rw [List.any_eq_false] at h2
    unfold namedF at hx
    rw [List.take_zipWith] at hx
    obtain ⟨j, g, u, hg, hu, rfl⟩ := namedF_mem (F := F.take i) (vs := vs.take i) hx
    exact h2 g (List.mem_of_getElem? hg) (by simpa [hasName, sameName] using hs)
mutual
theorem evX_congr {l l' : List Fct} : ∀ x : Exp, (∀ s ∈ askN x, factV l s = factV l' s) → evX l x = evX l' x
  | .mk op v nm args => by
    intro h
    rw [evX, evX]
    by_cases h1 : op = 1
    · rw [if_pos h1, if_pos h1]
    rw [if_neg h1, if_neg h1]
    by_cases h2 : op = 2
    · rw [if_pos h2, if_pos h2, h nm (by rw [askN_eq]; simp [Exp.op, Exp.name, h2])]
    rw [if_neg h2, if_neg h2, evL_congr args fun s hs => h s (by rw [askN_eq]; exact List.mem_append.2 (.inr hs))]
theorem evL_congr {l l' : List Fct} : ∀ xs : List Exp, (∀ s ∈ askNL xs, factV l s = factV l' s) → evL l xs = evL l' xs
  | [] => by intro _; rw [evL, evL]
  | a :: r => by
    intro h
    rw [evL, evL, evX_congr a fun s hs => h s (by rw [askNL]; exact List.mem_append.2 (.inl hs)), evL_congr r fun s hs => h s (by rw [askNL]; exact List.mem_append.2 (.inr hs))]
end
theorem oneV_congr {f : Fld} {ins orc l l' : List Fct} (h1 : factsErr l = 0) (h2 : factsErr l' = 0) (h : ∀ s ∈ srcN f, factV l s = factV l' s) : oneV f ins orc l = oneV f ins orc l' := by
  unfold oneV
  by_cases hk : f.kind = 1
  · rw [if_pos hk, if_pos hk]
  have e : evalRes l f.source = evalRes l' f.source := by
    unfold evalRes
    by_cases he : exprErr f.source = 0
    · rw [if_neg (by simpa using he), if_neg (by simpa using h1), if_neg (by simpa using he), if_neg (by simpa using h2), evX_congr f.source fun s hs => h s (by unfold srcN; rw [if_neg hk, rise_mem]; exact hs)]
    · rw [if_pos he, if_pos he]
  rw [if_neg hk, if_neg hk, e]
theorem factsErr_zero {l : List Fct} (h : ∀ x ∈ l, valCheck x.has = 0) : factsErr l = 0 := by
  unfold factsErr
  refine firstErr_zero _ fun k hk => ?_
  rw [hasErr_at (List.getElem?_eq_getElem hk)]
  exact h _ (List.getElem_mem hk)
/-- A field, inputs and answers that are right: what is made of them may be. -/
def FldOk (f : Fld) : Prop := (1 ≤ f.kind ∧ f.kind ≤ 3) ∧ (1 ≤ f.type ∧ f.type ≤ 3) ∧ (f.kind ≠ 1 → exprErr f.source = 0)
def HasOk (l : List Fct) : Prop := ∀ x ∈ l, valCheck x.has = 0
theorem valCheck_type {t : Int} (h : 1 ≤ t ∧ t ≤ 3) : valCheck ⟨t, 0, ⟨#[]⟩⟩ = 0 := by
  rcases (by omega : t = 1 ∨ t = 2 ∨ t = 3) with rfl | rfl | rfl <;> decide +kernel
theorem pendV_ok : valCheck pendV = 0 := by decide +kernel
theorem oneV_ok {f : Fld} {ins orc kn : List Fct} (hf : FldOk f) (h1 : HasOk ins) (h2 : HasOk orc) (h3 : factsErr kn = 0) : valCheck (oneV f ins orc kn) = 0 := by
  unfold oneV
  by_cases hk : f.kind = 1
  · rw [if_pos hk]
    unfold inV
    cases hq : factV ins f.name with
    | none => rw [Option.getD_none, Int.zero_add]; exact valCheck_type hf.2.1
    | some v => exact factV_ok (l := ins) h1 hq
  rw [if_neg hk]
  have hev : valCheck (evalRes kn f.source).1 = 0 := by
    rw [evalRes_ok (hf.2.2 hk) h3]
    exact evX_ok (factsErr_ok h3) _ _ (Nat.le_refl _) (prt_of_exprErr (hf.2.2 hk))
  by_cases hl : f.kind = 3
  · rw [if_pos hl]
    unfold askV
    cases valKnown (evalRes kn f.source).1
    · exact hev
    · rw [cond_true]
      unfold askL
      cases hq : orc.find? (askHit f.name (evalRes kn f.source).1) with
      | none => exact pendV_ok
      | some x => exact h2 x (List.mem_of_find?_eq_some hq)
  · rw [if_neg hl]; exact hev
def rnd (F : List Fld) (ins orc : List Fct) (vs : List Val) : List Val := F.map fun f => oneV f ins orc (namedF F vs)
def rnds (F : List Fld) (ins orc : List Fct) : Nat → List Val
  | 0 => List.replicate F.length pendV
  | k + 1 => rnd F ins orc (rnds F ins orc k)
theorem rnds_len (F : List Fld) (ins orc : List Fct) : ∀ k, (rnds F ins orc k).length = F.length
  | 0 => by simp [rnds]
  | k + 1 => by simp [rnds, rnd]
section
variable {F : List Fld} {ins orc : List Fct}
theorem rnds_at {i k : Nat} {f : Fld} (hf : (F)[i]? = some f) : (rnds F ins orc (k + 1))[i]? = some (oneV f ins orc (namedF F (rnds F ins orc k))) := by
  rw [rnds, rnd, List.getElem?_map, hf]; rfl
/-- Fields, inputs and answers that are right. -/
def AllOk (F : List Fld) (ins orc : List Fct) : Prop := (rankR F).2.2 = 0 ∧ (∀ f ∈ F, FldOk f) ∧ HasOk ins ∧ HasOk orc
theorem named_facts {vs : List Val} (h : ∀ v ∈ vs, valCheck v = 0) : factsErr (namedF F vs) = 0 := by
  refine factsErr_zero fun x hx => ?_
  obtain ⟨i, f, v, _, hv, rfl⟩ := namedF_mem hx
  exact h v (List.mem_of_getElem? hv)
theorem rnds_ok (h : AllOk F ins orc) : ∀ k, ∀ v ∈ rnds F ins orc k, valCheck v = 0
  | 0 => fun v hv => by rw [rnds] at hv; rw [List.eq_of_mem_replicate hv]; exact pendV_ok
  | k + 1 => fun v hv => by
    rw [rnds, rnd] at hv
    obtain ⟨f, hf, rfl⟩ := List.mem_map.1 hv
    exact oneV_ok (h.2.1 f hf) h.2.2.1 h.2.2.2 (named_facts (rnds_ok h k))
theorem rank_some (h : (rankR F).2.2 = 0) {i : Nat} (hi : i < F.length) : ∃ r, rkL (needL F) F.length i = some r ∧ r < F.length ∧ outAt (rankO F) i = r := by
  have h1 := (rankR_range h i hi).1
  have h2 := sweepsO_is (needL_lt (rankR_zero h).1) hi
  cases hr : rkL (needL F) F.length i with
  | none => rw [hr] at h2; unfold rankO at h1; rw [h2] at h1; exact absurd h1 (by decide)
  | some r => rw [hr] at h2; exact ⟨r, rfl, (rkL_inv hr).1, h2⟩
/-- What a field asks for. -/
theorem src_at (h : (rankR F).2.2 = 0) {i : Nat} {f : Fld} (hf : (F)[i]? = some f) {s : ByteArray} (hs : s ∈ srcN f) : fieldAt F s ∈ ndAt (needL F) i ∧ ∃ g, (F)[fieldAt F s]? = some g ∧ g.name = s := by
  refine ⟨?_, (fieldAt_some (((fieldsErr_all (rankR_zero h).1).2 i f hf).2.2.2.2 s hs)).2⟩
  rw [ndAt_need hf]
  exact List.mem_map.2 ⟨s, hs, rfl⟩
theorem rnds_stab (h : AllOk F ins orc) : ∀ (r i : Nat) (f : Fld), (F)[i]? = some f → rkL (needL F) (r + 1) i = some r → ∀ k, r < k → (rnds F ins orc k)[i]? = (rnds F ins orc (r + 1))[i]? := by
  intro r
  induction r using Nat.strongRecOn with
  | ind r ih =>
    intro i f hf hr k hk
    obtain ⟨k, rfl⟩ : ∃ m, k = m + 1 := ⟨k - 1, by omega⟩
    rw [rnds_at hf, rnds_at hf]
    congr 1
    refine oneV_congr (named_facts (rnds_ok h k)) (named_facts (rnds_ok h r)) fun s hs => ?_
    obtain ⟨h1, g, hg, rfl⟩ := src_at h.1 hf hs
    obtain ⟨q, hq1, hq2⟩ := rk_need hr h1
    have hq3 := rkL_at hq1
    have e1 := ih q hq2 _ g hg hq3 k (by omega)
    have e2 := ih q hq2 _ g hg hq3 r hq2
    have e3 := rnds_at (ins := ins) (orc := orc) (k := q) hg
    rw [factV_named (rankR_zero h.1).1 hg (e1.trans e3), factV_named (rankR_zero h.1).1 hg (e2.trans e3)]
/-- What the values are at last. -/
def finV (F : List Fld) (ins orc : List Fct) : List Val := rnds F ins orc F.length
theorem finV_at (h : AllOk F ins orc) {i : Nat} {f : Fld} (hf : (F)[i]? = some f) : (finV F ins orc)[i]? = some (oneV f ins orc (namedF F (finV F ins orc))) := by
  have hi : i < F.length := (List.getElem?_eq_some_iff.1 hf).1
  obtain ⟨r, hr, hrn, _⟩ := rank_some h.1 hi
  have h1 := rkL_at hr
  unfold finV
  rw [rnds_stab h r i f hf h1 F.length hrn, ← rnds_stab h r i f hf h1 (F.length + 1) (by omega), rnds_at hf]
theorem finV_ok (h : AllOk F ins orc) : ∀ v ∈ finV F ins orc, valCheck v = 0 := rnds_ok h _
theorem finV_len : (finV F ins orc).length = F.length := rnds_len F ins orc _
/-- What the program has met behind j places of the order. -/
def knownTo (F : List Fld) (vs : List Val) (ord : List Nat) (j : Nat) : List Fct := (ord.take j).map fun i => ⟨nameAt F i, noVal, vs[i]?.getD noVal⟩
theorem nameAt_some {i : Nat} {f : Fld} (hf : (F)[i]? = some f) : nameAt F i = f.name := by unfold nameAt; rw [hf]; rfl
theorem factV_known (he : fieldsErr F = 0) {vs : List Val} {ord : List Nat} {j i : Nat} {f : Fld} {v : Val} (hlt : ∀ k ∈ ord, k < F.length) (hf : (F)[i]? = some f) (hv : vs[i]? = some v) (hm : i ∈ ord.take j) : factV (knownTo F vs ord j) f.name = some v := by
  unfold factV knownTo
  rw [List.find?_map]
  have hp : ∀ k ∈ ord.take j, sameName f.name (⟨nameAt F k, noVal, vs[k]?.getD noVal⟩ : Fct) = true ↔ k = i := by
    intro k hk
    have hkl := hlt k (List.mem_of_mem_take hk)
    have hg : (F)[k]? = some (F)[k] := List.getElem?_eq_getElem hkl
    rw [nameAt_some hg]
    constructor
    · intro hs
      have hn : (F)[k].name = f.name := toList_inj (by simpa [sameName] using hs)
      have e1 := fieldAt_name he hg
      have e2 := fieldAt_name he hf
      rw [hn] at e1
      omega
    · rintro rfl
      rw [hf] at hg
      rw [← Option.some.inj hg]
      simp [sameName]
  cases hq : (ord.take j).find? (sameName f.name ∘ fun i => (⟨nameAt F i, noVal, vs[i]?.getD noVal⟩ : Fct)) with
  | none =>
    rw [List.find?_eq_none] at hq
    exact absurd ((hp i hm).2 rfl) (hq i hm)
  | some k =>
    have h1 := List.find?_some hq
    have h2 := List.mem_of_find?_eq_some hq
    have := (hp k h2).1 h1
    subst this
    simp [hv]
theorem known_facts {vs : List Val} (h : ∀ v ∈ vs, valCheck v = 0) {ord : List Nat} (hlt : ∀ k ∈ ord, k < vs.length) (j : Nat) : factsErr (knownTo F vs ord j) = 0 := by
  refine factsErr_zero fun x hx => ?_
  obtain ⟨i, hi, rfl⟩ := List.mem_map.1 hx
  have hil := hlt i (List.mem_of_mem_take hi)
  simp only [List.getElem?_eq_getElem hil, Option.getD_some]
  exact h _ (List.getElem_mem hil)
theorem ordF_lt {k : Nat} (h : k ∈ ordF F) : k < F.length := (ordK_mem _ _ _).1 h
/-- One step of the program: the value that it reckons is the last one. -/
theorem prog_step (h : AllOk F ins orc) {j x : Nat} {f : Fld} (hx : (ordF F)[j]? = some x) (hf : (F)[x]? = some f) :
    (finV F ins orc)[x]? = some (oneV f ins orc (knownTo F (finV F ins orc) (ordF F) j)) := by
  rw [finV_at h hf]
  congr 1
  have he := (rankR_zero h.1).1
  refine oneV_congr (named_facts (finV_ok h)) (known_facts (finV_ok h) (fun k hk => by rw [finV_len]; exact ordF_lt hk) j) fun s hs => ?_
  obtain ⟨h1, g, hg, rfl⟩ := src_at h.1 hf hs
  have hgl : fieldAt F g.name < F.length := (List.getElem?_eq_some_iff.1 hg).1
  have hv : (finV F ins orc)[fieldAt F g.name]? = some ((finV F ins orc)[fieldAt F g.name]'(by rw [finV_len]; exact hgl)) := List.getElem?_eq_getElem _
  obtain ⟨r, hr, hrn, hr1⟩ := rank_some h.1 (List.getElem?_eq_some_iff.1 hf).1
  obtain ⟨q, hq1, hq2⟩ := rk_need hr h1
  obtain ⟨q', hq3, _, hq4⟩ := rank_some h.1 hgl
  have hqe := rkL_unique hq1 hq3
  subst hqe
  have ha := ord_ahead (O := outAt (rankO F)) (N := F.length) hx hgl (by omega)
  rw [factV_named he hg hv, factV_known he (fun k hk => ordF_lt hk) hg hv ha]
/-- The values as they fill up. -/
def outTo (F : List Fld) (vs : List Val) (ord : List Nat) : Nat → List Val
  | 0 => List.replicate F.length noVal
  | j + 1 => match ord[j]? with | some i => (outTo F vs ord j).set i (vs[i]?.getD noVal) | none => outTo F vs ord j
theorem outTo_len (vs : List Val) (ord : List Nat) : ∀ j, (outTo F vs ord j).length = F.length
  | 0 => by simp [outTo]
  | j + 1 => by
    rw [outTo]
    split
    · rw [List.length_set]; exact outTo_len vs ord j
    · exact outTo_len vs ord j
theorem outTo_next {vs : List Val} {ord : List Nat} {j i : Nat} {v : Val} (h : ord[j]? = some i) (hv : vs[i]? = some v) : outTo F vs ord (j + 1) = (outTo F vs ord j).set i v := by
  rw [outTo, h]
  show (outTo F vs ord j).set i (vs[i]?.getD noVal) = _
  rw [hv]; rfl
theorem outTo_at {vs : List Val} (hl : vs.length = F.length) {ord : List Nat} {i : Nat} (hi : i < F.length) : ∀ j, i ∈ ord.take j → (outTo F vs ord j)[i]? = vs[i]?
  | 0, h => absurd h (by simp)
  | j + 1, h => by
    rw [List.take_add_one] at h
    have hv : vs[i]? = some (vs[i]'(by omega)) := List.getElem?_eq_getElem _
    cases hx : ord[j]? with
    | none =>
      rw [hx] at h
      have h' : i ∈ ord.take j := by simpa using h
      rw [outTo, hx]
      exact outTo_at hl hi j h'
    | some x =>
      rw [outTo, hx]
      show ((outTo F vs ord j).set x (vs[x]?.getD noVal))[i]? = vs[i]?
      rw [List.getElem?_set]
      by_cases he : x = i
      · subst he
        rw [if_pos rfl, if_pos (by rw [outTo_len]; exact hi), hv]
        rfl
      · rw [if_neg he]
        rw [hx] at h
        have h' : i ∈ ord.take j := by
          rcases List.mem_append.1 h with h | h
          · exact h
          · simp at h; exact absurd h.symm he
        exact outTo_at hl hi j h'
theorem outTo_end {vs : List Val} (hl : vs.length = F.length) : outTo F vs (ordF F) F.length = vs := by
  refine List.ext_getElem? fun i => ?_
  rcases Nat.lt_or_ge i F.length with hi | hi
  · refine outTo_at hl hi _ ?_
    rw [List.take_of_length_le (by unfold ordF; rw [ordK_len]; exact Nat.le_refl _)]
    exact (ordK_mem _ _ _).2 hi
  · rw [List.getElem?_eq_none (by rw [outTo_len]; exact hi), List.getElem?_eq_none (by omega)]
end
end Go.Proofs.YtbhkpepinogigaaGreat
