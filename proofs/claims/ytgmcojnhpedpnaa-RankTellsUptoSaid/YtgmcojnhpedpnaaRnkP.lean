/- Which fields hang on which: the plain functions. No program text is walked here. -/
import Derived.Test.YtgmcojnhpedpnaaFCk
import Derived.Test.YtgmcojnhpedpnaaNamP
namespace Go.Proofs.Ytgmcojnhpedpnaa

/-- What field i asks for. -/
def ndAt (nd : List (List Nat)) (i : Nat) : List Nat := nd[i]?.getD []
/-- Level by level: the ranks that are found in k levels. -/
def rkL (nd : List (List Nat)) : Nat → Nat → Option Nat
  | 0, _ => none
  | k + 1, i => match rkL nd k i with
    | some n => some n
    | none => if (ndAt nd i).all (fun s => (rkL nd k s).isSome) then some k else none
theorem rkL_succ {nd : List (List Nat)} {k i n : Nat} (h : rkL nd k i = some n) : rkL nd (k + 1) i = some n := by
  rw [rkL, h]
theorem rkL_mono {nd : List (List Nat)} {k i n : Nat} (h : rkL nd k i = some n) : ∀ m, k ≤ m → rkL nd m i = some n := by
  intro m hm
  induction m with
  | zero => rw [Nat.le_zero.1 hm] at h; exact h
  | succ m ih =>
    rcases Nat.lt_or_ge k (m + 1) with h1 | h1
    · exact rkL_succ (ih (by omega))
    · rw [show k = m + 1 by omega] at h; exact h
theorem rkL_none {nd : List (List Nat)} {k i : Nat} (h : rkL nd k i = none) {m : Nat} (hm : m ≤ k) : rkL nd m i = none := by
  cases hq : rkL nd m i with
  | none => rfl
  | some n => rw [rkL_mono hq k hm] at h; cases h
theorem rkL_inv {nd : List (List Nat)} {i n : Nat} : ∀ {k : Nat}, rkL nd k i = some n → n < k ∧ rkL nd n i = none ∧ (∀ s ∈ ndAt nd i, (rkL nd n s).isSome = true)
  | 0, h => by cases h
  | k + 1, h => by
    rw [rkL] at h
    cases hq : rkL nd k i with
    | some m =>
      rw [hq] at h
      cases h
      obtain ⟨h1, h2⟩ := rkL_inv hq
      exact ⟨by omega, h2⟩
    | none =>
      rw [hq] at h
      dsimp only at h
      split at h
      · rename_i ha
        cases h
        exact ⟨by omega, hq, fun s hs => (List.all_eq_true.1 ha) s hs⟩
      · cases h
theorem rkL_mk {nd : List (List Nat)} {i n : Nat} (h : rkL nd n i = none) (ha : ∀ s ∈ ndAt nd i, (rkL nd n s).isSome = true) : rkL nd (n + 1) i = some n := by
  rw [rkL, h]
  dsimp only
  rw [if_pos (List.all_eq_true.2 ha)]
theorem rkL_at {nd : List (List Nat)} {i n k : Nat} (h : rkL nd k i = some n) : rkL nd (n + 1) i = some n :=
  rkL_mk (rkL_inv h).2.1 (rkL_inv h).2.2
theorem rkL_unique {nd : List (List Nat)} {i n m k j : Nat} (h : rkL nd k i = some n) (h' : rkL nd j i = some m) : n = m := by
  have h1 := rkL_mono h (k + j) (by omega)
  have h2 := rkL_mono h' (k + j) (by omega)
  rw [h1] at h2
  exact Option.some.inj h2
theorem short_of_nodup : ∀ (N : Nat) (l : List Nat), l.Nodup → (∀ x ∈ l, x < N) → l.length ≤ N
  | 0, [], _, _ => Nat.le_refl _
  | 0, a :: l, _, h => absurd (h a List.mem_cons_self) (Nat.not_lt_zero _)
  | N + 1, l, hn, h => by
    have h1 := short_of_nodup N (l.erase N) (hn.erase N) (fun x hx => by
      rw [hn.mem_erase_iff] at hx
      have := h x hx.2
      omega)
    by_cases hm : N ∈ l
    · rw [List.length_erase_of_mem hm] at h1; omega
    · rw [List.erase_of_not_mem hm] at h1; omega
/-- A rank k has one field for each rank below. -/
theorem rkL_chain {nd : List (List Nat)} {N : Nat} (hN : ∀ i, ∀ s ∈ ndAt nd i, s < N) : ∀ (k i : Nat), i < N → rkL nd (k + 1) i = some k →
    ∃ L : List Nat, L.length = k + 1 ∧ L.Nodup ∧ ∀ x ∈ L, x < N ∧ ∃ m, m ≤ k ∧ rkL nd (k + 1) x = some m
  | 0, i, hi, h => ⟨[i], rfl, by simp, fun x hx => by simp at hx; subst hx; exact ⟨hi, 0, Nat.le_refl _, h⟩⟩
  | k + 1, i, hi, h => by
    obtain ⟨_, h1, h2⟩ := rkL_inv h
    have hk : rkL nd k i = none := rkL_none h1 (by omega)
    have hex : ∃ s ∈ ndAt nd i, rkL nd k s = none := by
      apply Classical.byContradiction
      intro hno
      have : ∀ s ∈ ndAt nd i, (rkL nd k s).isSome = true := fun s hs => by
        cases hq : rkL nd k s with
        | some n => rfl
        | none => exact absurd ⟨s, hs, hq⟩ hno
      rw [rkL_mk hk this] at h1
      cases h1
    obtain ⟨s, hs, hsn⟩ := hex
    obtain ⟨n, hn⟩ := Option.isSome_iff_exists.1 (h2 s hs)
    have hnk : n = k := by
      have h3 := (rkL_inv hn).1
      rcases Nat.lt_or_ge n k with h4 | h4
      · have := rkL_mono (rkL_at hn) k (by omega)
        rw [this] at hsn; cases hsn
      · omega
    subst hnk
    obtain ⟨L, l1, l2, l3⟩ := rkL_chain hN n s (hN i s hs) hn
    refine ⟨i :: L, by simp [l1], ?_, ?_⟩
    · rw [List.nodup_cons]
      refine ⟨fun hm => ?_, l2⟩
      obtain ⟨_, m, hm1, hm2⟩ := l3 i hm
      rw [hm2] at h1; cases h1
    · intro x hx
      rcases List.mem_cons.1 hx with rfl | hx
      · exact ⟨hi, n + 1, Nat.le_refl _, h⟩
      · obtain ⟨hx1, m, hm1, hm2⟩ := l3 x hx
        exact ⟨hx1, m, by omega, rkL_succ hm2⟩
theorem rkL_top {nd : List (List Nat)} {N : Nat} (hN : ∀ i, ∀ s ∈ ndAt nd i, s < N) {k i n : Nat} (hi : i < N) (h : rkL nd k i = some n) : rkL nd N i = some n := by
  obtain ⟨L, l1, l2, l3⟩ := rkL_chain hN n i hi (rkL_at h)
  have := short_of_nodup N L l2 (fun x hx => (l3 x hx).1)
  exact rkL_mono (rkL_at h) N (by omega)

/-- The greatest rank of those that are asked for, and one more; below 0, if one has none yet. -/
def outAt (out : List Int) (k : Nat) : Int := out[k]?.getD 0
def maxO (out : List Int) (l : List Nat) : Int := l.foldl (fun m k => max m (outAt out k + 1)) 0
def mostO (out : List Int) (l : List Nat) : Int := if l.any (fun k => decide (outAt out k < 0)) then -1 else maxO out l
def stepO (nd : List (List Nat)) (out : List Int) (i : Nat) : List Int := out.set i (max (outAt out i) (mostO out (ndAt nd i)))
def sweepTo (nd : List (List Nat)) (out : List Int) : Nat → List Int
  | 0 => out
  | i + 1 => stepO nd (sweepTo nd out i) i
def sweepsO (nd : List (List Nat)) (N : Nat) : Nat → List Int
  | 0 => List.replicate N (-1)
  | t + 1 => sweepTo nd (sweepsO nd N t) N
theorem maxO_ge (out : List Int) : ∀ (l : List Nat) (m : Int), m ≤ l.foldl (fun m k => max m (outAt out k + 1)) m ∧ ∀ s ∈ l, outAt out s + 1 ≤ l.foldl (fun m k => max m (outAt out k + 1)) m
  | [], m => ⟨Int.le_refl _, fun s h => absurd h List.not_mem_nil⟩
  | a :: l, m => by
    obtain ⟨h1, h2⟩ := maxO_ge out l (max m (outAt out a + 1))
    rw [List.foldl_cons]
    refine ⟨by omega, fun s hs => ?_⟩
    rcases List.mem_cons.1 hs with rfl | hs
    · omega
    · exact h2 s hs
theorem maxO_is (out : List Int) : ∀ (l : List Nat) (m : Int), l.foldl (fun m k => max m (outAt out k + 1)) m = m ∨ ∃ s ∈ l, l.foldl (fun m k => max m (outAt out k + 1)) m = outAt out s + 1
  | [], m => .inl rfl
  | a :: l, m => by
    rw [List.foldl_cons]
    rcases maxO_is out l (max m (outAt out a + 1)) with h | ⟨s, hs, h⟩
    · rw [h]
      rcases Int.le_total m (outAt out a + 1) with h1 | h1
      · exact .inr ⟨a, List.mem_cons_self, by omega⟩
      · exact .inl (by omega)
    · exact .inr ⟨s, List.mem_cons_of_mem _ hs, h⟩
/-- What is found so far is right. -/
def GoodO (nd : List (List Nat)) (N : Nat) (out : List Int) : Prop := out.length = N ∧ ∀ i, i < N → outAt out i = -1 ∨ ∃ n k : Nat, outAt out i = n ∧ rkL nd k i = some n
theorem mostO_good {nd : List (List Nat)} {N : Nat} (hN : ∀ i, ∀ s ∈ ndAt nd i, s < N) {out : List Int} (h : GoodO nd N out) (i : Nat) :
    (mostO out (ndAt nd i) = -1 ∧ ∃ s ∈ ndAt nd i, outAt out s < 0) ∨ ∃ n k : Nat, mostO out (ndAt nd i) = n ∧ rkL nd k i = some n := by
  unfold mostO
  split
  · rename_i ha
    obtain ⟨s, hs, h1⟩ := List.any_eq_true.1 ha
    exact .inl ⟨rfl, s, hs, by simpa using h1⟩
  · rename_i ha
    right
    have hall : ∀ s ∈ ndAt nd i, ∃ n k : Nat, outAt out s = n ∧ rkL nd k s = some n := fun s hs => by
      rcases h.2 s (hN i s hs) with h1 | h1
      · exfalso
        apply ha
        exact List.any_eq_true.2 ⟨s, hs, by rw [h1]; rfl⟩
      · exact h1
    obtain ⟨g1, g2⟩ := maxO_ge out (ndAt nd i) 0
    have g3 := maxO_is out (ndAt nd i) 0
    change (0 : Int) ≤ maxO out (ndAt nd i) at g1
    change ∀ s ∈ ndAt nd i, outAt out s + 1 ≤ maxO out (ndAt nd i) at g2
    change maxO out (ndAt nd i) = 0 ∨ ∃ s ∈ ndAt nd i, maxO out (ndAt nd i) = outAt out s + 1 at g3
    obtain ⟨M, hM⟩ := Int.eq_ofNat_of_zero_le g1
    have hsome : ∀ s ∈ ndAt nd i, (rkL nd M s).isSome = true := fun s hs => by
      obtain ⟨n, k, h1, h2⟩ := hall s hs
      have := g2 s hs
      rw [rkL_mono (rkL_at h2) M (by omega)]
      rfl
    have hMi : rkL nd M i = none := by
      cases hq : rkL nd M i with
      | none => rfl
      | some m =>
        exfalso
        obtain ⟨m1, m2, m3⟩ := rkL_inv hq
        rcases g3 with g3 | ⟨s, hs, g3⟩
        · omega
        · obtain ⟨n, k, h1, h2⟩ := hall s hs
          obtain ⟨m', hm'⟩ := Option.isSome_iff_exists.1 (m3 s hs)
          have := rkL_unique h2 hm'
          have := (rkL_inv hm').1
          omega
    exact ⟨M, M + 1, hM, rkL_mk hMi hsome⟩
theorem outAt_set (out : List Int) (i j : Nat) (v : Int) (hi : i < out.length) : outAt (out.set i v) j = if i = j then v else outAt out j := by
  unfold outAt
  rw [List.getElem?_set]
  split
  · rfl
  · rfl
theorem stepO_good {nd : List (List Nat)} {N : Nat} (hN : ∀ i, ∀ s ∈ ndAt nd i, s < N) {out : List Int} (h : GoodO nd N out) {i : Nat} (hi : i < N) : GoodO nd N (stepO nd out i) := by
  refine ⟨by simp [stepO, h.1], fun j hj => ?_⟩
  unfold stepO
  rw [outAt_set _ _ _ _ (by rw [h.1]; exact hi)]
  split
  · rename_i he
    subst he
    rcases mostO_good hN h i with ⟨h1, _⟩ | ⟨n, k, h1, h2⟩
    · rw [h1]
      rcases h.2 i hi with h3 | ⟨m, k, h3, h4⟩
      · exact .inl (by omega)
      · exact .inr ⟨m, k, by omega, h4⟩
    · rw [h1]
      rcases h.2 i hi with h3 | ⟨m, k', h3, h4⟩
      · exact .inr ⟨n, k, by omega, h2⟩
      · have := rkL_unique h2 h4
        exact .inr ⟨n, k, by omega, h2⟩
  · exact h.2 j hj
theorem stepO_ge {nd : List (List Nat)} {out : List Int} {i j : Nat} : outAt out j ≤ outAt (stepO nd out i) j := by
  unfold stepO
  rcases Nat.lt_or_ge i out.length with h | h
  · rw [outAt_set _ _ _ _ h]
    split
    · rename_i he; subst he; omega
    · exact Int.le_refl _
  · rw [List.set_eq_of_length_le h]; exact Int.le_refl _
theorem sweepTo_good {nd : List (List Nat)} {N : Nat} (hN : ∀ i, ∀ s ∈ ndAt nd i, s < N) {out : List Int} (h : GoodO nd N out) : ∀ m, m ≤ N → GoodO nd N (sweepTo nd out m) ∧
    ∀ j, outAt out j ≤ outAt (sweepTo nd out m) j
  | 0, _ => ⟨h, fun j => Int.le_refl _⟩
  | m + 1, hm => by
    obtain ⟨h1, h2⟩ := sweepTo_good hN h m (by omega)
    exact ⟨stepO_good hN h1 (by omega), fun j => Int.le_trans (h2 j) stepO_ge⟩
theorem sweepTo_next {nd : List (List Nat)} {N : Nat} (hN : ∀ i, ∀ s ∈ ndAt nd i, s < N) {out : List Int} (h : GoodO nd N out) {t : Nat} (ht : ∀ i, i < N → (rkL nd t i).isSome = true → 0 ≤ outAt out i) :
    ∀ m, m ≤ N → ∀ i, i < m → (rkL nd (t + 1) i).isSome = true → 0 ≤ outAt (sweepTo nd out m) i
  | 0, _, i, hi, _ => absurd hi (Nat.not_lt_zero _)
  | m + 1, hm, i, hi, hs => by
    by_cases he : i = m
    · subst he
      obtain ⟨g1, g2⟩ := sweepTo_good hN h i (by omega)
      have hlen : i < (sweepTo nd out i).length := by rw [g1.1]; omega
      show 0 ≤ outAt (stepO nd (sweepTo nd out i) i) i
      unfold stepO
      rw [outAt_set _ _ _ _ hlen, if_pos rfl]
      rcases mostO_good hN g1 i with ⟨h1, s, hs1, hs2⟩ | ⟨n, k, h1, h2⟩
      · exfalso
        obtain ⟨n, hn⟩ := Option.isSome_iff_exists.1 hs
        obtain ⟨n1, n2, n3⟩ := rkL_inv hn
        have h5 := n3 s hs1
        obtain ⟨q, hq⟩ := Option.isSome_iff_exists.1 h5
        have h6 := ht s (hN i s hs1) (by rw [rkL_mono hq t (by omega)]; rfl)
        have := g2 s
        omega
      · omega
    · have h1 := sweepTo_next hN h ht m (by omega) i (by omega) hs
      exact Int.le_trans h1 stepO_ge
theorem outAt_rep (N i : Nat) (hi : i < N) : outAt (List.replicate N (-1)) i = -1 := by
  unfold outAt
  rw [List.getElem?_replicate, if_pos hi]
  rfl
theorem sweepsO_good {nd : List (List Nat)} {N : Nat} (hN : ∀ i, ∀ s ∈ ndAt nd i, s < N) : ∀ t, GoodO nd N (sweepsO nd N t) ∧ ∀ i, i < N → (rkL nd t i).isSome = true → 0 ≤ outAt (sweepsO nd N t) i
  | 0 => ⟨⟨by simp [sweepsO], fun i hi => .inl (outAt_rep N i hi)⟩, fun i _ h => by simp [rkL] at h⟩
  | t + 1 => by
    obtain ⟨h1, h2⟩ := sweepsO_good hN t
    exact ⟨(sweepTo_good hN h1 N (Nat.le_refl _)).1, fun i hi hs => sweepTo_next hN h1 h2 N (Nat.le_refl _) i hi hs⟩
/-- What the sweeps find is what the levels find. -/
theorem sweepsO_is {nd : List (List Nat)} {N : Nat} (hN : ∀ i, ∀ s ∈ ndAt nd i, s < N) {i : Nat} (hi : i < N) :
    outAt (sweepsO nd N N) i = match rkL nd N i with | some n => (n : Int) | none => -1 := by
  obtain ⟨h1, h2⟩ := sweepsO_good hN N
  cases hq : rkL nd N i with
  | some n =>
    have h3 := h2 i hi (by rw [hq]; rfl)
    rcases h1.2 i hi with h4 | ⟨m, k, h4, h5⟩
    · omega
    · rw [h4, rkL_unique h5 hq]
  | none =>
    rcases h1.2 i hi with h4 | ⟨m, k, h4, h5⟩
    · exact h4
    · rw [rkL_top hN hi h5] at hq; cases hq
/-- A field without a rank asks for one without a rank. -/
theorem rkL_stuck {nd : List (List Nat)} {N : Nat} (hN : ∀ i, ∀ s ∈ ndAt nd i, s < N) {i : Nat} (hi : i < N) (h : rkL nd N i = none) : ∃ s ∈ ndAt nd i, rkL nd N s = none := by
  apply Classical.byContradiction
  intro hno
  have : ∀ s ∈ ndAt nd i, (rkL nd N s).isSome = true := fun s hs => by
    cases hq : rkL nd N s with
    | some n => rfl
    | none => exact absurd ⟨s, hs, hq⟩ hno
  have h1 := rkL_top hN hi (rkL_mk h this)
  rw [h] at h1
  cases h1
/-- The first that is asked for and has no rank. -/
def nxtC (bad : Nat → Bool) (nd : List (List Nat)) (i : Nat) : Nat := ((ndAt nd i).find? bad).getD i
/-- From one on to one that is met again. -/
def cycC (bad : Nat → Bool) (nd : List (List Nat)) : Nat → List Nat → Nat → List Nat
  | 0, path, _ => path
  | f + 1, path, i => if path.any (fun x => x == i) then path.drop (firstAt (fun x => x == i) path) else cycC bad nd f (path ++ [i]) (nxtC bad nd i)
theorem nxtC_lt {bad : Nat → Bool} {nd : List (List Nat)} {N : Nat} (hN : ∀ i, ∀ s ∈ ndAt nd i, s < N) {i : Nat} (hi : i < N) : nxtC bad nd i < N := by
  unfold nxtC
  cases hq : (ndAt nd i).find? bad with
  | none => exact hi
  | some s => exact hN i s (List.mem_of_find?_eq_some hq)
/-- A path: each once, all of them fields. -/
def PathC (N : Nat) (path : List Nat) : Prop := path.Nodup ∧ ∀ x ∈ path, x < N
theorem PathC.nil (N : Nat) : PathC N [] := ⟨List.nodup_nil, fun x h => absurd h List.not_mem_nil⟩
theorem PathC.len {N : Nat} {path : List Nat} (h : PathC N path) : path.length ≤ N := short_of_nodup N path h.1 h.2
theorem PathC.snoc {N i : Nat} {path : List Nat} (h : PathC N path) (hi : i < N) (hn : path.any (fun x => x == i) = false) : PathC N (path ++ [i]) := by
  have hn' : i ∉ path := fun hm => by
    rw [List.any_eq_false] at hn
    exact hn i hm (by simp)
  refine ⟨List.nodup_append.2 ⟨h.1, by simp, fun a ha b hb => ?_⟩, fun x hx => ?_⟩
  · simp at hb; subst hb; intro e; subst e; exact hn' ha
  · rcases List.mem_append.1 hx with hx | hx
    · exact h.2 x hx
    · simp at hx; subst hx; exact hi
theorem cycC_stop {bad : Nat → Bool} {nd : List (List Nat)} {f i : Nat} {path : List Nat} (h : path.any (fun x => x == i) = true) : cycC bad nd (f + 1) path i = path.drop (firstAt (fun x => x == i) path) := by
  rw [cycC, if_pos h]
theorem cycC_step {bad : Nat → Bool} {nd : List (List Nat)} {f i : Nat} {path : List Nat} (h : path.any (fun x => x == i) = false) : cycC bad nd (f + 1) path i = cycC bad nd f (path ++ [i]) (nxtC bad nd i) := by
  rw [cycC, if_neg (by rw [h]; decide)]

/-- What a field asks for. -/
def srcN (f : Fld) : List ByteArray := if f.kind = 1 then [] else rise (askN f.source)
def needL (l : List Fld) : List (List Nat) := l.map fun f => (srcN f).map (fieldAt l)
def rankO (l : List Fld) : List Int := sweepsO (needL l) l.length l.length
def negO (r : Int) : Bool := decide (r < 0)
def badF (l : List Fld) (i : Nat) : Bool := negO (outAt (rankO l) i)
def nameAt (l : List Fld) (i : Nat) : ByteArray := (l[i]?.map (·.name)).getD ⟨#[]⟩
def cycF (l : List Fld) : List Nat := cycC (badF l) (needL l) (l.length + 1) [] (firstAt negO (rankO l))
/-- The ranks; a cycle; what is wrong. -/
def rankR (l : List Fld) : List Int × List ByteArray × Int :=
  if fieldsErr l ≠ 0 then ([], [], fieldsErr l) else if (rankO l).any negO then ([], (cycF l).map (nameAt l), 10) else (rankO l, [], 0)

mutual
theorem tyX_asks (l : List Fld) : ∀ x : Exp, prtN x = 0 → (tyX l x).2 = 0 → ∀ s ∈ askN x, l.any (hasName s) = true
  | .mk op v nm args, hp, ht, s, hs => by
    obtain ⟨p1, p2, p3, p4⟩ := prt_ok hp
    have p3' : (args.length : Int) = argsN op := p3
    have p4' : ∀ a ∈ args, prtN a = 0 := p4
    by_cases h2 : op = 2
    · have h0 : args = [] := by
        have : argsN op = 0 := by rw [h2]; rfl
        exact List.eq_nil_of_length_eq_zero (by omega)
      subst h0
      rw [tyX_ref l (x := .mk op v nm []) h2] at ht
      have ht' : (match fieldTy l nm with | some t => (t, (0 : Int)) | none => (0, 5)).2 = 0 := ht
      simp [askN, h2, askNL] at hs
      subst hs
      unfold fieldTy at ht'
      cases hf : l.find? (hasName s) with
      | none => rw [hf] at ht'; cases ht'
      | some f => exact List.any_eq_true.2 ⟨f, List.mem_of_find?_eq_some hf, List.find?_some hf⟩
    · have hs' : s ∈ askNL args := by simpa [askN, h2] using hs
      by_cases h1 : op = 1
      · have h0 : args = [] := by
          have : argsN op = 0 := by rw [h1]; rfl
          exact List.eq_nil_of_length_eq_zero (by omega)
        rw [h0] at hs'
        simp [askNL] at hs'
      · rw [tyX_app l (x := .mk op v nm args) h1 h2] at ht
        cases hq : ((Exp.mk op v nm args).args.map (tyX l)).find? (fun r => r.2 != 0) with
        | some r =>
          rw [hq] at ht
          have := List.find?_some hq
          simp at this
          exact absurd ht this
        | none =>
          refine tyL_asks l args p4' (fun a ha => ?_) s hs'
          have := List.find?_eq_none.1 hq (tyX l a) (List.mem_map.2 ⟨a, ha, rfl⟩)
          simpa using this
theorem tyL_asks (l : List Fld) : ∀ xs : List Exp, (∀ a ∈ xs, prtN a = 0) → (∀ a ∈ xs, (tyX l a).2 = 0) → ∀ s ∈ askNL xs, l.any (hasName s) = true
  | [], _, _, s, hs => by simp [askNL] at hs
  | a :: r, hp, ht, s, hs => by
    simp only [askNL, List.mem_append] at hs
    rcases hs with hs | hs
    · exact tyX_asks l a (hp a (by simp)) (ht a (by simp)) s hs
    · exact tyL_asks l r (fun b hb => hp b (by simp [hb])) (fun b hb => ht b (by simp [hb])) s hs
end
/-- What holds of fields that are right. -/
theorem fieldsErr_all {l : List Fld} (h : fieldsErr l = 0) : l.length ≤ 14 ∧ ∀ (k : Nat) (f : Fld), l[k]? = some f → fieldErr f = 0 ∧ (l.take k).any (hasName f.name) = false ∧ (1 ≤ f.kind ∧ f.kind ≤ 3) ∧
    (f.kind ≠ 1 → exprErr f.source = 0) ∧ ∀ s ∈ srcN f, l.any (hasName s) = true := by
  have h0 : ¬ 14 < l.length := fun h14 => by unfold fieldsErr at h; rw [if_pos h14] at h; cases h
  have h1 : firstErr (fe1 l) l.length = 0 := by
    apply Classical.byContradiction
    intro hne
    unfold fieldsErr at h
    rw [if_neg h0, if_pos hne] at h
    exact hne h
  have h2 : firstErr (fe2 l) l.length = 0 := by
    unfold fieldsErr at h
    rw [if_neg h0, if_neg (by simpa using h1)] at h
    exact h
  refine ⟨by omega, fun k f hf => ?_⟩
  have hk : k < l.length := (List.getElem?_eq_some_iff.1 hf).1
  have e1 := firstErr_all h1 k hk
  have e2 := firstErr_all h2 k hk
  rw [fe2_some hf] at e2
  have hkd := fe1_kind e1 hf
  have hty : f.kind ≠ 1 → (tyRes l f.source).2 = 0 := fun hn => by
    unfold tyErr at e2
    by_cases hk2 : f.kind = 2
    · rw [if_pos hk2] at e2
      unfold fitErr at e2
      apply Classical.byContradiction
      intro hne
      rw [if_pos hne] at e2
      exact hne e2
    · rw [if_neg hk2, if_pos (by omega)] at e2
      exact e2
  have hex : f.kind ≠ 1 → exprErr f.source = 0 := fun hn => by
    have := hty hn
    unfold tyRes at this
    apply Classical.byContradiction
    intro hne
    rw [if_pos hne] at this
    exact hne this
  have hf1 : fieldErr f = 0 ∧ (l.take k).any (hasName f.name) = false := by
    rcases fe1_some hf with ⟨q1, q2⟩ | ⟨q1, q2, q3⟩ | ⟨q1, q2, q3⟩
    · rw [e1] at q2; exact absurd q2.symm q1
    · rw [e1] at q3; cases q3
    · exact ⟨q1, q2⟩
  refine ⟨hf1.1, hf1.2, hkd, hex, fun s hs => ?_⟩
  unfold srcN at hs
  by_cases hk1 : f.kind = 1
  · rw [if_pos hk1] at hs; cases hs
  · rw [if_neg hk1, rise_mem] at hs
    have h5 := hty hk1
    unfold tyRes at h5
    rw [if_neg (by simpa using hex hk1)] at h5
    exact tyX_asks l f.source (prt_of_expr (hex hk1)) h5 s hs
theorem hasName_iff {s : ByteArray} {f : Fld} : hasName s f = true ↔ f.name = s := by
  unfold hasName
  constructor
  · intro h; exact toList_inj (by simpa using h)
  · intro h; rw [h]; simp
theorem fieldAt_some {l : List Fld} {s : ByteArray} (h : l.any (hasName s) = true) : fieldAt l s < l.length ∧ ∃ f, l[fieldAt l s]? = some f ∧ f.name = s := by
  obtain ⟨a, h1, h2, h3⟩ := find_at (hasName s) l h
  exact ⟨h3, a, h1, hasName_iff.1 (List.find?_some h2)⟩
/-- In fields that are right a name says which one. -/
theorem fieldAt_name {l : List Fld} (h : fieldsErr l = 0) {i : Nat} {f : Fld} (hf : l[i]? = some f) : fieldAt l f.name = i :=
  firstAt_hit _ l i f hf (hasName_iff.2 rfl) ((fieldsErr_all h).2 i f hf).2.1
theorem needL_lt {l : List Fld} (h : fieldsErr l = 0) : ∀ i, ∀ s ∈ ndAt (needL l) i, s < l.length := by
  intro i s hs
  unfold ndAt needL at hs
  rw [List.getElem?_map] at hs
  cases hf : l[i]? with
  | none => rw [hf] at hs; cases hs
  | some f =>
    rw [hf] at hs
    obtain ⟨t, ht, rfl⟩ := List.mem_map.1 (show s ∈ (srcN f).map (fieldAt l) from hs)
    exact (fieldAt_some (((fieldsErr_all h).2 i f hf).2.2.2.2 t ht)).1
theorem ndAt_need {l : List Fld} {i : Nat} {f : Fld} (hf : l[i]? = some f) : ndAt (needL l) i = (srcN f).map (fieldAt l) := by
  unfold ndAt needL
  rw [List.getElem?_map, hf]
  rfl
end Go.Proofs.Ytgmcojnhpedpnaa
