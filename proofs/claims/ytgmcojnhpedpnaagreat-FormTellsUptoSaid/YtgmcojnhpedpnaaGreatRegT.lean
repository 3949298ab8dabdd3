/- A region that draws its order and whose last operation writes a cell that the region loads: loads are taken first under a condition S that holds behind each operation BUT the last (number n); the last waits for all others. -/
import Derived.Test.YtgmcojnhpedpnaaGreatBase
import Derived.OrdersHeld
import Derived.StillTail
namespace Go.Proofs.YtgmcojnhpedpnaaGreat
open Go.RowKit

section
variable {P : Program} {ops : Array Oper} {Q : Exit → Act → World → Prop} {S : World → Prop} {n : Nat}

/-- Whatever comes up next, till all have come up; S holds behind each operation below n. -/
def wpAnyT (P : Program) (ops : Array Oper) (Q : Exit → Act → World → Prop) (S : World → Prop) (n : Nat) : Nat → Array Bool → Act → World → Prop
  | 0, listed, a, w => Region.ready .any ops listed = [] ∧ Q .normal a w
  | fuel + 1, listed, a, w => (Region.ready .any ops listed = [] → Q .normal a w) ∧
    ∀ i ∈ Region.ready .any ops listed, wpOp P ops Q i (fun a' w' => (i < n → S w') ∧ wpAnyT P ops Q S n fuel (listed.setIfInBounds i true) a' w') a w
theorem wpAny_of_T : ∀ (fuel : Nat) (listed : Array Bool) (a : Act) (w : World), wpAnyT P ops Q S n fuel listed a w → wpAny P .any ops Q fuel listed a w
  | 0, _, _, _, h => h
  | fuel + 1, _, _, _, h => ⟨h.1, fun i hi => wpOp_mono (fun _ _ h' => wpAny_of_T fuel _ _ _ h'.2) (h.2 i hi)⟩
theorem wpAnyT_first {i : Nat} {oi : Oper} {v : Value} (hi : ops[i]? = some oi) (hsel : ∀ (j : Nat) (o : Oper) cs b, ops[j]? = some o → o.op ≠ .select cs b)
    (hQ : ∀ c a w, Q (.panic c) (a.put oi.dst v) w → Q (.panic c) a w) (hs : Region.sinkB .any ops n = true) (hc : Region.chainB .any ops n = true) (hn : n < ops.size) (hin : i < n) :
    ∀ (fuel : Nat) (listed : Array Bool) (a : Act) (w : World), HeadInv .any ops n listed →
      (∀ j oj, ops[j]? = some oj → j ≠ i → listed.getD j true = false → (∀ e ∈ oj.after, Region.binds .any e = true → e.on ≠ i) → oi.apart ops oj = true) →
      i ∈ Region.ready .any ops listed → YieldsIf P ops S oi v a → S w →
      wpAnyT P ops Q S n fuel (listed.setIfInBounds i true) (a.put oi.dst v) w → wpAnyT P ops Q S n (fuel + 1) listed a w := by
  intro fuel
  induction fuel with
  | zero =>
    intro listed a w _ _ hr hy hS H
    refine ⟨fun h => (by rw [h] at hr; cases hr), fun j hj => ?_⟩
    by_cases hji : j = i
    · subst hji; exact hy.wpOp hi hS ⟨fun _ => hS, H⟩
    · have h1 := ready_mono hj hji
      rw [H.1] at h1
      cases h1
  | succ fuel ih =>
    intro listed a w inv hfree hr hy hS H
    refine ⟨fun h => (by rw [h] at hr; cases hr), fun j hj => ?_⟩
    by_cases hji : j = i
    · subst hji; exact hy.wpOp hi hS ⟨fun _ => hS, H⟩
    · have hun := (mem_ready.1 hr).1
      have hjn : j < n := by
        rcases Nat.lt_or_ge j n with h | h
        · exact h
        · exact absurd hj (tail_waits hs hc hn inv _ i rfl hin hun j h)
      have h1 := H.2 j (ready_mono hj hji)
      obtain ⟨hjun, oj, hoj, hall⟩ := mem_ready.1 hj
      have hnot : ∀ e ∈ oj.after, Region.binds .any e = true → e.on ≠ i := fun e he hb heq => by
        have h2 := hall e he hb
        rw [heq, getD_both hun] at h2
        cases h2
      have h2 := wpOp_putIf hoj (hfree j oj hoj hji hjun hnot) (fun cs b => hsel i oi cs b hi) (fun cs b => hsel j oj cs b hoj) hQ hy h1
      have hfree' : ∀ k ok, ops[k]? = some ok → k ≠ i → (listed.setIfInBounds j true).getD k true = false →
          (∀ e ∈ ok.after, Region.binds .any e = true → e.on ≠ i) → oi.apart ops ok = true := fun k ok hk hki hku hno => by
        refine hfree k ok hk hki ?_ hno
        by_cases hjk : j = k
        · subst hjk; exact hjun
        · rw [getD_set_ne true hjk] at hku; exact hku
      refine wpOp_mono (fun a' w' h3 => ⟨fun _ => h3.2.1 hjn, ih (listed.setIfInBounds j true) a' w' (inv.set hj hjn) hfree' (ready_mono hr (Ne.symm hji)) h3.1 (h3.2.1 hjn) ?_⟩) h2
      rw [Array.setIfInBounds_comm _ _ hji]
      exact h3.2.2
/-- The state's own condition, as a test. -/
def headInvB (ops : Array Oper) (n : Nat) (listed : Array Bool) : Bool :=
  listed.size == ops.size && ((List.range ops.size).all fun j => match ops[j]? with
    | some oj => !listed.getD j false || oj.after.all fun e => !Region.binds .any e || listed.getD e.on false
    | none => true) && (List.range ops.size).all fun t => decide (t < n) || !listed.getD t true
theorem headInv_of {listed : Array Bool} (h : headInvB ops n listed = true) : HeadInv .any ops n listed := by
  simp only [headInvB, Bool.and_eq_true, beq_iff_eq, List.all_eq_true, List.mem_range] at h
  obtain ⟨⟨h1, h2⟩, h3⟩ := h
  refine ⟨h1, fun j oj hj hl e he hb => ?_, fun t ht ht' => ?_⟩
  · have := h2 j (Array.getElem?_eq_some_iff.1 hj).1
    rw [hj] at this
    simp only [hl, Bool.not_true, Bool.false_or] at this
    have h4 := (Array.all_eq_true_iff_forall_mem.1 this) e he
    simpa [hb] using h4
  · have := h3 t ht'
    simp only [Bool.or_eq_true, decide_eq_true_eq, Bool.not_eq_true'] at this
    rcases this with h | h
    · omega
    · exact h
def takeB (ops : Array Oper) (n i : Nat) (listed : Array Bool) : Bool :=
  Region.noSelect ops && Region.free .any ops listed i && (Region.ready .any ops listed).contains i && headInvB ops n listed && decide (i < n) && Region.sinkB .any ops n && Region.chainB .any ops n && decide (n < ops.size)
/-- Take number i first. -/
theorem wpAnyT_take {i : Nat} {oi : Oper} {v : Value} {fuel : Nat} {listed : Array Bool} {a : Act} {w : World} (hi' : ops.toList[i]? = some oi) (hB : takeB ops n i listed = true)
    (hQ : ∀ c a w, Q (.panic c) (a.put oi.dst v) w → Q (.panic c) a w) (hS : S w) (hw : Region.wanted oi (yielded ops a.tmps) = true) (hy : ∀ w, S w → (execOp a.eval oi).run P w = .ok (.value v) w)
    (h : wpAnyT P ops Q S n fuel (listed.setIfInBounds i true) (a.put oi.dst v) w) : wpAnyT P ops Q S n (fuel + 1) listed a w := by
  have hi : ops[i]? = some oi := by simpa using hi'
  simp only [takeB, Bool.and_eq_true, decide_eq_true_eq] at hB
  obtain ⟨⟨⟨⟨⟨⟨⟨b1, b2⟩, b3⟩, b4⟩, b5⟩, b6⟩, b7⟩, b8⟩ := hB
  exact wpAnyT_first hi (Region.noSelect_spec b1) hQ b6 b7 b8 b5 fuel listed a w (headInv_of b4) (Region.free_spec hi b2) (by simpa using b3) (.inl ⟨hw, hy⟩) hS h
/-- Number i alone may come up. -/
theorem wpAnyT_one {i : Nat} {o : Oper} {fuel : Nat} {listed : Array Bool} {a : Act} {w : World} (ho' : ops.toList[i]? = some o) (hr : Region.ready .any ops listed = [i])
    (h : ∀ K : Act → World → Prop, Hid (∀ a w, (i < n → S w) → wpAnyT P ops Q S n fuel (listed.setIfInBounds i true) a w → K a w) → if Region.wanted o (yielded ops a.tmps) = true then Oper.wp P o a w K Q else K (a.put o.dst undef) w) :
    wpAnyT P ops Q S n (fuel + 1) listed a w := by
  have ho : ops[i]? = some o := by simpa using ho'
  refine ⟨fun h0 => (by rw [h0] at hr; cases hr), fun j hj => ?_⟩
  rw [hr] at hj
  have : j = i := by simpa using hj
  subst this
  exact wpOp_step ho (fun K' hK => h K' (Lib.hid fun a w h1 h2 => hK a w ⟨h1, h2⟩))
theorem wpAnyT_done {listed : Array Bool} {a : Act} {w : World} (hr : Region.ready .any ops listed = []) (h : Q .normal a w) : ∀ fuel, wpAnyT P ops Q S n fuel listed a w
  | 0 => ⟨hr, h⟩
  | _ + 1 => ⟨fun _ => h, by rw [hr]; simp⟩
/-- All operations below m but those of rem have come up. -/
def mkL (size m : Nat) (rem : List Nat) : Array Bool := ((List.range size).map fun j => decide (j < m) && !rem.contains j).toArray
theorem mkL_get {size m : Nat} (rem : List Nat) (j : Nat) (d : Bool) (h : j < size) : (mkL size m rem).getD j d = (decide (j < m) && !rem.contains j) := by
  simp [mkL, Array.getD, h]
theorem mkL_set {size m : Nat} (rem : List Nat) (i : Nat) (hn : rem.Nodup) (hi : i < m) : (mkL size m rem).setIfInBounds i true = mkL size m (rem.erase i) := by
  apply Array.ext
  · simp [mkL]
  · intro j h1 h2
    simp only [mkL, Array.size_setIfInBounds, List.size_toArray, List.length_map, List.length_range] at h1
    rw [Array.getElem_setIfInBounds (by simpa [mkL] using h1)]
    by_cases hij : i = j
    · subst hij
      have : i ∉ rem.erase i := fun h => by rw [hn.mem_erase_iff] at h; exact h.1 rfl
      simp [mkL, this, hi]
    · have : (j ∈ rem.erase i) ↔ j ∈ rem := by rw [hn.mem_erase_iff]; exact ⟨fun h => h.2, fun h => ⟨fun e => hij e.symm, h⟩⟩
      simp [mkL, hij, this]
/-- Operation i, if it has no guard. -/
theorem wpOp_plain {i : Nat} {o : Oper} {K : Act → World → Prop} {a : Act} {w : World} (ho' : ops.toList[i]? = some o) (hg : o.guard = none)
    (h : ∀ K' : Act → World → Prop, (∀ a w, K a w → K' a w) → Oper.wp P o a w K' Q) : wpOp P ops Q i K a w := by
  have ho : ops[i]? = some o := by simpa using ho'
  refine wpOp_step ho fun K' hK => ?_
  have hw : Region.wanted o (yielded ops a.tmps) = true := by simp [Region.wanted, hg]
  rw [if_pos hw]
  exact h K' hK
/-- A bag: its operations lie below m and wait for nothing of the bag; those from m on wait for each of it. -/
def bagB (ops : Array Oper) (m : Nat) (bag : List Nat) : Bool :=
  (bag.all fun j => decide (j < m) && match ops[j]? with
    | some o => o.after.all fun e => !Region.binds .any e || (decide (e.on < m) && decide (e.on < ops.size) && !bag.contains e.on)
    | none => false) &&
  (List.range ops.size).all fun i => decide (i < m) || bag.all fun r => match ops[i]? with
    | some o => o.after.any fun e => Region.binds .any e && e.on == r
    | none => true
theorem bag_ready {bag rem : List Nat} {m : Nat} (hB : bagB ops m bag = true) (hs : ∀ j ∈ rem, j ∈ bag) (hne : rem ≠ []) {i : Nat} : i ∈ Region.ready .any ops (mkL ops.size m rem) ↔ i ∈ rem := by
  simp only [bagB, Bool.and_eq_true, List.all_eq_true, List.mem_range] at hB
  obtain ⟨h1, h2⟩ := hB
  rw [mem_ready]
  constructor
  · rintro ⟨h3, o, ho, h4⟩
    have hi : i < ops.size := (Array.getElem?_eq_some_iff.1 ho).1
    rw [mkL_get _ _ _ hi] at h3
    by_cases him : i < m
    · simpa [him] using h3
    · obtain ⟨r, hr⟩ := List.exists_mem_of_ne_nil _ hne
      have h5 := h2 i hi
      simp only [him, decide_false, Bool.false_or, List.all_eq_true] at h5
      have h6 := h5 r (hs r hr)
      rw [ho] at h6
      obtain ⟨e, he, h7⟩ := Array.any_eq_true'.1 h6
      simp only [Bool.and_eq_true, beq_iff_eq] at h7
      have h8 := h4 e he h7.1
      rw [h7.2] at h8
      have h9 := (h1 r (hs r hr))
      cases hor : ops[r]? with
      | none => rw [hor] at h9; simp at h9
      | some or_ =>
        have hrs : r < ops.size := (Array.getElem?_eq_some_iff.1 hor).1
        rw [mkL_get _ _ _ hrs] at h8
        simp [hr] at h8
  · intro hi
    have h9 := h1 i (hs i hi)
    cases ho : ops[i]? with
    | none => rw [ho] at h9; simp at h9
    | some o =>
      rw [ho] at h9
      have hlt : i < ops.size := (Array.getElem?_eq_some_iff.1 ho).1
      refine ⟨by rw [mkL_get _ _ _ hlt]; simp [hi], o, rfl, fun e he hb => ?_⟩
      have h10 := (Array.all_eq_true_iff_forall_mem.1 h9.2) e he
      simp only [hb, Bool.not_true, Bool.false_or, Bool.and_eq_true, decide_eq_true_eq, Bool.not_eq_true'] at h10
      rw [mkL_get _ _ _ h10.1.2]
      have : e.on ∉ rem := fun h => by have := hs _ h; simp [this] at h10
      simp [h10.1.1, this]
/-- A bag of operations that may come up in any order: J rem holds while those of rem are to come; each keeps it; f0 steps follow. -/
theorem wpAnyT_bag {bag : List Nat} {m : Nat} (hB : bagB ops m bag = true) (a : Act) (J : List Nat → World → Prop) (f0 : Nat)
    (hstep : ∀ rem w i, i ∈ rem → i ∈ bag → rem.Nodup → J rem w → wpOp P ops Q i (fun a' w' => a' = a ∧ (i < n → S w') ∧ J (rem.erase i) w') a w)
    (hend : ∀ w, J [] w → wpAnyT P ops Q S n f0 (mkL ops.size m []) a w) :
    ∀ (k : Nat) (rem : List Nat) (w : World), rem.length = k → (∀ j ∈ rem, j ∈ bag) → rem.Nodup → J rem w → wpAnyT P ops Q S n (f0 + k) (mkL ops.size m rem) a w := by
  intro k
  induction k with
  | zero =>
    intro rem w hl _ _ h
    obtain rfl : rem = [] := List.eq_nil_of_length_eq_zero hl
    exact hend w h
  | succ k ih =>
    intro rem w hl hs hn h
    have hne : rem ≠ [] := fun e => by rw [e] at hl; simp at hl
    refine ⟨fun h0 => ?_, fun i hi => ?_⟩
    · obtain ⟨r, hr⟩ := List.exists_mem_of_ne_nil _ hne
      rw [← bag_ready hB hs hne, h0] at hr
      cases hr
    · have hir : i ∈ rem := (bag_ready hB hs hne).1 hi
      have him : i < m := by
        simp only [bagB, Bool.and_eq_true, List.all_eq_true] at hB
        have := (hB.1 i (hs i hir)).1
        simpa using this
      refine wpOp_mono (fun a' w' h' => ?_) (hstep rem w i hir (hs i hir) hn h)
      obtain ⟨rfl, h1, h2⟩ := h'
      refine ⟨h1, ?_⟩
      rw [mkL_set _ _ hn him]
      exact ih (rem.erase i) w' (by rw [List.length_erase_of_mem hir, hl]; rfl) (fun j hj => hs j (List.mem_of_mem_erase hj)) (hn.erase i) h2
theorem wpAnyT_listed {f : Nat} {L L' : Array Bool} {a : Act} {w : World} (e : L' = L) (h : wpAnyT P ops Q S n f L' a w) : wpAnyT P ops Q S n f L a w := e ▸ h
theorem wp_region_T {id : Nat} {a : Act} {w : World} (S : World → Prop) (n : Nat) (hm : P.follows .mixedOrders = true) (h : wpAnyT P ops Q S n ops.size (Array.replicate ops.size false) a w.drew) : (Code.region id ops true).wp P Q a w :=
  wp_region_any hm (wpAny_of_T _ _ _ _ h)
end
end Go.Proofs.YtgmcojnhpedpnaaGreat
