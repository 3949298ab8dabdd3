/- What client.Turn answers. -/
import Derived.Test.YtiplgdplfbeahaaCallSp
namespace Go.Proofs.Ytiplgdplfbeahaa
open Go.RowKit

def clientTurn (c : Cll) (p : Pol) (id : Int) (key : Val) (now : Int) : Cll × Bool × Int :=
  if callCheck c p = 0 then
    if valCheck key = 0 then
      if valKnown key = true then
        if c.state ≠ 0 ∧ c.key = key then (c, false, 0)
        else if (callStart p id key now).2 = 0 then ((callStart p id key now).1, true, 0) else (noCll, false, (callStart p id key now).2)
      else (noCll, false, 0)
    else (noCll, false, valCheck key)
  else (noCll, false, callCheck c p)
theorem callCheck_state {c : Cll} {p : Pol} (h : callCheck c p = 0) : 0 ≤ c.state ∧ c.state ≤ 3 := by
  unfold callCheck at h
  by_cases h0 : gapCheck p = 0
  · rw [if_pos h0] at h
    by_cases h1 : c.state < 0 ∨ 3 < c.state
    · rw [if_pos h1] at h; cases h
    · omega
  · rw [if_neg h0] at h; cases h
theorem callStart_none {p : Pol} {id : Int} {key : Val} {now : Int} (h : (callStart p id key now).2 ≠ 0) : (callStart p id key now).1 = noCll := by
  rcases callStart_cases p id key now with ⟨_, e⟩ | ⟨_, _, e⟩ | ⟨_, _, _, e⟩ | ⟨_, _, _, e⟩ <;> rw [e] at h ⊢
  exact absurd rfl h
/-- c's own literal, as the walk has it. -/
theorem clientTurn_cases (st id' tr kk' kn' : Int) (ks' : ByteArray) (hk' hn' : Int) (hs' : ByteArray) (nx : Int) (p : Pol) (id kk kn : Int) (ks : ByteArray) (now : Int) :
    let c : Cll := ⟨st, id', tr, ⟨kk', kn', ks'⟩, ⟨hk', hn', hs'⟩, nx⟩
    let k : Val := ⟨kk, kn, ks⟩
    let r := clientTurn c p id k now
    let s := callStart p id k now
    ((callCheck c p != 0) = true ∧ r = (noCll, false, callCheck c p)) ∨
    (callCheck c p = 0 ∧ (valCheck k != 0) = true ∧ r = (noCll, false, valCheck k)) ∨
    (callCheck c p = 0 ∧ valCheck k = 0 ∧ valKnown k = false ∧ 3 < kk ∧ r = (noCll, false, 0)) ∨
    (callCheck c p = 0 ∧ valCheck k = 0 ∧ valKnown k = true ∧ kk ≤ 3 ∧ 0 < st ∧ (st != 0) = true ∧ kk' = kk ∧ kn' = kn ∧ ks' = ks ∧ r = (c, false, 0)) ∨
    (callCheck c p = 0 ∧ valCheck k = 0 ∧ valKnown k = true ∧ kk ≤ 3 ∧ ((0 < st ∧ (st != 0) = true ∧ valEq ⟨kk', kn', ks'⟩ k = false) ∨ st = 0) ∧ (s.2 == 0) = true ∧ (s.2 != 0) = false ∧ r = (s.1, true, 0)) ∨
    (callCheck c p = 0 ∧ valCheck k = 0 ∧ valKnown k = true ∧ kk ≤ 3 ∧ ((0 < st ∧ (st != 0) = true ∧ valEq ⟨kk', kn', ks'⟩ k = false) ∨ st = 0) ∧ (s.2 == 0) = false ∧ (s.2 != 0) = true ∧ s.1 = noCll ∧ r = (noCll, false, s.2)) := by
  intro c k r s
  have hr : r = clientTurn c p id k now := rfl
  clear_value r
  unfold clientTurn at hr
  by_cases h0 : callCheck c p = 0
  · rw [if_pos h0] at hr
    have hst := callCheck_state h0
    simp only [c] at hst
    by_cases h1 : valCheck k = 0
    · rw [if_pos h1] at hr
      cases h2 : valKnown k
      · have h3 : ¬ (valCheck k = 0 ∧ k.k < 4) := by rw [← valKnown_iff', h2]; simp
        rw [h2, if_neg (by simp)] at hr
        exact .inr (.inr (.inl ⟨h0, h1, rfl, by simp only [k] at h3 h1 ⊢; omega, hr⟩))
      · have h3 := (valKnown_iff' _).1 h2
        have h3' : kk ≤ 3 := by have := h3.2; simp only [k] at this; omega
        rw [if_pos h2] at hr
        by_cases h4 : c.state ≠ 0 ∧ c.key = k
        · rw [if_pos h4] at hr
          have h5 := h4.2
          have h6 := h4.1
          simp only [c, k, Val.mk.injEq] at h5 h6
          exact .inr (.inr (.inr (.inl ⟨h0, h1, rfl, h3', by omega, by simpa using h6, h5.1, h5.2.1, h5.2.2, hr⟩)))
        · rw [if_neg h4] at hr
          have h5 : (0 < st ∧ (st != 0) = true ∧ valEq ⟨kk', kn', ks'⟩ k = false) ∨ st = 0 := by
            by_cases h6 : st = 0
            · exact .inr h6
            · refine .inl ⟨by omega, by simpa using h6, ?_⟩
              cases h7 : valEq ⟨kk', kn', ks'⟩ k
              · rfl
              · exact absurd ⟨h6, (valEq_iff _ _).1 h7⟩ h4
          by_cases h6 : s.2 = 0
          · rw [if_pos (show (callStart p id k now).2 = 0 from h6)] at hr
            exact .inr (.inr (.inr (.inr (.inl ⟨h0, h1, rfl, h3', h5, by simpa using h6, by simpa using h6, hr⟩))))
          · rw [if_neg (show ¬ (callStart p id k now).2 = 0 from h6)] at hr
            exact .inr (.inr (.inr (.inr (.inr ⟨h0, h1, rfl, h3', h5, by simpa using h6, by simpa using h6, callStart_none h6, hr⟩))))
    · rw [if_neg h1] at hr
      exact .inr (.inl ⟨h0, by simpa using h1, hr⟩)
  · exact .inl ⟨by simpa using h0, by rw [hr, if_neg h0]⟩
end Go.Proofs.Ytiplgdplfbeahaa
