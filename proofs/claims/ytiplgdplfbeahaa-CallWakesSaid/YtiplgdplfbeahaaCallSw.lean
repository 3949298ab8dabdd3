/- What call.Wake answers. -/
import Derived.Test.YtiplgdplfbeahaaCallSp
namespace Go.Proofs.Ytiplgdplfbeahaa
open Go.RowKit

def callWake (c : Cll) (p : Pol) (now : Int) : Cll × Bool × Int :=
  if callCheck c p = 0 then
    if now < 0 ∨ 1073741824 < now then (noCll, false, 4)
    else if c.state = 1 ∧ c.next ≤ now then
      if c.tries = p.tries then (⟨3, c.id, c.tries, c.key, c.has, 0⟩, false, 0) else (⟨1, c.id, c.tries + 1, c.key, c.has, now + (gapOf p (c.tries + 1)).1⟩, true, 0)
    else (c, false, 0)
  else (noCll, false, callCheck c p)
theorem callCheck_asks {c : Cll} {p : Pol} (h : callCheck c p = 0) (h1 : c.state = 1) : gapCheck p = 0 ∧ 1 ≤ c.tries ∧ c.tries ≤ p.tries ∧ c.has = ⟨0, 0, ⟨#[]⟩⟩ := by
  unfold callCheck at h
  by_cases h0 : gapCheck p = 0
  · rw [if_pos h0, if_neg (by omega), if_neg (by omega)] at h
    by_cases h2 : callRange c p
    · rw [if_pos h2] at h; cases h
    · rw [if_neg h2] at h
      unfold callRange at h2
      simp only [not_or] at h2
      by_cases h3 : callGood c p = true
      · unfold callGood at h3
        rw [if_pos h1, Bool.and_eq_true] at h3
        exact ⟨h0, by omega, by omega, (valEq_iff _ _).1 h3.2⟩
      · rw [if_neg h3] at h; cases h
  · rw [if_neg h0] at h; cases h
theorem callWake_cases (st id tr kk kn : Int) (ks : ByteArray) (hk hn : Int) (hs : ByteArray) (nx : Int) (p : Pol) (now : Int) :
    let c : Cll := ⟨st, id, tr, ⟨kk, kn, ks⟩, ⟨hk, hn, hs⟩, nx⟩
    let r := callWake c p now
    ((callCheck c p != 0) = true ∧ r = (noCll, false, callCheck c p)) ∨
    (callCheck c p = 0 ∧ now < 0 ∧ r = (noCll, false, 4)) ∨
    (callCheck c p = 0 ∧ 0 ≤ now ∧ 1073741824 < now ∧ r = (noCll, false, 4)) ∨
    (callCheck c p = 0 ∧ 0 ≤ now ∧ now ≤ 1073741824 ∧ (st == 1) = false ∧ r = (c, false, 0)) ∨
    (callCheck c p = 0 ∧ 0 ≤ now ∧ now ≤ 1073741824 ∧ st = 1 ∧ now < nx ∧ r = (c, false, 0)) ∨
    (callCheck c p = 0 ∧ 0 ≤ now ∧ now ≤ 1073741824 ∧ st = 1 ∧ nx ≤ now ∧ tr = p.tries ∧ hk = 0 ∧ hn = 0 ∧ hs = ⟨#[]⟩ ∧ gapCheck p = 0 ∧ 1 ≤ tr ∧ r = (⟨3, id, tr, ⟨kk, kn, ks⟩, ⟨0, 0, ⟨#[]⟩⟩, 0⟩, false, 0)) ∨
    (callCheck c p = 0 ∧ 0 ≤ now ∧ now ≤ 1073741824 ∧ st = 1 ∧ nx ≤ now ∧ tr < p.tries ∧ hk = 0 ∧ hn = 0 ∧ hs = ⟨#[]⟩ ∧ gapCheck p = 0 ∧ 1 ≤ tr ∧ r = (⟨1, id, tr + 1, ⟨kk, kn, ks⟩, ⟨0, 0, ⟨#[]⟩⟩, now + (gapOf p (tr + 1)).1⟩, true, 0)) := by
  intro c r
  have hr : r = callWake c p now := rfl
  clear_value r
  unfold callWake at hr
  by_cases h0 : callCheck c p = 0
  · rw [if_pos h0] at hr
    by_cases h1 : now < 0
    · right; left
      exact ⟨h0, h1, by rw [hr, if_pos (.inl h1)]⟩
    · by_cases h2 : 1073741824 < now
      · right; right; left
        exact ⟨h0, by omega, h2, by rw [hr, if_pos (.inr h2)]⟩
      · rw [if_neg (by omega)] at hr
        by_cases h3 : st = 1
        · by_cases h4 : nx ≤ now
          · obtain ⟨g1, g2, g3, g4⟩ := callCheck_asks h0 h3
            simp only [c, Val.mk.injEq] at g2 g3 g4
            obtain ⟨rfl, rfl, rfl⟩ := g4
            rw [if_pos (show c.state = 1 ∧ c.next ≤ now from ⟨h3, h4⟩)] at hr
            by_cases h5 : tr = p.tries
            · right; right; right; right; right; left
              exact ⟨h0, by omega, by omega, h3, h4, h5, rfl, rfl, rfl, g1, g2, by rw [hr, if_pos (show c.tries = p.tries from h5)]⟩
            · right; right; right; right; right; right
              exact ⟨h0, by omega, by omega, h3, h4, by omega, rfl, rfl, rfl, g1, g2, by rw [hr, if_neg (show ¬ c.tries = p.tries from h5)]⟩
          · right; right; right; right; left
            exact ⟨h0, by omega, by omega, h3, by omega, by rw [hr, if_neg (show ¬ (c.state = 1 ∧ c.next ≤ now) from fun h => h4 h.2)]⟩
        · right; right; right; left
          exact ⟨h0, by omega, by omega, by simpa using h3, by rw [hr, if_neg (show ¬ (c.state = 1 ∧ c.next ≤ now) from fun h => h3 h.1)]⟩
  · left
    exact ⟨by simpa using h0, by rw [hr, if_neg h0]⟩
end Go.Proofs.Ytiplgdplfbeahaa
