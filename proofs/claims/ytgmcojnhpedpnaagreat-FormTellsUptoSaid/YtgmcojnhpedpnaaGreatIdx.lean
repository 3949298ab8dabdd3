/- The first place at which a test holds; the first error of a row of tests; prefixes of slices. Plain laws. -/
import Derived.Test.YtgmcojnhpedpnaaGreatTypes
namespace Go.Proofs.YtgmcojnhpedpnaaGreat
open Go.RowKit

def firstAt {α : Type} (p : α → Bool) : List α → Nat
  | [] => 0
  | a :: l => if p a then 0 else firstAt p l + 1
theorem firstAt_le {α : Type} (p : α → Bool) : ∀ l : List α, firstAt p l ≤ l.length
  | [] => Nat.le_refl _
  | a :: l => by simp only [firstAt]; split <;> simp [firstAt_le p l]
theorem firstAt_hit {α : Type} (p : α → Bool) : ∀ (l : List α) (k : Nat) (a : α), l[k]? = some a → p a = true → (l.take k).any p = false → firstAt p l = k
  | [], k, a, h, _, _ => by simp at h
  | b :: l, 0, a, h, hp, _ => by simp at h; subst h; simp [firstAt, hp]
  | b :: l, k + 1, a, h, hp, hn => by
    simp only [List.take_succ_cons, List.any_cons, Bool.or_eq_false_iff] at hn
    simp [firstAt, hn.1, firstAt_hit p l k a (by simpa using h) hp hn.2]
theorem firstAt_none {α : Type} (p : α → Bool) : ∀ (l : List α), l.any p = false → firstAt p l = l.length
  | [], _ => rfl
  | b :: l, hn => by
    simp only [List.any_cons, Bool.or_eq_false_iff] at hn
    simp [firstAt, hn.1, firstAt_none p l hn.2]
theorem firstAt_lt {α : Type} (p : α → Bool) (l : List α) (h : firstAt p l < l.length) : l.any p = true := by
  cases hh : l.any p
  · rw [firstAt_none p l hh] at h; omega
  · rfl
def idxOf {α : Type} (p : α → Bool) (l : List α) : Int := if l.any p then (firstAt p l : Int) else -1
theorem find_at {α : Type} (p : α → Bool) : ∀ (l : List α), l.any p = true → ∃ a, l[firstAt p l]? = some a ∧ l.find? p = some a ∧ firstAt p l < l.length
  | [], h => by simp at h
  | b :: l, h => by
    cases hb : p b
    · simp only [List.any_cons, hb, Bool.false_or] at h
      obtain ⟨a, h1, h2, h3⟩ := find_at p l h
      exact ⟨a, by simp [firstAt, hb, h1], by simp [hb, h2], by simp [firstAt, hb, h3]⟩
    · exact ⟨b, by simp [firstAt, hb], by simp [hb], by simp [firstAt, hb]⟩
theorem find_none {α : Type} (p : α → Bool) (l : List α) (h : l.any p = false) : l.find? p = none := by
  rw [List.find?_eq_none]
  intro x hx hp
  rw [List.any_eq_false] at h
  exact h x hx hp
def firstErr (g : Nat → Int) : Nat → Int
  | 0 => 0
  | n + 1 => if firstErr g n = 0 then g n else firstErr g n
theorem firstErr_next {g : Nat → Int} {k : Nat} (h : firstErr g k = 0) (hk : g k = 0) : firstErr g (k + 1) = 0 := by rw [firstErr, if_pos h]; exact hk
theorem firstErr_hit {g : Nat → Int} {k : Nat} (h : firstErr g k = 0) (hk : g k ≠ 0) : ∀ n, k < n → firstErr g n = g k
  | 0, hn => absurd hn (by omega)
  | n + 1, hn => by
    rcases Nat.lt_or_ge k n with h' | h'
    · rw [firstErr, firstErr_hit h hk n h', if_neg hk]
    · have : k = n := by omega
      subst this
      rw [firstErr, if_pos h]
theorem firstErr_all {g : Nat → Int} : ∀ {n : Nat}, firstErr g n = 0 → ∀ k, k < n → g k = 0
  | 0, _, k, hk => absurd hk (by omega)
  | n + 1, h, k, hk => by
    rw [firstErr] at h
    by_cases h0 : firstErr g n = 0
    · rw [if_pos h0] at h
      rcases Nat.lt_or_ge k n with h' | h'
      · exact firstErr_all h0 k h'
      · have : k = n := by omega
        subst this
        exact h
    · rw [if_neg h0] at h; exact absurd h h0
def RetI (w : World) (x : Int) (e : Ending) (w' : World) : Prop := e = .returned (.int .i64 x) ∧ Below w.heap.size w w'
end Go.Proofs.YtgmcojnhpedpnaaGreat
