/- What call.Hear answers. -/
import Derived.Test.YtiplgdplfbeahaaCall2
namespace Go.Proofs.Ytiplgdplfbeahaa
open Go.RowKit

def callTakes (c : Cll) (id : Int) (key has : Val) : Bool := decide (c.state = 1) && decide (c.id = id) && valEq c.key key && valKnown has
/-- The ending with a call, a bool and an error. -/
def RetCll (w : World) (c : Cll) (is : Bool) (n : Int) (e : Ending) (w' : World) : Prop := e = .returned (.tuple #[c.ag, .bool is, .int .i64 n]) ∧ Below w.heap.size w w'
def callHear (c : Cll) (p : Pol) (id : Int) (key has : Val) : Cll × Bool × Int :=
  if callCheck c p = 0 then if callTakes c id key has = true then (⟨2, c.id, c.tries, c.key, has, 0⟩, true, 0) else (c, false, 0) else (noCll, false, callCheck c p)
theorem callHear_cases (st id' tr kk' kn' : Int) (ks' : ByteArray) (hk' hn' : Int) (hs' : ByteArray) (nx : Int) (p : Pol) (id kk kn : Int) (ks : ByteArray) (hk hn : Int) (hs : ByteArray) :
    let c : Cll := ⟨st, id', tr, ⟨kk', kn', ks'⟩, ⟨hk', hn', hs'⟩, nx⟩
    let r := callHear c p id ⟨kk, kn, ks⟩ ⟨hk, hn, hs⟩
    ((callCheck c p != 0) = true ∧ r = (noCll, false, callCheck c p)) ∨
    (callCheck c p = 0 ∧ (st == 1) = false ∧ r = (c, false, 0)) ∨
    (callCheck c p = 0 ∧ st = 1 ∧ (id' == id) = false ∧ r = (c, false, 0)) ∨
    (callCheck c p = 0 ∧ st = 1 ∧ id' = id ∧ valEq ⟨kk', kn', ks'⟩ ⟨kk, kn, ks⟩ = false ∧ r = (c, false, 0)) ∨
    (callCheck c p = 0 ∧ st = 1 ∧ id' = id ∧ valEq ⟨kk', kn', ks'⟩ ⟨kk, kn, ks⟩ = true ∧ valKnown ⟨hk, hn, hs⟩ = false ∧ r = (c, false, 0)) ∨
    (callCheck c p = 0 ∧ st = 1 ∧ id' = id ∧ kk' = kk ∧ kn' = kn ∧ ks' = ks ∧ valKnown ⟨hk, hn, hs⟩ = true ∧ r = (⟨2, id', tr, ⟨kk', kn', ks'⟩, ⟨hk, hn, hs⟩, 0⟩, true, 0)) := by
  intro c r
  have hr : r = callHear c p id ⟨kk, kn, ks⟩ ⟨hk, hn, hs⟩ := rfl
  clear_value r
  unfold callHear at hr
  by_cases h0 : callCheck c p = 0
  · rw [if_pos h0] at hr
    by_cases h1 : st = 1
    · by_cases h2 : id' = id
      · cases h3 : valEq ⟨kk', kn', ks'⟩ ⟨kk, kn, ks⟩
        · right; right; right; left
          refine ⟨h0, h1, h2, rfl, ?_⟩
          rw [hr, if_neg (by simp [callTakes, c, h3])]
        · cases h4 : valKnown ⟨hk, hn, hs⟩
          · right; right; right; right; left
            refine ⟨h0, h1, h2, rfl, rfl, ?_⟩
            rw [hr, if_neg (by simp [callTakes, h4])]
          · right; right; right; right; right
            have h5 := (valEq_iff _ _).1 h3
            simp only [Val.mk.injEq] at h5
            refine ⟨h0, h1, h2, h5.1, h5.2.1, h5.2.2, rfl, ?_⟩
            rw [hr, if_pos (by simp [callTakes, c, h1, h2, h3, h4])]
      · right; right; left
        refine ⟨h0, h1, by simpa using h2, ?_⟩
        rw [hr, if_neg (by simp [callTakes, c, h2])]
    · right; left
      refine ⟨h0, by simpa using h1, ?_⟩
      rw [hr, if_neg (by simp [callTakes, c, h1])]
  · left
    exact ⟨by simpa using h0, by rw [hr, if_neg h0]⟩

end Go.Proofs.Ytiplgdplfbeahaa
