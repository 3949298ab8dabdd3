/- Calls: call.Check, call.Value and the references of the same. -/
import Derived.Test.YtiplgdplfbeahaaCall1
namespace Go.Proofs.Ytiplgdplfbeahaa
open Go.RowKit

def cllEq (c d : Cll) : Bool := c.state == d.state && (c.id == d.id && (c.tries == d.tries && (valEq c.key d.key && (valEq c.has d.has && c.next == d.next))))
theorem cllEq_iff (c d : Cll) : cllEq c d = true ↔ c = d := by
  obtain ⟨a1, a2, a3, a4, a5, a6⟩ := c
  obtain ⟨b1, b2, b3, b4, b5, b6⟩ := d
  simp [cllEq, valEq_iff]
theorem run_neq_Cll (w : World) (st id tr kk kn hk hn nx st' id' tr' kk' kn' hk' hn' nx' : Int) (ks hs ks' hs' : ByteArray) :
    (binOp .neq 37 (.agg #[.int .i64 st, .int .i64 id, .int .i64 tr, .int .i64 kk, .int .i64 kn, .string ks, .int .i64 hk, .int .i64 hn, .string hs, .int .i64 nx])
      (.agg #[.int .i64 st', .int .i64 id', .int .i64 tr', .int .i64 kk', .int .i64 kn', .string ks', .int .i64 hk', .int .i64 hn', .string hs', .int .i64 nx'])).run Try.prog w =
      .ok (.bool (!cllEq ⟨st, id, tr, ⟨kk, kn, ks⟩, ⟨hk, hn, hs⟩, nx⟩ ⟨st', id', tr', ⟨kk', kn', ks'⟩, ⟨hk', hn', hs'⟩, nx'⟩)) w := by
  go_simp
  unfold cllEq valEq
  (repeat' split) <;> simp_all
theorem run_eql_Cll (w : World) (st id tr kk kn hk hn nx st' id' tr' kk' kn' hk' hn' nx' : Int) (ks hs ks' hs' : ByteArray) :
    (binOp .eql 37 (.agg #[.int .i64 st, .int .i64 id, .int .i64 tr, .int .i64 kk, .int .i64 kn, .string ks, .int .i64 hk, .int .i64 hn, .string hs, .int .i64 nx])
      (.agg #[.int .i64 st', .int .i64 id', .int .i64 tr', .int .i64 kk', .int .i64 kn', .string ks', .int .i64 hk', .int .i64 hn', .string hs', .int .i64 nx'])).run Try.prog w =
      .ok (.bool (cllEq ⟨st, id, tr, ⟨kk, kn, ks⟩, ⟨hk, hn, hs⟩, nx⟩ ⟨st', id', tr', ⟨kk', kn', ks'⟩, ⟨hk', hn', hs'⟩, nx'⟩)) w := by
  go_simp
  unfold cllEq valEq
  (repeat' split) <;> simp_all

def isNo (v : Val) : Bool := valEq v ⟨0, 0, ⟨#[]⟩⟩
def callGood (c : Cll) (p : Pol) : Bool :=
  valKnown c.key && (if c.state = 1 then isNo c.has else if c.state = 2 then valKnown c.has && decide (c.next = 0) else isNo c.has && decide (c.next = 0) && decide (c.tries = p.tries))
def callRange (c : Cll) (p : Pol) : Prop := c.id < 1 ∨ 1073741824 < c.id ∨ c.tries < 1 ∨ p.tries < c.tries ∨ c.next < 0 ∨ 1073742824 < c.next
instance (c : Cll) (p : Pol) : Decidable (callRange c p) := by unfold callRange; infer_instance
def callCheck (c : Cll) (p : Pol) : Int :=
  if gapCheck p = 0 then
    if c.state < 0 ∨ 3 < c.state then 2
    else if c.state = 0 then if cllEq c noCll then 0 else 15
    else if callRange c p then 4
    else if callGood c p then 0 else 15
  else 4
theorem known_no {v : Val} (h : valKnown v = true) : isNo v = false := by
  cases hv : isNo v
  · rfl
  · rw [isNo, valEq_iff] at hv
    subst hv
    exact absurd ((valKnown_iff _).1 h).1 (by decide)

theorem callGood_cases (st id tr kk kn : Int) (ks : ByteArray) (hk hn : Int) (hs : ByteArray) (nx t b c : Int) (h1 : 1 ≤ st) (h2 : st ≤ 3) (h3 : tr ≤ t) :
    let g := callGood ⟨st, id, tr, ⟨kk, kn, ks⟩, ⟨hk, hn, hs⟩, nx⟩ ⟨t, b, c⟩
    (valKnown ⟨kk, kn, ks⟩ = false ∧ g = false) ∨
    (valKnown ⟨kk, kn, ks⟩ = true ∧ st = 1 ∧ valEq ⟨hk, hn, hs⟩ ⟨0, 0, ⟨#[]⟩⟩ = false ∧ g = false) ∨
    (valKnown ⟨kk, kn, ks⟩ = true ∧ st = 1 ∧ valEq ⟨hk, hn, hs⟩ ⟨0, 0, ⟨#[]⟩⟩ = true ∧ g = true) ∨
    (valKnown ⟨kk, kn, ks⟩ = true ∧ st = 2 ∧ valEq ⟨hk, hn, hs⟩ ⟨0, 0, ⟨#[]⟩⟩ = true ∧ valKnown ⟨hk, hn, hs⟩ = false ∧ g = false) ∨
    (valKnown ⟨kk, kn, ks⟩ = true ∧ st = 2 ∧ valEq ⟨hk, hn, hs⟩ ⟨0, 0, ⟨#[]⟩⟩ = false ∧ valKnown ⟨hk, hn, hs⟩ = false ∧ g = false) ∨
    (valKnown ⟨kk, kn, ks⟩ = true ∧ st = 2 ∧ valEq ⟨hk, hn, hs⟩ ⟨0, 0, ⟨#[]⟩⟩ = false ∧ valKnown ⟨hk, hn, hs⟩ = true ∧ (nx == 0) = false ∧ g = false) ∨
    (valKnown ⟨kk, kn, ks⟩ = true ∧ st = 2 ∧ valEq ⟨hk, hn, hs⟩ ⟨0, 0, ⟨#[]⟩⟩ = false ∧ valKnown ⟨hk, hn, hs⟩ = true ∧ nx = 0 ∧ g = true) ∨
    (valKnown ⟨kk, kn, ks⟩ = true ∧ st = 3 ∧ valEq ⟨hk, hn, hs⟩ ⟨0, 0, ⟨#[]⟩⟩ = false ∧ g = false) ∨
    (valKnown ⟨kk, kn, ks⟩ = true ∧ st = 3 ∧ valEq ⟨hk, hn, hs⟩ ⟨0, 0, ⟨#[]⟩⟩ = true ∧ (nx == 0) = false ∧ g = false) ∨
    (valKnown ⟨kk, kn, ks⟩ = true ∧ st = 3 ∧ valEq ⟨hk, hn, hs⟩ ⟨0, 0, ⟨#[]⟩⟩ = true ∧ nx = 0 ∧ tr < t ∧ g = false) ∨
    (valKnown ⟨kk, kn, ks⟩ = true ∧ st = 3 ∧ valEq ⟨hk, hn, hs⟩ ⟨0, 0, ⟨#[]⟩⟩ = true ∧ nx = 0 ∧ tr = t ∧ g = true) := by
  intro g
  have kno := fun h => known_no (v := ⟨hk, hn, hs⟩) h
  unfold isNo at kno
  have hst : st = 1 ∨ st = 2 ∨ st = 3 := by omega
  have htr : tr < t ∨ tr = t := by omega
  have hg : g = callGood ⟨st, id, tr, ⟨kk, kn, ks⟩, ⟨hk, hn, hs⟩, nx⟩ ⟨t, b, c⟩ := rfl
  clear_value g
  unfold callGood isNo at hg
  subst hg
  by_cases hn0 : nx = 0 <;> cases h1 : valKnown ⟨kk, kn, ks⟩ <;> cases h2 : valEq ⟨hk, hn, hs⟩ ⟨0, 0, ⟨#[]⟩⟩ <;> cases h3 : valKnown ⟨hk, hn, hs⟩ <;> rcases hst with rfl | rfl | rfl <;> rcases htr with htr | rfl <;> simp_all <;> omega

set_option maxHeartbeats 4000000 in
theorem call_Check (st id tr kk kn : Int) (ks : ByteArray) (hk hn : Int) (hs : ByteArray) (nx t b c : Int) (w : World) (hks : ks.size ≤ maxLen) (hhs : hs.size ≤ maxLen) :
    Calls Try.prog 20 #[.agg #[.int .i64 st, .int .i64 id, .int .i64 tr, .int .i64 kk, .int .i64 kn, .string ks, .int .i64 hk, .int .i64 hn, .string hs, .int .i64 nx], .agg #[.int .i64 t, .int .i64 b, .int .i64 c]] w
      fun e w' => e = .returned (.int .i64 (callCheck ⟨st, id, tr, ⟨kk, kn, ks⟩, ⟨hk, hn, hs⟩, nx⟩ ⟨t, b, c⟩)) ∧ Below w.heap.size w w' := by
  by_cases h1 : gapCheck ⟨t, b, c⟩ = 0
  · by_cases h2 : st < 0 ∨ 3 < st
    · have e : callCheck ⟨st, id, tr, ⟨kk, kn, ks⟩, ⟨hk, hn, hs⟩, nx⟩ ⟨t, b, c⟩ = 2 := by simp [callCheck, h1, h2]
      rw [e]
      have h1' : (gapCheck ⟨t, b, c⟩ != 0) = false := by simpa using h1
      clear e h1
      rcases (by omega : st < 0 ∨ (0 ≤ st ∧ 3 < st)) with h2 | h2
      all_goals
        go_enter Try.func20, Try.ntmps20
        go_wp2_with (first | (go_at_call 64; refine (gap_Check _ _ _ _).mono ?_; rintro e w1 ⟨rfl, hb1⟩; obtain ⟨hc1, hf1⟩ := bcell hb1; (try simp only [World.heap_drewN, World.cell?_drewN, World.frozen?_drewN] at hc1 hf1); have hz1 := hb1.size; (try simp at hz1); (try (have hy1 := Nat.lt_of_succ_le hz1)); (try (have hx1 := Nat.lt_of_succ_lt hy1)); (try (have hl1_w_0 : w.heap.size < w1.heap.size := by omega)); (try (have hm1_w_0 : w.heap.size ≤ w1.heap.size := by omega)); (try (have hl1_w_1 : w.heap.size + 1 < w1.heap.size := by omega)); (try (have hm1_w_1 : w.heap.size + 1 ≤ w1.heap.size := by omega)); (try (have hl1_w_2 : w.heap.size + 2 < w1.heap.size := by omega)); (try (have hm1_w_2 : w.heap.size + 2 ≤ w1.heap.size := by omega)); (try (have hl1_w_3 : w.heap.size + 3 < w1.heap.size := by omega)); (try (have hm1_w_3 : w.heap.size + 3 ≤ w1.heap.size := by omega)); (try (have hl1_w_4 : w.heap.size + 4 < w1.heap.size := by omega)); (try (have hm1_w_4 : w.heap.size + 4 ≤ w1.heap.size := by omega)); (try (have hl1_w_5 : w.heap.size + 5 < w1.heap.size := by omega)); (try (have hm1_w_5 : w.heap.size + 5 ≤ w1.heap.size := by omega)); (try (have hl1_w_6 : w.heap.size + 6 < w1.heap.size := by omega)); (try (have hm1_w_6 : w.heap.size + 6 ≤ w1.heap.size := by omega))))
        go_ret
        exact ⟨rfl, (by repeat (first | with_reducible exact Below.refl _ _ | with_reducible assumption | with_reducible refine below_drewN ?_ _ | with_reducible refine Below.drew ?_ | with_reducible refine below_alloc0 ?_ | with_reducible refine below_alloc ?_ (by simp; try omega) | with_reducible refine below_set ?_ (by simp; try omega) | with_reducible refine below_chain ?_ (by assumption) | (with_reducible refine below_step ?_ (by assumption) (by simp; try omega))))⟩
    · by_cases h3 : st = 0
      · subst h3
        have hneq := fun w => run_neq_Cll w 0 id tr kk kn hk hn nx 0 0 0 0 0 0 0 0 ks hs ⟨#[]⟩ ⟨#[]⟩
        have h1' : (gapCheck ⟨t, b, c⟩ != 0) = false := by simpa using h1
        have e : callCheck ⟨0, id, tr, ⟨kk, kn, ks⟩, ⟨hk, hn, hs⟩, nx⟩ ⟨t, b, c⟩ = if cllEq ⟨0, id, tr, ⟨kk, kn, ks⟩, ⟨hk, hn, hs⟩, nx⟩ noCll then 0 else 15 := by simp [callCheck, h1]
        rw [e]
        unfold noCll
        clear e h1 h2
        cases hc : cllEq ⟨0, id, tr, ⟨kk, kn, ks⟩, ⟨hk, hn, hs⟩, nx⟩ ⟨0, 0, 0, ⟨0, 0, ⟨#[]⟩⟩, ⟨0, 0, ⟨#[]⟩⟩, 0⟩
        all_goals
          go_enter Try.func20, Try.ntmps20
          go_wp2_with (first | (go_at_call 64; refine (gap_Check _ _ _ _).mono ?_; rintro e w1 ⟨rfl, hb1⟩; obtain ⟨hc1, hf1⟩ := bcell hb1; (try simp only [World.heap_drewN, World.cell?_drewN, World.frozen?_drewN] at hc1 hf1); have hz1 := hb1.size; (try simp at hz1); (try (have hy1 := Nat.lt_of_succ_le hz1)); (try (have hx1 := Nat.lt_of_succ_lt hy1)); (try (have hl1_w_0 : w.heap.size < w1.heap.size := by omega)); (try (have hm1_w_0 : w.heap.size ≤ w1.heap.size := by omega)); (try (have hl1_w_1 : w.heap.size + 1 < w1.heap.size := by omega)); (try (have hm1_w_1 : w.heap.size + 1 ≤ w1.heap.size := by omega)); (try (have hl1_w_2 : w.heap.size + 2 < w1.heap.size := by omega)); (try (have hm1_w_2 : w.heap.size + 2 ≤ w1.heap.size := by omega)); (try (have hl1_w_3 : w.heap.size + 3 < w1.heap.size := by omega)); (try (have hm1_w_3 : w.heap.size + 3 ≤ w1.heap.size := by omega)); (try (have hl1_w_4 : w.heap.size + 4 < w1.heap.size := by omega)); (try (have hm1_w_4 : w.heap.size + 4 ≤ w1.heap.size := by omega)); (try (have hl1_w_5 : w.heap.size + 5 < w1.heap.size := by omega)); (try (have hm1_w_5 : w.heap.size + 5 ≤ w1.heap.size := by omega)); (try (have hl1_w_6 : w.heap.size + 6 < w1.heap.size := by omega)); (try (have hm1_w_6 : w.heap.size + 6 ≤ w1.heap.size := by omega))))
          go_ret
          exact ⟨rfl, (by repeat (first | with_reducible exact Below.refl _ _ | with_reducible assumption | with_reducible refine below_drewN ?_ _ | with_reducible refine Below.drew ?_ | with_reducible refine below_alloc0 ?_ | with_reducible refine below_alloc ?_ (by simp; try omega) | with_reducible refine below_set ?_ (by simp; try omega) | with_reducible refine below_chain ?_ (by assumption) | (with_reducible refine below_step ?_ (by assumption) (by simp; try omega))))⟩
      · by_cases h4 : callRange ⟨st, id, tr, ⟨kk, kn, ks⟩, ⟨hk, hn, hs⟩, nx⟩ ⟨t, b, c⟩
        · have e : callCheck ⟨st, id, tr, ⟨kk, kn, ks⟩, ⟨hk, hn, hs⟩, nx⟩ ⟨t, b, c⟩ = 4 := by simp [callCheck, h1, h2, h3, h4]
          rw [e]
          have h1' : (gapCheck ⟨t, b, c⟩ != 0) = false := by simpa using h1
          have h3' : (st == 0) = false := by simpa using h3
          unfold callRange at h4
          simp only at h4
          clear e h1
          rcases (by omega : id < 1 ∨ (1 ≤ id ∧ 1073741824 < id) ∨ (1 ≤ id ∧ id ≤ 1073741824 ∧ tr < 1) ∨ (1 ≤ id ∧ id ≤ 1073741824 ∧ 1 ≤ tr ∧ t < tr) ∨ (1 ≤ id ∧ id ≤ 1073741824 ∧ 1 ≤ tr ∧ tr ≤ t ∧ nx < 0) ∨ (1 ≤ id ∧ id ≤ 1073741824 ∧ 1 ≤ tr ∧ tr ≤ t ∧ 0 ≤ nx ∧ 1073742824 < nx)) with h5 | h5 | h5 | h5 | h5 | h5
          all_goals
            clear h4
            go_enter Try.func20, Try.ntmps20
            go_wp2_with (first | (go_at_call 64; refine (gap_Check _ _ _ _).mono ?_; rintro e w1 ⟨rfl, hb1⟩; obtain ⟨hc1, hf1⟩ := bcell hb1; (try simp only [World.heap_drewN, World.cell?_drewN, World.frozen?_drewN] at hc1 hf1); have hz1 := hb1.size; (try simp at hz1); (try (have hy1 := Nat.lt_of_succ_le hz1)); (try (have hx1 := Nat.lt_of_succ_lt hy1)); (try (have hl1_w_0 : w.heap.size < w1.heap.size := by omega)); (try (have hm1_w_0 : w.heap.size ≤ w1.heap.size := by omega)); (try (have hl1_w_1 : w.heap.size + 1 < w1.heap.size := by omega)); (try (have hm1_w_1 : w.heap.size + 1 ≤ w1.heap.size := by omega)); (try (have hl1_w_2 : w.heap.size + 2 < w1.heap.size := by omega)); (try (have hm1_w_2 : w.heap.size + 2 ≤ w1.heap.size := by omega)); (try (have hl1_w_3 : w.heap.size + 3 < w1.heap.size := by omega)); (try (have hm1_w_3 : w.heap.size + 3 ≤ w1.heap.size := by omega)); (try (have hl1_w_4 : w.heap.size + 4 < w1.heap.size := by omega)); (try (have hm1_w_4 : w.heap.size + 4 ≤ w1.heap.size := by omega)); (try (have hl1_w_5 : w.heap.size + 5 < w1.heap.size := by omega)); (try (have hm1_w_5 : w.heap.size + 5 ≤ w1.heap.size := by omega)); (try (have hl1_w_6 : w.heap.size + 6 < w1.heap.size := by omega)); (try (have hm1_w_6 : w.heap.size + 6 ≤ w1.heap.size := by omega))))
            go_ret
            exact ⟨rfl, (by repeat (first | with_reducible exact Below.refl _ _ | with_reducible assumption | with_reducible refine below_drewN ?_ _ | with_reducible refine Below.drew ?_ | with_reducible refine below_alloc0 ?_ | with_reducible refine below_alloc ?_ (by simp; try omega) | with_reducible refine below_set ?_ (by simp; try omega) | with_reducible refine below_chain ?_ (by assumption) | (with_reducible refine below_step ?_ (by assumption) (by simp; try omega))))⟩
        · have e : callCheck ⟨st, id, tr, ⟨kk, kn, ks⟩, ⟨hk, hn, hs⟩, nx⟩ ⟨t, b, c⟩ = if callGood ⟨st, id, tr, ⟨kk, kn, ks⟩, ⟨hk, hn, hs⟩, nx⟩ ⟨t, b, c⟩ then 0 else 15 := by simp [callCheck, h1, h2, h3, h4]
          rw [e]
          have h1' : (gapCheck ⟨t, b, c⟩ != 0) = false := by simpa using h1
          have h3' : (st == 0) = false := by simpa using h3
          unfold callRange at h4
          simp only [not_or] at h4
          obtain ⟨r1, r2, r3, r4, r5, r6⟩ := h4
          have hneq := fun w => run_neq_Val w hk hn 0 0 hs ⟨#[]⟩
          have hg := callGood_cases st id tr kk kn ks hk hn hs nx t b c (by omega) (by omega) (by omega)
          clear e h1
          rcases hg with ⟨g1, e⟩ | ⟨g1, rfl, g2, e⟩ | ⟨g1, rfl, g2, e⟩ | ⟨g1, rfl, g2, g3, e⟩ | ⟨g1, rfl, g2, g3, e⟩ | ⟨g1, rfl, g2, g3, g4, e⟩ | ⟨g1, rfl, g2, g3, g4, e⟩ | ⟨g1, rfl, g2, e⟩ | ⟨g1, rfl, g2, g4, e⟩ | ⟨g1, rfl, g2, g4, g5, e⟩ | ⟨g1, rfl, g2, g4, g5, e⟩
          all_goals
            rw [e]
            clear e
            (try (have g4' : (nx != 0) = true := by simpa using g4))
            go_enter Try.func20, Try.ntmps20
            go_wp2_with (first | (go_at_call 64; refine (gap_Check _ _ _ _).mono ?_; rintro e w1 ⟨rfl, hb1⟩; obtain ⟨hc1, hf1⟩ := bcell hb1; (try simp only [World.heap_drewN, World.cell?_drewN, World.frozen?_drewN] at hc1 hf1); have hz1 := hb1.size; (try simp at hz1); (try (have hy1 := Nat.lt_of_succ_le hz1)); (try (have hx1 := Nat.lt_of_succ_lt hy1)); (try (have hl1_w_0 : w.heap.size < w1.heap.size := by omega)); (try (have hm1_w_0 : w.heap.size ≤ w1.heap.size := by omega)); (try (have hl1_w_1 : w.heap.size + 1 < w1.heap.size := by omega)); (try (have hm1_w_1 : w.heap.size + 1 ≤ w1.heap.size := by omega)); (try (have hl1_w_2 : w.heap.size + 2 < w1.heap.size := by omega)); (try (have hm1_w_2 : w.heap.size + 2 ≤ w1.heap.size := by omega)); (try (have hl1_w_3 : w.heap.size + 3 < w1.heap.size := by omega)); (try (have hm1_w_3 : w.heap.size + 3 ≤ w1.heap.size := by omega)); (try (have hl1_w_4 : w.heap.size + 4 < w1.heap.size := by omega)); (try (have hm1_w_4 : w.heap.size + 4 ≤ w1.heap.size := by omega)); (try (have hl1_w_5 : w.heap.size + 5 < w1.heap.size := by omega)); (try (have hm1_w_5 : w.heap.size + 5 ≤ w1.heap.size := by omega)); (try (have hl1_w_6 : w.heap.size + 6 < w1.heap.size := by omega)); (try (have hm1_w_6 : w.heap.size + 6 ≤ w1.heap.size := by omega))))
            go_quiet (fail)
            go_wp2_with fail
            refine (value_Known _ _ _ _ hks).mono ?_; rintro e w2 ⟨rfl, hb2⟩; obtain ⟨hc2, hf2⟩ := bcell hb2; (try simp only [World.heap_drewN, World.cell?_drewN, World.frozen?_drewN] at hc2 hf2); have hz2 := hb2.size; (try simp at hz2); (try (have hy2 := Nat.lt_of_succ_le hz2)); (try (have hx2 := Nat.lt_of_succ_lt hy2)); (try (have hl2_w_0 : w.heap.size < w2.heap.size := by omega)); (try (have hm2_w_0 : w.heap.size ≤ w2.heap.size := by omega)); (try (have hl2_w_1 : w.heap.size + 1 < w2.heap.size := by omega)); (try (have hm2_w_1 : w.heap.size + 1 ≤ w2.heap.size := by omega)); (try (have hl2_w_2 : w.heap.size + 2 < w2.heap.size := by omega)); (try (have hm2_w_2 : w.heap.size + 2 ≤ w2.heap.size := by omega)); (try (have hl2_w_3 : w.heap.size + 3 < w2.heap.size := by omega)); (try (have hm2_w_3 : w.heap.size + 3 ≤ w2.heap.size := by omega)); (try (have hl2_w_4 : w.heap.size + 4 < w2.heap.size := by omega)); (try (have hm2_w_4 : w.heap.size + 4 ≤ w2.heap.size := by omega)); (try (have hl2_w_5 : w.heap.size + 5 < w2.heap.size := by omega)); (try (have hm2_w_5 : w.heap.size + 5 ≤ w2.heap.size := by omega)); (try (have hl2_w_6 : w.heap.size + 6 < w2.heap.size := by omega)); (try (have hm2_w_6 : w.heap.size + 6 ≤ w2.heap.size := by omega)); (try (have hl2_w1_0 : w1.heap.size < w2.heap.size := by omega)); (try (have hm2_w1_0 : w1.heap.size ≤ w2.heap.size := by omega)); (try (have hl2_w1_1 : w1.heap.size + 1 < w2.heap.size := by omega)); (try (have hm2_w1_1 : w1.heap.size + 1 ≤ w2.heap.size := by omega)); (try (have hl2_w1_2 : w1.heap.size + 2 < w2.heap.size := by omega)); (try (have hm2_w1_2 : w1.heap.size + 2 ≤ w2.heap.size := by omega)); (try (have hl2_w1_3 : w1.heap.size + 3 < w2.heap.size := by omega)); (try (have hm2_w1_3 : w1.heap.size + 3 ≤ w2.heap.size := by omega)); (try (have hl2_w1_4 : w1.heap.size + 4 < w2.heap.size := by omega)); (try (have hm2_w1_4 : w1.heap.size + 4 ≤ w2.heap.size := by omega)); (try (have hl2_w1_5 : w1.heap.size + 5 < w2.heap.size := by omega)); (try (have hm2_w1_5 : w1.heap.size + 5 ≤ w2.heap.size := by omega)); (try (have hl2_w1_6 : w1.heap.size + 6 < w2.heap.size := by omega)); (try (have hm2_w1_6 : w1.heap.size + 6 ≤ w2.heap.size := by omega))
            go_wp2_with (go_at_call 65; refine (value_Known _ _ _ _ hhs).mono ?_; rintro e w3 ⟨rfl, hb3⟩; obtain ⟨hc3, hf3⟩ := bcell hb3; (try simp only [World.heap_drewN, World.cell?_drewN, World.frozen?_drewN] at hc3 hf3); have hz3 := hb3.size; (try simp at hz3); (try (have hy3 := Nat.lt_of_succ_le hz3)); (try (have hx3 := Nat.lt_of_succ_lt hy3)); (try (have hl3_w_0 : w.heap.size < w3.heap.size := by omega)); (try (have hm3_w_0 : w.heap.size ≤ w3.heap.size := by omega)); (try (have hl3_w_1 : w.heap.size + 1 < w3.heap.size := by omega)); (try (have hm3_w_1 : w.heap.size + 1 ≤ w3.heap.size := by omega)); (try (have hl3_w_2 : w.heap.size + 2 < w3.heap.size := by omega)); (try (have hm3_w_2 : w.heap.size + 2 ≤ w3.heap.size := by omega)); (try (have hl3_w_3 : w.heap.size + 3 < w3.heap.size := by omega)); (try (have hm3_w_3 : w.heap.size + 3 ≤ w3.heap.size := by omega)); (try (have hl3_w_4 : w.heap.size + 4 < w3.heap.size := by omega)); (try (have hm3_w_4 : w.heap.size + 4 ≤ w3.heap.size := by omega)); (try (have hl3_w_5 : w.heap.size + 5 < w3.heap.size := by omega)); (try (have hm3_w_5 : w.heap.size + 5 ≤ w3.heap.size := by omega)); (try (have hl3_w_6 : w.heap.size + 6 < w3.heap.size := by omega)); (try (have hm3_w_6 : w.heap.size + 6 ≤ w3.heap.size := by omega)); (try (have hl3_w1_0 : w1.heap.size < w3.heap.size := by omega)); (try (have hm3_w1_0 : w1.heap.size ≤ w3.heap.size := by omega)); (try (have hl3_w1_1 : w1.heap.size + 1 < w3.heap.size := by omega)); (try (have hm3_w1_1 : w1.heap.size + 1 ≤ w3.heap.size := by omega)); (try (have hl3_w1_2 : w1.heap.size + 2 < w3.heap.size := by omega)); (try (have hm3_w1_2 : w1.heap.size + 2 ≤ w3.heap.size := by omega)); (try (have hl3_w1_3 : w1.heap.size + 3 < w3.heap.size := by omega)); (try (have hm3_w1_3 : w1.heap.size + 3 ≤ w3.heap.size := by omega)); (try (have hl3_w1_4 : w1.heap.size + 4 < w3.heap.size := by omega)); (try (have hm3_w1_4 : w1.heap.size + 4 ≤ w3.heap.size := by omega)); (try (have hl3_w1_5 : w1.heap.size + 5 < w3.heap.size := by omega)); (try (have hm3_w1_5 : w1.heap.size + 5 ≤ w3.heap.size := by omega)); (try (have hl3_w1_6 : w1.heap.size + 6 < w3.heap.size := by omega)); (try (have hm3_w1_6 : w1.heap.size + 6 ≤ w3.heap.size := by omega)); (try (have hl3_w2_0 : w2.heap.size < w3.heap.size := by omega)); (try (have hm3_w2_0 : w2.heap.size ≤ w3.heap.size := by omega)); (try (have hl3_w2_1 : w2.heap.size + 1 < w3.heap.size := by omega)); (try (have hm3_w2_1 : w2.heap.size + 1 ≤ w3.heap.size := by omega)); (try (have hl3_w2_2 : w2.heap.size + 2 < w3.heap.size := by omega)); (try (have hm3_w2_2 : w2.heap.size + 2 ≤ w3.heap.size := by omega)); (try (have hl3_w2_3 : w2.heap.size + 3 < w3.heap.size := by omega)); (try (have hm3_w2_3 : w2.heap.size + 3 ≤ w3.heap.size := by omega)); (try (have hl3_w2_4 : w2.heap.size + 4 < w3.heap.size := by omega)); (try (have hm3_w2_4 : w2.heap.size + 4 ≤ w3.heap.size := by omega)); (try (have hl3_w2_5 : w2.heap.size + 5 < w3.heap.size := by omega)); (try (have hm3_w2_5 : w2.heap.size + 5 ≤ w3.heap.size := by omega)); (try (have hl3_w2_6 : w2.heap.size + 6 < w3.heap.size := by omega)); (try (have hm3_w2_6 : w2.heap.size + 6 ≤ w3.heap.size := by omega)))
            go_ret
            exact ⟨rfl, (by repeat (first | with_reducible exact Below.refl _ _ | with_reducible assumption | with_reducible refine below_drewN ?_ _ | with_reducible refine Below.drew ?_ | with_reducible refine below_alloc0 ?_ | with_reducible refine below_alloc ?_ (by simp; try omega) | with_reducible refine below_set ?_ (by simp; try omega) | with_reducible refine below_chain ?_ (by assumption) | (with_reducible refine below_step ?_ (by assumption) (by simp; try omega))))⟩
  · have e : callCheck ⟨st, id, tr, ⟨kk, kn, ks⟩, ⟨hk, hn, hs⟩, nx⟩ ⟨t, b, c⟩ = gapCheck ⟨t, b, c⟩ := by rw [gapCheck_ne h1]; simp [callCheck, h1]
    rw [e]
    have h1' : (gapCheck ⟨t, b, c⟩ != 0) = true := by simpa using h1
    clear e h1
    go_enter Try.func20, Try.ntmps20
    go_wp2_with (first | (go_at_call 64; refine (gap_Check _ _ _ _).mono ?_; rintro e w1 ⟨rfl, hb1⟩; obtain ⟨hc1, hf1⟩ := bcell hb1; (try simp only [World.heap_drewN, World.cell?_drewN, World.frozen?_drewN] at hc1 hf1); have hz1 := hb1.size; (try simp at hz1); (try (have hy1 := Nat.lt_of_succ_le hz1)); (try (have hx1 := Nat.lt_of_succ_lt hy1)); (try (have hl1_w_0 : w.heap.size < w1.heap.size := by omega)); (try (have hm1_w_0 : w.heap.size ≤ w1.heap.size := by omega)); (try (have hl1_w_1 : w.heap.size + 1 < w1.heap.size := by omega)); (try (have hm1_w_1 : w.heap.size + 1 ≤ w1.heap.size := by omega)); (try (have hl1_w_2 : w.heap.size + 2 < w1.heap.size := by omega)); (try (have hm1_w_2 : w.heap.size + 2 ≤ w1.heap.size := by omega)); (try (have hl1_w_3 : w.heap.size + 3 < w1.heap.size := by omega)); (try (have hm1_w_3 : w.heap.size + 3 ≤ w1.heap.size := by omega)); (try (have hl1_w_4 : w.heap.size + 4 < w1.heap.size := by omega)); (try (have hm1_w_4 : w.heap.size + 4 ≤ w1.heap.size := by omega)); (try (have hl1_w_5 : w.heap.size + 5 < w1.heap.size := by omega)); (try (have hm1_w_5 : w.heap.size + 5 ≤ w1.heap.size := by omega)); (try (have hl1_w_6 : w.heap.size + 6 < w1.heap.size := by omega)); (try (have hm1_w_6 : w.heap.size + 6 ≤ w1.heap.size := by omega))))
    go_ret
    exact ⟨rfl, (by repeat (first | with_reducible exact Below.refl _ _ | with_reducible assumption | with_reducible refine below_drewN ?_ _ | with_reducible refine Below.drew ?_ | with_reducible refine below_alloc0 ?_ | with_reducible refine below_alloc ?_ (by simp; try omega) | with_reducible refine below_set ?_ (by simp; try omega) | with_reducible refine below_chain ?_ (by assumption) | (with_reducible refine below_step ?_ (by assumption) (by simp; try omega))))⟩

theorem run_neq_Val0 (w : World) (k n : Int) (s : ByteArray) : (binOp .neq 35 (.agg #[.int .i64 k, .int .i64 n, .string s]) (.agg #[.int .i64 0, .int .i64 0, .string ⟨#[]⟩])).run Try.prog w = .ok (.bool (!isNo ⟨k, n, s⟩)) w := run_neq_Val w k n 0 0 s ⟨#[]⟩
end Go.Proofs.Ytiplgdplfbeahaa
