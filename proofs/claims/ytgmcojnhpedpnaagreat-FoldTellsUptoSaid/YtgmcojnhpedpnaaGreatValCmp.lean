/- value.Compare and the reference ValueOrder. -/
import Derived.Test.YtgmcojnhpedpnaaGreatVal
import Derived.Test.YtgmcojnhpedpnaaGreatCmp
import Derived.Test.YtgmcojnhpedpnaaGreatHeld
import Derived.Deep.DeepCutAuto
namespace Go.Proofs.YtgmcojnhpedpnaaGreat
open Go.RowKit

def valOrder (a b : Val) : Int × Int := if valKnown a = true ∧ valKnown b = true ∧ a.k = b.k then (or2 (cmpI a.n b.n) (cmpS a.s b.s), 0) else (0, 9)
theorem empty_toList {s : ByteArray} (h : emptyCheck s = 0) : s.toList = [] := by
  unfold emptyCheck at h
  by_cases h' : s.toList.isEmpty = true
  · simpa using h'
  · rw [if_neg h'] at h; cases h
theorem known_one {a b : Val} (ha : valKnown a = true) (hb : valKnown b = true) (hk : a.k = b.k) : a.n = b.n ∨ a.s.toList = b.s.toList := by
  obtain ⟨a1, a2, a3⟩ := (valKnown_iff a).1 ha
  obtain ⟨b1, b2, b3⟩ := (valKnown_iff b).1 hb
  obtain ⟨ak, an, sa⟩ := a
  obtain ⟨bk, bn, sb⟩ := b
  simp only at *
  subst hk
  unfold valCheck at a3 b3
  simp only at a3 b3
  rcases (by omega : ak = 1 ∨ ak = 2 ∨ ak = 3) with rfl | rfl | rfl
  · right
    simp at a3 b3
    have e1 : emptyCheck sa = 0 := by (repeat' split at a3) <;> simp_all
    have e2 : emptyCheck sb = 0 := by (repeat' split at b3) <;> simp_all
    rw [empty_toList e1, empty_toList e2]
  · right
    simp at a3 b3
    have e1 : emptyCheck sa = 0 := by (repeat' split at a3) <;> simp_all
    have e2 : emptyCheck sb = 0 := by (repeat' split at b3) <;> simp_all
    rw [empty_toList e1, empty_toList e2]
  · left
    simp at a3 b3
    have e1 : an = 0 := by (repeat' split at a3) <;> simp_all
    have e2 : bn = 0 := by (repeat' split at b3) <;> simp_all
    rw [e1, e2]
def RetII (w : World) (x : Int × Int) (e : Ending) (w' : World) : Prop := e = .returned (.tuple #[.int .i64 x.1, .int .i64 x.2]) ∧ Below w.heap.size w w'
theorem valOrder_cases (ak an : Int) (sa : ByteArray) (bk bn : Int) (sb : ByteArray) :
    let r := valOrder ⟨ak, an, sa⟩ ⟨bk, bn, sb⟩
    (valKnown ⟨ak, an, sa⟩ = false ∧ r = (0, 9)) ∨ (valKnown ⟨ak, an, sa⟩ = true ∧ valKnown ⟨bk, bn, sb⟩ = false ∧ r = (0, 9)) ∨ (valKnown ⟨ak, an, sa⟩ = true ∧ valKnown ⟨bk, bn, sb⟩ = true ∧ (ak != bk) = true ∧ r = (0, 9)) ∨
    (valKnown ⟨ak, an, sa⟩ = true ∧ valKnown ⟨bk, bn, sb⟩ = true ∧ ak = bk ∧ r = (or2 (cmpI an bn) (cmpS sa sb), 0)) := by
  intro r
  have hr : r = valOrder ⟨ak, an, sa⟩ ⟨bk, bn, sb⟩ := rfl
  clear_value r
  unfold valOrder at hr
  by_cases h : ak = bk <;> cases h1 : valKnown ⟨ak, an, sa⟩ <;> cases h2 : valKnown ⟨bk, bn, sb⟩ <;> simp_all
set_option maxHeartbeats 2000000 in
theorem value_Compare (ak an : Int) (sa : ByteArray) (bk bn : Int) (sb : ByteArray) (w : World) (s1 : sa.size ≤ maxLen) (s2 : sb.size ≤ maxLen) :
    Calls Tryz.prog 152 #[.agg #[.int .i64 ak, .int .i64 an, .string sa], .agg #[.int .i64 bk, .int .i64 bn, .string sb]] w (RetII w (valOrder ⟨ak, an, sa⟩ ⟨bk, bn, sb⟩)) := by
  rcases valOrder_cases ak an sa bk bn sb with ⟨h1, e⟩ | ⟨h1, h2, e⟩ | ⟨h1, h2, h3, e⟩ | ⟨h1, h2, rfl, e⟩
  · rw [e]; clear e
    go_enter Tryz.func152, Tryz.ntmps152
    go_wp2_with (go_at_call 64; refine (value_Known _ _ _ _ s1).mono ?_; rintro e w1 ⟨rfl, hb1⟩; obtain ⟨hc1, hf1⟩ := bcell hb1; (try simp only [World.heap_drewN, World.cell?_drewN, World.frozen?_drewN] at hc1 hf1); have hz1 := hb1.size; (try simp at hz1); (try (have hy1 := Nat.lt_of_succ_le hz1)); (try (have hx1 := Nat.lt_of_succ_lt hy1)); (first | refine szz6 w1 w (by omega) ?_ | refine szz5 w1 w (by omega) ?_ | refine szz4 w1 w (by omega) ?_ | refine szz3 w1 w (by omega) ?_ | refine szz2 w1 w (by omega) ?_ | refine szz1 w1 w (by omega) ?_ | refine szz0 w1 w (by omega) ?_ | refine szzn w1 w (by omega) ?_ | skip); intros)
    go_ret2
    exact ⟨rfl, bel⟩
  · rw [e]; clear e
    go_enter Tryz.func152, Tryz.ntmps152
    go_wp2_with fail
    refine (value_Known _ _ _ _ s1).mono ?_; rintro e w1 ⟨rfl, hb1⟩; obtain ⟨hc1, hf1⟩ := bcell hb1; (try simp only [World.heap_drewN, World.cell?_drewN, World.frozen?_drewN] at hc1 hf1); have hz1 := hb1.size; (try simp at hz1); (try (have hy1 := Nat.lt_of_succ_le hz1)); (try (have hx1 := Nat.lt_of_succ_lt hy1)); (first | refine szz6 w1 w (by omega) ?_ | refine szz5 w1 w (by omega) ?_ | refine szz4 w1 w (by omega) ?_ | refine szz3 w1 w (by omega) ?_ | refine szz2 w1 w (by omega) ?_ | refine szz1 w1 w (by omega) ?_ | refine szz0 w1 w (by omega) ?_ | refine szzn w1 w (by omega) ?_ | skip); intros
    go_wp2_with (go_at_call 64; refine (value_Known _ _ _ _ s2).mono ?_; rintro e w2 ⟨rfl, hb2⟩; obtain ⟨hc2, hf2⟩ := bcell hb2; (try simp only [World.heap_drewN, World.cell?_drewN, World.frozen?_drewN] at hc2 hf2); have hz2 := hb2.size; (try simp at hz2); (try (have hy2 := Nat.lt_of_succ_le hz2)); (try (have hx2 := Nat.lt_of_succ_lt hy2)); (first | refine szz6 w2 w (by omega) ?_ | refine szz5 w2 w (by omega) ?_ | refine szz4 w2 w (by omega) ?_ | refine szz3 w2 w (by omega) ?_ | refine szz2 w2 w (by omega) ?_ | refine szz1 w2 w (by omega) ?_ | refine szz0 w2 w (by omega) ?_ | refine szzn w2 w (by omega) ?_ | skip); intros; (first | refine szz6 w2 w1 (by omega) ?_ | refine szz5 w2 w1 (by omega) ?_ | refine szz4 w2 w1 (by omega) ?_ | refine szz3 w2 w1 (by omega) ?_ | refine szz2 w2 w1 (by omega) ?_ | refine szz1 w2 w1 (by omega) ?_ | refine szz0 w2 w1 (by omega) ?_ | refine szzn w2 w1 (by omega) ?_ | skip); intros)
    go_ret2
    exact ⟨rfl, bel⟩
  · rw [e]; clear e
    go_enter Tryz.func152, Tryz.ntmps152
    go_wp2_with fail
    refine (value_Known _ _ _ _ s1).mono ?_; rintro e w1 ⟨rfl, hb1⟩; obtain ⟨hc1, hf1⟩ := bcell hb1; (try simp only [World.heap_drewN, World.cell?_drewN, World.frozen?_drewN] at hc1 hf1); have hz1 := hb1.size; (try simp at hz1); (try (have hy1 := Nat.lt_of_succ_le hz1)); (try (have hx1 := Nat.lt_of_succ_lt hy1)); (first | refine szz6 w1 w (by omega) ?_ | refine szz5 w1 w (by omega) ?_ | refine szz4 w1 w (by omega) ?_ | refine szz3 w1 w (by omega) ?_ | refine szz2 w1 w (by omega) ?_ | refine szz1 w1 w (by omega) ?_ | refine szz0 w1 w (by omega) ?_ | refine szzn w1 w (by omega) ?_ | skip); intros
    go_wp2_with (go_at_call 64; refine (value_Known _ _ _ _ s2).mono ?_; rintro e w2 ⟨rfl, hb2⟩; obtain ⟨hc2, hf2⟩ := bcell hb2; (try simp only [World.heap_drewN, World.cell?_drewN, World.frozen?_drewN] at hc2 hf2); have hz2 := hb2.size; (try simp at hz2); (try (have hy2 := Nat.lt_of_succ_le hz2)); (try (have hx2 := Nat.lt_of_succ_lt hy2)); (first | refine szz6 w2 w (by omega) ?_ | refine szz5 w2 w (by omega) ?_ | refine szz4 w2 w (by omega) ?_ | refine szz3 w2 w (by omega) ?_ | refine szz2 w2 w (by omega) ?_ | refine szz1 w2 w (by omega) ?_ | refine szz0 w2 w (by omega) ?_ | refine szzn w2 w (by omega) ?_ | skip); intros; (first | refine szz6 w2 w1 (by omega) ?_ | refine szz5 w2 w1 (by omega) ?_ | refine szz4 w2 w1 (by omega) ?_ | refine szz3 w2 w1 (by omega) ?_ | refine szz2 w2 w1 (by omega) ?_ | refine szz1 w2 w1 (by omega) ?_ | refine szz0 w2 w1 (by omega) ?_ | refine szzn w2 w1 (by omega) ?_ | skip); intros)
    go_ret2
    exact ⟨rfl, bel⟩
  · rw [e]; clear e
    go_enter Tryz.func152, Tryz.ntmps152
    go_wp2_with fail
    refine (value_Known _ _ _ _ s1).mono ?_; rintro e w1 ⟨rfl, hb1⟩; obtain ⟨hc1, hf1⟩ := bcell hb1; (try simp only [World.heap_drewN, World.cell?_drewN, World.frozen?_drewN] at hc1 hf1); have hz1 := hb1.size; (try simp at hz1); (try (have hy1 := Nat.lt_of_succ_le hz1)); (try (have hx1 := Nat.lt_of_succ_lt hy1)); (first | refine szz6 w1 w (by omega) ?_ | refine szz5 w1 w (by omega) ?_ | refine szz4 w1 w (by omega) ?_ | refine szz3 w1 w (by omega) ?_ | refine szz2 w1 w (by omega) ?_ | refine szz1 w1 w (by omega) ?_ | refine szz0 w1 w (by omega) ?_ | refine szzn w1 w (by omega) ?_ | skip); intros
    go_upto_region 3 with (go_at_call 64; refine (value_Known _ _ _ _ s2).mono ?_; rintro e w2 ⟨rfl, hb2⟩; obtain ⟨hc2, hf2⟩ := bcell hb2; (try simp only [World.heap_drewN, World.cell?_drewN, World.frozen?_drewN] at hc2 hf2); have hz2 := hb2.size; (try simp at hz2); (try (have hy2 := Nat.lt_of_succ_le hz2)); (try (have hx2 := Nat.lt_of_succ_lt hy2)); (first | refine szz6 w2 w (by omega) ?_ | refine szz5 w2 w (by omega) ?_ | refine szz4 w2 w (by omega) ?_ | refine szz3 w2 w (by omega) ?_ | refine szz2 w2 w (by omega) ?_ | refine szz1 w2 w (by omega) ?_ | refine szz0 w2 w (by omega) ?_ | refine szzn w2 w (by omega) ?_ | skip); intros; (first | refine szz6 w2 w1 (by omega) ?_ | refine szz5 w2 w1 (by omega) ?_ | refine szz4 w2 w1 (by omega) ?_ | refine szz3 w2 w1 (by omega) ?_ | refine szz2 w2 w1 (by omega) ?_ | refine szz1 w2 w1 (by omega) ?_ | refine szz0 w2 w1 (by omega) ?_ | refine szzn w2 w1 (by omega) ?_ | skip); intros)
    go_cut [4, 5] (fun s4 s5 wx => s4 = .int .i64 (or2 (cmpI an bn) (cmpS sa sb)) ∧ s5 = .int .i64 0 ∧ Below w.heap.size w wx)
    case first =>
      refine wp_world ?_; intro W0 hW0
      have hS0 : W0.cell? ⟨w.heap.size, 1, none⟩ = some (.int .i64 an) ∧ W0.cell? ⟨w.heap.size, 2, none⟩ = some (.string sa) ∧ W0.cell? ⟨w.heap.size + 1, 1, none⟩ = some (.int .i64 bn) ∧ W0.cell? ⟨w.heap.size + 1, 2, none⟩ = some (.string sb) ∧ Below W0.heap.size W0 W0 ∧ W0.heap.size ≤ W0.heap.size := ⟨by rw [hW0]; go_simp, by rw [hW0]; go_simp, by rw [hW0]; go_simp, by rw [hW0]; go_simp, Below.refl _ _, Nat.le_refl _⟩
      have HW0 := Lib.hid hW0; clear hW0
      go_region_held3 (fun w' => w'.cell? ⟨w.heap.size, 1, none⟩ = some (.int .i64 an) ∧ w'.cell? ⟨w.heap.size, 2, none⟩ = some (.string sa) ∧ w'.cell? ⟨w.heap.size + 1, 1, none⟩ = some (.int .i64 bn) ∧ w'.cell? ⟨w.heap.size + 1, 2, none⟩ = some (.string sb) ∧ Below W0.heap.size W0 w' ∧ W0.heap.size ≤ w'.heap.size) (first | exact held4d (by assumption) | exact held4 (by assumption) (by assumption) | assumption | exact held4o hS0 bel) (first | (go_at_call 53; refine (cmp_Compare_int _ _ _).mono ?_; rintro e w' ⟨rfl, rfl⟩) | (go_at_call 166; refine (cmp_Compare_str _ _ _).mono ?_; rintro e w' ⟨rfl, rfl⟩) | (go_at_call 165; refine (cmp_Or2 _ (cmpI an bn) (cmpS sa sb) _ ?h0 ?h1).mono ?_; (case h0 => go_simp); (case h1 => go_simp); rintro e w' ⟨rfl, rfl⟩))
      all_goals
        obtain ⟨_, _, _, _, hb9, _⟩ := held4i (by assumption)
        clear hS0
      all_goals
        go_wp2_with fail
        go_meet
        refine ⟨rfl, rfl, ?_⟩
        have hW0 := HW0.out
        subst hW0
        exact bel
    case rest =>
      obtain ⟨rfl, rfl, hb3⟩ := hcut
      go_wp2_with fail
      go_ret2
      exact ⟨rfl, bel⟩
theorem less_cases (an bn : Int) (sa sb : ByteArray) (h : an = bn ∨ sa.toList = sb.toList) :
    let x := or2 (cmpI an bn) (cmpS sa sb)
    (an < bn ∧ x = -1) ∨ (bn ≤ an ∧ Op.bytesLess sa.toList sb.toList = true ∧ x = -1) ∨ (bn < an ∧ Op.bytesLess sa.toList sb.toList = false ∧ x = 1) ∨
    (an = bn ∧ Op.bytesLess sa.toList sb.toList = false ∧ (!sa.toList == sb.toList) = true ∧ x = 1) ∨ (an = bn ∧ Op.bytesLess sa.toList sb.toList = false ∧ (!sa.toList == sb.toList) = false ∧ x = 0) := by
  intro x
  have hx : x = or2 (cmpI an bn) (cmpS sa sb) := rfl
  clear_value x
  have hself : ∀ l : List UInt8, Op.bytesLess l l = false := by
    intro l
    induction l with
    | nil => rfl
    | cons a l ih => simp [Op.bytesLess, ih]
  unfold or2 cmpI cmpS at hx
  rcases Int.lt_trichotomy an bn with h1 | h1 | h1
  · left; refine ⟨h1, ?_⟩; rw [hx, if_pos h1]; rfl
  · subst h1
    rw [if_neg (Int.lt_irrefl _), if_neg (Int.lt_irrefl _), if_pos rfl] at hx
    cases h2 : Op.bytesLess sa.toList sb.toList
    · rw [h2, if_neg (by simp)] at hx
      by_cases h3 : sa.toList = sb.toList
      · rw [if_pos h3] at hx
        exact .inr (.inr (.inr (.inr ⟨rfl, rfl, by simp [h3], hx⟩)))
      · rw [if_neg h3] at hx
        exact .inr (.inr (.inr (.inl ⟨rfl, rfl, by simp [h3], hx⟩)))
    · rw [h2, if_pos rfl] at hx
      exact .inr (.inl ⟨Int.le_refl _, rfl, hx⟩)
  · have h3 : sa.toList = sb.toList := by rcases h with h | h; omega; exact h
    rw [if_neg (show ¬ an < bn by omega), if_pos h1, if_neg (show ¬ (1 : Int) = 0 by decide)] at hx
    exact .inr (.inr (.inl ⟨h1, by rw [h3]; exact hself _, hx⟩))
set_option maxHeartbeats 4000000 in
theorem ref_ValueOrder (ak an : Int) (sa : ByteArray) (bk bn : Int) (sb : ByteArray) (w : World) (s1 : sa.size ≤ maxLen) (s2 : sb.size ≤ maxLen) :
    Calls Tryz.prog 107 #[.agg #[.int .i64 ak, .int .i64 an, .string sa], .agg #[.int .i64 bk, .int .i64 bn, .string sb]] w (RetII w (valOrder ⟨ak, an, sa⟩ ⟨bk, bn, sb⟩)) := by
  by_cases hk : ak = bk
  · subst hk
    rcases valOrder_cases ak an sa ak bn sb with ⟨h1, e⟩ | ⟨h1, h2, e⟩ | ⟨h1, h2, h3, e⟩ | ⟨h1, h2, _, e⟩
    · rw [e]; clear e
      go_enter Tryz.func107, Tryz.ntmps107
      go_wp2_with (go_at_call 105; refine (ref_Known _ _ _ _ s1).mono ?_; rintro e w1 ⟨rfl, hb1⟩; obtain ⟨hc1, hf1⟩ := bcell hb1; (try simp only [World.heap_drewN, World.cell?_drewN, World.frozen?_drewN] at hc1 hf1); have hz1 := hb1.size; (try simp at hz1); (try (have hy1 := Nat.lt_of_succ_le hz1)); (try (have hx1 := Nat.lt_of_succ_lt hy1)); (first | refine szz6 w1 w (by omega) ?_ | refine szz5 w1 w (by omega) ?_ | refine szz4 w1 w (by omega) ?_ | refine szz3 w1 w (by omega) ?_ | refine szz2 w1 w (by omega) ?_ | refine szz1 w1 w (by omega) ?_ | refine szz0 w1 w (by omega) ?_ | refine szzn w1 w (by omega) ?_ | skip); intros)
      go_ret2
      exact ⟨rfl, bel⟩
    · rw [e]; clear e
      go_enter Tryz.func107, Tryz.ntmps107
      go_wp2_with fail
      refine (ref_Known _ _ _ _ s1).mono ?_; rintro e w1 ⟨rfl, hb1⟩; obtain ⟨hc1, hf1⟩ := bcell hb1; (try simp only [World.heap_drewN, World.cell?_drewN, World.frozen?_drewN] at hc1 hf1); have hz1 := hb1.size; (try simp at hz1); (try (have hy1 := Nat.lt_of_succ_le hz1)); (try (have hx1 := Nat.lt_of_succ_lt hy1)); (first | refine szz6 w1 w (by omega) ?_ | refine szz5 w1 w (by omega) ?_ | refine szz4 w1 w (by omega) ?_ | refine szz3 w1 w (by omega) ?_ | refine szz2 w1 w (by omega) ?_ | refine szz1 w1 w (by omega) ?_ | refine szz0 w1 w (by omega) ?_ | refine szzn w1 w (by omega) ?_ | skip); intros
      go_wp2_with (go_at_call 105; refine (ref_Known _ _ _ _ s2).mono ?_; rintro e w2 ⟨rfl, hb2⟩; obtain ⟨hc2, hf2⟩ := bcell hb2; (try simp only [World.heap_drewN, World.cell?_drewN, World.frozen?_drewN] at hc2 hf2); have hz2 := hb2.size; (try simp at hz2); (try (have hy2 := Nat.lt_of_succ_le hz2)); (try (have hx2 := Nat.lt_of_succ_lt hy2)); (first | refine szz6 w2 w (by omega) ?_ | refine szz5 w2 w (by omega) ?_ | refine szz4 w2 w (by omega) ?_ | refine szz3 w2 w (by omega) ?_ | refine szz2 w2 w (by omega) ?_ | refine szz1 w2 w (by omega) ?_ | refine szz0 w2 w (by omega) ?_ | refine szzn w2 w (by omega) ?_ | skip); intros; (first | refine szz6 w2 w1 (by omega) ?_ | refine szz5 w2 w1 (by omega) ?_ | refine szz4 w2 w1 (by omega) ?_ | refine szz3 w2 w1 (by omega) ?_ | refine szz2 w2 w1 (by omega) ?_ | refine szz1 w2 w1 (by omega) ?_ | refine szz0 w2 w1 (by omega) ?_ | refine szzn w2 w1 (by omega) ?_ | skip); intros)
      go_ret2
      exact ⟨rfl, bel⟩
    · simp at h3
    · have hl := less_cases an bn sa sb (known_one h1 h2 rfl)
      rw [e]; clear e
      rcases hl with ⟨q1, e⟩ | ⟨q1, q2, e⟩ | ⟨q1, q2, e⟩ | ⟨rfl, q2, q3, e⟩ | ⟨rfl, q2, q3, e⟩
      all_goals
        rw [e]; clear e
        go_enter Tryz.func107, Tryz.ntmps107
        go_wp2_with fail
        refine (ref_Known _ _ _ _ s1).mono ?_; rintro e w1 ⟨rfl, hb1⟩; obtain ⟨hc1, hf1⟩ := bcell hb1; (try simp only [World.heap_drewN, World.cell?_drewN, World.frozen?_drewN] at hc1 hf1); have hz1 := hb1.size; (try simp at hz1); (try (have hy1 := Nat.lt_of_succ_le hz1)); (try (have hx1 := Nat.lt_of_succ_lt hy1)); (first | refine szz6 w1 w (by omega) ?_ | refine szz5 w1 w (by omega) ?_ | refine szz4 w1 w (by omega) ?_ | refine szz3 w1 w (by omega) ?_ | refine szz2 w1 w (by omega) ?_ | refine szz1 w1 w (by omega) ?_ | refine szz0 w1 w (by omega) ?_ | refine szzn w1 w (by omega) ?_ | skip); intros
        go_wp2_with (go_at_call 105; refine (ref_Known _ _ _ _ s2).mono ?_; rintro e w2 ⟨rfl, hb2⟩; obtain ⟨hc2, hf2⟩ := bcell hb2; (try simp only [World.heap_drewN, World.cell?_drewN, World.frozen?_drewN] at hc2 hf2); have hz2 := hb2.size; (try simp at hz2); (try (have hy2 := Nat.lt_of_succ_le hz2)); (try (have hx2 := Nat.lt_of_succ_lt hy2)); (first | refine szz6 w2 w (by omega) ?_ | refine szz5 w2 w (by omega) ?_ | refine szz4 w2 w (by omega) ?_ | refine szz3 w2 w (by omega) ?_ | refine szz2 w2 w (by omega) ?_ | refine szz1 w2 w (by omega) ?_ | refine szz0 w2 w (by omega) ?_ | refine szzn w2 w (by omega) ?_ | skip); intros; (first | refine szz6 w2 w1 (by omega) ?_ | refine szz5 w2 w1 (by omega) ?_ | refine szz4 w2 w1 (by omega) ?_ | refine szz3 w2 w1 (by omega) ?_ | refine szz2 w2 w1 (by omega) ?_ | refine szz1 w2 w1 (by omega) ?_ | refine szz0 w2 w1 (by omega) ?_ | refine szzn w2 w1 (by omega) ?_ | skip); intros)
        go_ret2
        exact ⟨rfl, bel⟩
  · have e : valOrder ⟨ak, an, sa⟩ ⟨bk, bn, sb⟩ = (0, 9) := by unfold valOrder; rw [if_neg (fun h => hk h.2.2)]
    have hk' : (ak != bk) = true := by simpa using hk
    rw [e]; clear e hk
    go_enter Tryz.func107, Tryz.ntmps107
    go_wp2_with fail
    go_ret2
    exact ⟨rfl, bel⟩
end Go.Proofs.YtgmcojnhpedpnaaGreat
