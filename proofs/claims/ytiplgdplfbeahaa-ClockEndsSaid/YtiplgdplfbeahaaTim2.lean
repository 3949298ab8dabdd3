/- clock.Check and the reference TimersFault. -/
import Derived.Test.YtiplgdplfbeahaaTim
namespace Go.Proofs.Ytiplgdplfbeahaa
open Go.RowKit

theorem tmrStep_cases {l : List Tmr} {k : Nat} {t : Tmr} (h : l[k]? = some t) :
    (t.id < 1 ∧ tmrStep l k = 4) ∨ (1 ≤ t.id ∧ t.at_ < 0 ∧ tmrStep l k = 4) ∨ (1 ≤ t.id ∧ 0 ≤ t.at_ ∧ 1073741824 < t.at_ ∧ tmrStep l k = 4) ∨
    (1 ≤ t.id ∧ 0 ≤ t.at_ ∧ t.at_ ≤ 1073741824 ∧ (l.take k).any (tmrId t.id) = true ∧ tmrStep l k = 6) ∨
    (1 ≤ t.id ∧ 0 ≤ t.at_ ∧ t.at_ ≤ 1073741824 ∧ (l.take k).any (tmrId t.id) = false ∧ k = 0 ∧ tmrStep l k = 0) ∨
    (1 ≤ t.id ∧ 0 ≤ t.at_ ∧ t.at_ ≤ 1073741824 ∧ (l.take k).any (tmrId t.id) = false ∧ ∃ j p, k = j + 1 ∧ l[j]? = some p ∧ ((sooner t p = true ∧ tmrCmp p t = 1 ∧ tmrStep l k = 15) ∨ (sooner t p = false ∧ tmrCmp p t ≤ 0 ∧ tmrStep l k = 0))) := by
  have hk : k < l.length := (List.getElem?_eq_some_iff.1 h).1
  unfold tmrStep
  rw [h]
  simp only
  by_cases h1 : t.id < 1
  · left; exact ⟨h1, by rw [if_pos (.inl h1)]⟩
  · by_cases h2 : t.at_ < 0
    · right; left; exact ⟨by omega, h2, by rw [if_pos (.inr (.inl h2))]⟩
    · by_cases h3 : 1073741824 < t.at_
      · right; right; left; exact ⟨by omega, by omega, h3, by rw [if_pos (.inr (.inr h3))]⟩
      · rw [if_neg (by omega)]
        cases h4 : (l.take k).any (tmrId t.id)
        · simp only [Bool.false_eq_true, if_false]
          cases k with
          | zero => right; right; right; right; left; exact ⟨by omega, by omega, by omega, (by first | exact h4 | trivial), rfl, by simp [tmrBack]⟩
          | succ j =>
            right; right; right; right; right
            obtain ⟨p, hp⟩ : ∃ p, l[j]? = some p := ⟨_, List.getElem?_eq_getElem (by omega)⟩
            refine ⟨by omega, by omega, by omega, (by first | exact h4 | trivial), j, p, rfl, hp, ?_⟩
            simp only [tmrBack, hp]
            rcases tmrCmp_cases t p with ⟨e1, e2, e3⟩ | ⟨e1, e2, e3⟩ | ⟨e1, e2, e3, e4⟩
            · left
              rcases tmrCmp_cases p t with ⟨f1, f2, f3⟩ | ⟨f1, f2, f3⟩ | ⟨f1, f2, f3, f4⟩
              · rw [e2] at f1; cases f1
              · exact ⟨e1, f3, by rw [e1]; rfl⟩
              · rw [e1] at f2; cases f2
            · right
              rcases tmrCmp_cases p t with ⟨f1, f2, f3⟩ | ⟨f1, f2, f3⟩ | ⟨f1, f2, f3, f4⟩
              · exact ⟨e1, by rw [f3]; decide, by rw [e1]; rfl⟩
              · rw [e2] at f1; cases f1
              · exact ⟨e1, by rw [f4]; decide, by rw [e1]; rfl⟩
            · right
              refine ⟨e1, ?_, by rw [e1]; rfl⟩
              rw [e3]; rw [e3] at e4; rw [e4]; decide
        · right; right; right; left; exact ⟨by omega, by omega, by omega, (by first | exact h4 | trivial), by simp⟩
theorem idxOf_none {α : Type} {p : α → Bool} {l : List α} (h : l.any p = false) : idxOf p l = -1 := by rw [idxOf, h]; rfl
theorem idxOf_some {α : Type} {p : α → Bool} {l : List α} (h : l.any p = true) : idxOf p l = (firstAt p l : Int) := by rw [idxOf, h]; rfl
set_option maxRecDepth 100000 in
set_option maxHeartbeats 4000000 in
theorem clock_Check (A : Option Addr) (n c : Nat) (l : List Tmr) (w : World) (hn : inL n) (hc : n ≤ c) (h : Sl w (old w) 2 RTmr A n l) :
    Calls Try.prog 32 #[.slice A n c] w (RetI w (tmrCheck l)) := by
  unfold inL at hn
  have HH := Lib.hid h
  have hlen := h.len
  clear h
  by_cases h20 : 20 < n
  · have e : tmrCheck l = 1 := by rw [tmrCheck, if_pos (by rw [hlen]; exact h20)]
    rw [e]
    clear e
    go_enter Try.func32, Try.ntmps32
    go_wp2_with fail
    go_ret
    exact ⟨rfl, Below.refl _ _⟩
  · have e : tmrCheck l = firstErr (tmrStep l) n := by rw [tmrCheck, if_neg (by rw [hlen]; exact h20), hlen]
    rw [e]
    have HE := Lib.hid hlen
    clear e hlen
    go_enter Try.func32, Try.ntmps32
    go_wp2_with fail
    go_loopw [10] (fun i wr => ∃ k : Nat, k ≤ n ∧ i = .int .i64 k ∧ firstErr (tmrStep l) k = 0 ∧ Below w.heap.size w wr) (fun i _ => n - (intOf i).toNat)
    case atStart => exact ⟨0, by omega, rfl, rfl, Below.refl _ _⟩
    case round =>
      obtain ⟨k, hk, rfl, hv, hbr⟩ := hrel
      by_cases hlt : k < n
      · obtain ⟨b, o, t, rfl, hbl, hl, _, x0, x1⟩ := Tmr_at (HH.out.now hbr) hlt
        have hbl' : b < wr.heap.size := hbl
        have hst := tmrStep_cases hl
        have HL := Lib.hid (And.intro hv hl)
        clear hv hl hbl
        have hkc : k ≤ c := by omega
        have hk' : inL k := by unfold inL; omega
        rcases hst with ⟨t1, t2⟩ | ⟨t1, t2, t3⟩ | ⟨t1, t2, t3, t4⟩ | ⟨t1, t2, t3, t4, t5⟩ | ⟨t1, t2, t3, t4, tk, t5⟩ | ⟨t1, t2, t3, t4, j, p, tk, t5, ⟨t6, t7, t8⟩ | ⟨t6, t7, t8⟩⟩
        · have HT := Lib.hid t2
          clear t2
          go_wp2_with fail
          go_ret
          exact ⟨ret_int (by rw [firstErr_hit HL.out.1 (by rw [HT.out]; decide) n hlt, HT.out]), (by repeat (first | with_reducible exact Below.refl _ _ | with_reducible assumption | with_reducible refine below_drewN ?_ _ | with_reducible refine Below.drew ?_ | with_reducible refine below_alloc0 ?_ | with_reducible refine below_alloc ?_ (by simp; try omega) | with_reducible refine below_set ?_ (by simp; try omega) | with_reducible refine below_chain ?_ (by assumption) | (with_reducible refine below_step ?_ (by assumption) (by simp; try omega))))⟩
        · have HT := Lib.hid t3
          clear t3
          go_wp2_with fail
          go_ret
          exact ⟨ret_int (by rw [firstErr_hit HL.out.1 (by rw [HT.out]; decide) n hlt, HT.out]), (by repeat (first | with_reducible exact Below.refl _ _ | with_reducible assumption | with_reducible refine below_drewN ?_ _ | with_reducible refine Below.drew ?_ | with_reducible refine below_alloc0 ?_ | with_reducible refine below_alloc ?_ (by simp; try omega) | with_reducible refine below_set ?_ (by simp; try omega) | with_reducible refine below_chain ?_ (by assumption) | (with_reducible refine below_step ?_ (by assumption) (by simp; try omega))))⟩
        · have HT := Lib.hid t4
          clear t4
          go_wp2_with fail
          go_ret
          exact ⟨ret_int (by rw [firstErr_hit HL.out.1 (by rw [HT.out]; decide) n hlt, HT.out]), (by repeat (first | with_reducible exact Below.refl _ _ | with_reducible assumption | with_reducible refine below_drewN ?_ _ | with_reducible refine Below.drew ?_ | with_reducible refine below_alloc0 ?_ | with_reducible refine below_alloc ?_ (by simp; try omega) | with_reducible refine below_set ?_ (by simp; try omega) | with_reducible refine below_chain ?_ (by assumption) | (with_reducible refine below_step ?_ (by assumption) (by simp; try omega))))⟩
        · have HT := Lib.hid (And.intro (idxOf_some t4) t5)
          clear t4 t5
          go_wp2_with fail
          refine wp_world ?_; intro W0 hW0
          have hS0 : W0.cell? ⟨wr.heap.size, 0, none⟩ = some (.int .i64 t.id) ∧ Below W0.heap.size W0 W0 ∧ W0.heap.size ≤ W0.heap.size := ⟨by rw [hW0]; go_simp, Below.refl _ _, Nat.le_refl _⟩
          have HW0 := Lib.hid hW0; clear hW0
          refine wp_quietC (C := fun w' => w'.cell? ⟨wr.heap.size, 0, none⟩ = some (.int .i64 t.id) ∧ Below W0.heap.size W0 w' ∧ W0.heap.size ≤ w'.heap.size) (by kernel_rfl) (by kernel_rfl) (held1d hS0) ?_
          clear hS0
          repeat (first
            | go_big_quiet_skip
            | (go_big_quiet_want; go_big_quiet_op; go_big_quiet_on)
            | (go_big_quiet_want
               apply Exists.intro
               refine ⟨fun w' hw' => ?_, ?_⟩
               · unfold Oper.quietAt
                 have hqs := hw'
                 obtain ⟨hq0, hqb, hql⟩ := hw'
                 try go_simp
                 first
                   | with_reducible rfl
                   | exact ⟨rfl, rfl⟩
                   | (go_at_call 78; refine (clock_index _ k _ (l.take k) t.id _ hk' ((HH.out.now (below_chain (by rw [HW0.out]; exact (by repeat (first | with_reducible exact Below.refl _ _ | with_reducible assumption | with_reducible refine below_drewN ?_ _ | with_reducible refine Below.drew ?_ | with_reducible refine below_alloc0 ?_ | with_reducible refine below_alloc ?_ (by simp; try omega) | with_reducible refine below_set ?_ (by simp; try omega) | with_reducible refine below_chain ?_ (by assumption) | (with_reducible refine below_step ?_ (by assumption) (by simp; try omega))))) hqb)).take' hk)).mono ?_; rintro e w2 ⟨rfl, hb2⟩; rw [HT.out.1]; exact ⟨rfl, held1 hqs hb2⟩)
               go_big_quiet_on
               try go_simp))
          refine wpQuiet_nil ?_; intro wq2; (try simp only [and_imp]); intro hq0 hb2 hql; clear hq0 hql
          have hW0 := HW0.out; clear HW0; subst hW0
          obtain ⟨hc2, hf2⟩ := bcell hb2; (try simp only [World.heap_drewN, World.cell?_drewN, World.frozen?_drewN] at hc2 hf2); have hz2 := hb2.size; (try simp at hz2); (try (have hy2 := Nat.lt_of_succ_le hz2)); (try (have hx2 := Nat.lt_of_succ_lt hy2))
          go_wp2_with fail
          go_ret
          exact ⟨ret_int (by rw [firstErr_hit HL.out.1 (by rw [HT.out.2]; decide) n hlt, HT.out.2]), (by repeat (first | with_reducible exact Below.refl _ _ | with_reducible assumption | with_reducible refine below_drewN ?_ _ | with_reducible refine Below.drew ?_ | with_reducible refine below_alloc0 ?_ | with_reducible refine below_alloc ?_ (by simp; try omega) | with_reducible refine below_set ?_ (by simp; try omega) | with_reducible refine below_chain ?_ (by assumption) | (with_reducible refine below_step ?_ (by assumption) (by simp; try omega))))⟩
        · have HT := Lib.hid (And.intro (idxOf_none t4) t5)
          have hk0 : ¬ 0 < k := by omega
          have HK := Lib.hid tk
          clear t4 t5 tk
          go_wp2_with fail
          refine wp_world ?_; intro W0 hW0
          have hS0 : W0.cell? ⟨wr.heap.size, 0, none⟩ = some (.int .i64 t.id) ∧ Below W0.heap.size W0 W0 ∧ W0.heap.size ≤ W0.heap.size := ⟨by rw [hW0]; go_simp, Below.refl _ _, Nat.le_refl _⟩
          have HW0 := Lib.hid hW0; clear hW0
          refine wp_quietC (C := fun w' => w'.cell? ⟨wr.heap.size, 0, none⟩ = some (.int .i64 t.id) ∧ Below W0.heap.size W0 w' ∧ W0.heap.size ≤ w'.heap.size) (by kernel_rfl) (by kernel_rfl) (held1d hS0) ?_
          clear hS0
          repeat (first
            | go_big_quiet_skip
            | (go_big_quiet_want; go_big_quiet_op; go_big_quiet_on)
            | (go_big_quiet_want
               apply Exists.intro
               refine ⟨fun w' hw' => ?_, ?_⟩
               · unfold Oper.quietAt
                 have hqs := hw'
                 obtain ⟨hq0, hqb, hql⟩ := hw'
                 try go_simp
                 first
                   | with_reducible rfl
                   | exact ⟨rfl, rfl⟩
                   | (go_at_call 78; refine (clock_index _ k _ (l.take k) t.id _ hk' ((HH.out.now (below_chain (by rw [HW0.out]; exact (by repeat (first | with_reducible exact Below.refl _ _ | with_reducible assumption | with_reducible refine below_drewN ?_ _ | with_reducible refine Below.drew ?_ | with_reducible refine below_alloc0 ?_ | with_reducible refine below_alloc ?_ (by simp; try omega) | with_reducible refine below_set ?_ (by simp; try omega) | with_reducible refine below_chain ?_ (by assumption) | (with_reducible refine below_step ?_ (by assumption) (by simp; try omega))))) hqb)).take' hk)).mono ?_; rintro e w2 ⟨rfl, hb2⟩; rw [HT.out.1]; exact ⟨rfl, held1 hqs hb2⟩)
               go_big_quiet_on
               try go_simp))
          refine wpQuiet_nil ?_; intro wq2; (try simp only [and_imp]); intro hq0 hb2 hql; clear hq0 hql
          have hW0 := HW0.out; clear HW0; subst hW0
          obtain ⟨hc2, hf2⟩ := bcell hb2; (try simp only [World.heap_drewN, World.cell?_drewN, World.frozen?_drewN] at hc2 hf2); have hz2 := hb2.size; (try simp at hz2); (try (have hy2 := Nat.lt_of_succ_le hz2)); (try (have hx2 := Nat.lt_of_succ_lt hy2))
          go_wp2_with fail
          refine wp_world ?_; intro W0 hW0
          have hS0 : W0.cell? ⟨wr.heap.size, 0, none⟩ = some (.int .i64 t.id) ∧ Below W0.heap.size W0 W0 ∧ W0.heap.size ≤ W0.heap.size := ⟨by rw [hW0]; go_simp, Below.refl _ _, Nat.le_refl _⟩
          have HW0 := Lib.hid hW0; clear hW0
          refine wp_quietC (C := fun w' => w'.cell? ⟨wr.heap.size, 0, none⟩ = some (.int .i64 t.id) ∧ Below W0.heap.size W0 w' ∧ W0.heap.size ≤ w'.heap.size) (by kernel_rfl) (by kernel_rfl) (held1d hS0) ?_
          clear hS0
          repeat (first
            | go_big_quiet_skip
            | (go_big_quiet_want; go_big_quiet_op; go_big_quiet_on)
            | (go_big_quiet_want
               apply Exists.intro
               refine ⟨fun w' hw' => ?_, ?_⟩
               · unfold Oper.quietAt
                 have hqs := hw'
                 obtain ⟨hq0, hqb, hql⟩ := hw'
                 try go_simp
                 first
                   | with_reducible rfl
                   | exact ⟨rfl, rfl⟩
                   
               go_big_quiet_on
               try go_simp))
          refine wpQuiet_nil ?_; intro wq3; (try simp only [and_imp]); intro hq0 hb3 hql; clear hq0 hql
          have hW0 := HW0.out; clear HW0; subst hW0
          obtain ⟨hc3, hf3⟩ := bcell hb3; (try simp only [World.heap_drewN, World.cell?_drewN, World.frozen?_drewN] at hc3 hf3); have hz3 := hb3.size; (try simp at hz3); (try (have hy3 := Nat.lt_of_succ_le hz3)); (try (have hx3 := Nat.lt_of_succ_lt hy3))
          go_wp2_with fail
          go_roundw
          case rel => exact ⟨k + 1, by omega, by go_num, firstErr_next HL.out.1 HT.out.2, (by repeat (first | with_reducible exact Below.refl _ _ | with_reducible assumption | with_reducible refine below_drewN ?_ _ | with_reducible refine Below.drew ?_ | with_reducible refine below_alloc0 ?_ | with_reducible refine below_alloc ?_ (by simp; try omega) | with_reducible refine below_set ?_ (by simp; try omega) | with_reducible refine below_chain ?_ (by assumption) | (with_reducible refine below_step ?_ (by assumption) (by simp; try omega))))⟩
          case measure => simp [intOf]; omega
        · have HT := Lib.hid (And.intro (idxOf_none t4) t8)
          obtain ⟨b1, o1, p1, e1, _, hl1, _, y0, y1⟩ := Tmr_at (HH.out.now hbr) (show j < n by omega)
          cases e1
          rw [t5] at hl1
          cases hl1
          have hk0 : 0 < k := by omega
          have hkj : IntKind.i64.wrap ((k : Int) - 1) = j := by rw [show (k : Int) - 1 = j by omega]; exact wrap_small j (by omega)
          have HK := Lib.hid tk
          have hjn : j < n := by omega
          have hcp : 0 < tmrCmp p t := by omega
          clear t4 t5 t6 t7 t8 tk
          go_wp2_with fail
          refine wp_world ?_; intro W0 hW0
          have hS0 : W0.cell? ⟨wr.heap.size, 0, none⟩ = some (.int .i64 t.id) ∧ W0.cell? ⟨wr.heap.size, 1, none⟩ = some (.int .i64 t.at_) ∧ Below W0.heap.size W0 W0 ∧ W0.heap.size ≤ W0.heap.size := ⟨by rw [hW0]; go_simp, by rw [hW0]; go_simp, Below.refl _ _, Nat.le_refl _⟩
          have HW0 := Lib.hid hW0; clear hW0
          refine wp_quietC (C := fun w' => w'.cell? ⟨wr.heap.size, 0, none⟩ = some (.int .i64 t.id) ∧ w'.cell? ⟨wr.heap.size, 1, none⟩ = some (.int .i64 t.at_) ∧ Below W0.heap.size W0 w' ∧ W0.heap.size ≤ w'.heap.size) (by kernel_rfl) (by kernel_rfl) (held2d hS0) ?_
          clear hS0
          repeat (first
            | go_big_quiet_skip
            | (go_big_quiet_want; go_big_quiet_op; go_big_quiet_on)
            | (go_big_quiet_want
               apply Exists.intro
               refine ⟨fun w' hw' => ?_, ?_⟩
               · unfold Oper.quietAt
                 have hqs := hw'
                 obtain ⟨hq0, hq1, hqb, hql⟩ := hw'
                 try go_simp
                 first
                   | with_reducible rfl
                   | exact ⟨rfl, rfl⟩
                   | (go_at_call 78; refine (clock_index _ k _ (l.take k) t.id _ hk' ((HH.out.now (below_chain (by rw [HW0.out]; exact (by repeat (first | with_reducible exact Below.refl _ _ | with_reducible assumption | with_reducible refine below_drewN ?_ _ | with_reducible refine Below.drew ?_ | with_reducible refine below_alloc0 ?_ | with_reducible refine below_alloc ?_ (by simp; try omega) | with_reducible refine below_set ?_ (by simp; try omega) | with_reducible refine below_chain ?_ (by assumption) | (with_reducible refine below_step ?_ (by assumption) (by simp; try omega))))) hqb)).take' hk)).mono ?_; rintro e w2 ⟨rfl, hb2⟩; rw [HT.out.1]; exact ⟨rfl, held2 hqs hb2⟩)
               go_big_quiet_on
               try go_simp))
          refine wpQuiet_nil ?_; intro wq2; (try simp only [and_imp]); intro hq0 hq1 hb2 hql; clear hq0 hq1 hql
          have hW0 := HW0.out; clear HW0; subst hW0
          obtain ⟨hc2, hf2⟩ := bcell hb2; (try simp only [World.heap_drewN, World.cell?_drewN, World.frozen?_drewN] at hc2 hf2); have hz2 := hb2.size; (try simp at hz2); (try (have hy2 := Nat.lt_of_succ_le hz2)); (try (have hx2 := Nat.lt_of_succ_lt hy2))
          go_wp2_with fail
          refine wp_world ?_; intro W0 hW0
          have hS0 : W0.cell? ⟨wr.heap.size, 0, none⟩ = some (.int .i64 t.id) ∧ W0.cell? ⟨wr.heap.size, 1, none⟩ = some (.int .i64 t.at_) ∧ W0.cell? ⟨b, o + j * 2, none⟩ = some (.int .i64 p.id) ∧ W0.cell? ⟨b, o + j * 2 + 1, none⟩ = some (.int .i64 p.at_) ∧ Below W0.heap.size W0 W0 ∧ W0.heap.size ≤ W0.heap.size := ⟨by rw [hW0]; go_simp, by rw [hW0]; go_simp, by rw [hW0]; go_simp, by rw [hW0]; go_simp, Below.refl _ _, Nat.le_refl _⟩
          have HW0 := Lib.hid hW0; clear hW0
          refine wp_quietC (C := fun w' => w'.cell? ⟨wr.heap.size, 0, none⟩ = some (.int .i64 t.id) ∧ w'.cell? ⟨wr.heap.size, 1, none⟩ = some (.int .i64 t.at_) ∧ w'.cell? ⟨b, o + j * 2, none⟩ = some (.int .i64 p.id) ∧ w'.cell? ⟨b, o + j * 2 + 1, none⟩ = some (.int .i64 p.at_) ∧ Below W0.heap.size W0 w' ∧ W0.heap.size ≤ w'.heap.size) (by kernel_rfl) (by kernel_rfl) (held4d hS0) ?_
          clear hS0
          repeat (first
            | go_big_quiet_skip
            | (go_big_quiet_want; go_big_quiet_op; go_big_quiet_on)
            | (go_big_quiet_want
               apply Exists.intro
               refine ⟨fun w' hw' => ?_, ?_⟩
               · unfold Oper.quietAt
                 have hqs := hw'
                 obtain ⟨hq0, hq1, hq2, hq3, hqb, hql⟩ := hw'
                 try go_simp
                 first
                   | with_reducible rfl
                   | exact ⟨rfl, rfl⟩
                   | (go_at_call 79; refine (clock_compare p t _).mono ?_; rintro e w3 ⟨rfl, hb3⟩; exact ⟨rfl, held4 hqs hb3⟩)
               go_big_quiet_on
               try go_simp))
          refine wpQuiet_nil ?_; intro wq3; (try simp only [and_imp]); intro hq0 hq1 hq2 hq3 hb3 hql; clear hq0 hq1 hq2 hq3 hql
          have hW0 := HW0.out; clear HW0; subst hW0
          obtain ⟨hc3, hf3⟩ := bcell hb3; (try simp only [World.heap_drewN, World.cell?_drewN, World.frozen?_drewN] at hc3 hf3); have hz3 := hb3.size; (try simp at hz3); (try (have hy3 := Nat.lt_of_succ_le hz3)); (try (have hx3 := Nat.lt_of_succ_lt hy3))
          go_wp2_with fail
          go_ret
          exact ⟨ret_int (by rw [firstErr_hit HL.out.1 (by rw [HT.out.2]; decide) n hlt, HT.out.2]), (by repeat (first | with_reducible exact Below.refl _ _ | with_reducible assumption | with_reducible refine below_drewN ?_ _ | with_reducible refine Below.drew ?_ | with_reducible refine below_alloc0 ?_ | with_reducible refine below_alloc ?_ (by simp; try omega) | with_reducible refine below_set ?_ (by simp; try omega) | with_reducible refine below_chain ?_ (by assumption) | (with_reducible refine below_step ?_ (by assumption) (by simp; try omega))))⟩
        · have HT := Lib.hid (And.intro (idxOf_none t4) t8)
          obtain ⟨b1, o1, p1, e1, _, hl1, _, y0, y1⟩ := Tmr_at (HH.out.now hbr) (show j < n by omega)
          cases e1
          rw [t5] at hl1
          cases hl1
          have hk0 : 0 < k := by omega
          have hkj : IntKind.i64.wrap ((k : Int) - 1) = j := by rw [show (k : Int) - 1 = j by omega]; exact wrap_small j (by omega)
          have HK := Lib.hid tk
          have hjn : j < n := by omega
          have hcp : ¬ 0 < tmrCmp p t := by omega
          clear t4 t5 t6 t7 t8 tk
          go_wp2_with fail
          refine wp_world ?_; intro W0 hW0
          have hS0 : W0.cell? ⟨wr.heap.size, 0, none⟩ = some (.int .i64 t.id) ∧ W0.cell? ⟨wr.heap.size, 1, none⟩ = some (.int .i64 t.at_) ∧ Below W0.heap.size W0 W0 ∧ W0.heap.size ≤ W0.heap.size := ⟨by rw [hW0]; go_simp, by rw [hW0]; go_simp, Below.refl _ _, Nat.le_refl _⟩
          have HW0 := Lib.hid hW0; clear hW0
          refine wp_quietC (C := fun w' => w'.cell? ⟨wr.heap.size, 0, none⟩ = some (.int .i64 t.id) ∧ w'.cell? ⟨wr.heap.size, 1, none⟩ = some (.int .i64 t.at_) ∧ Below W0.heap.size W0 w' ∧ W0.heap.size ≤ w'.heap.size) (by kernel_rfl) (by kernel_rfl) (held2d hS0) ?_
          clear hS0
          repeat (first
            | go_big_quiet_skip
            | (go_big_quiet_want; go_big_quiet_op; go_big_quiet_on)
            | (go_big_quiet_want
               apply Exists.intro
               refine ⟨fun w' hw' => ?_, ?_⟩
               · unfold Oper.quietAt
                 have hqs := hw'
                 obtain ⟨hq0, hq1, hqb, hql⟩ := hw'
                 try go_simp
                 first
                   | with_reducible rfl
                   | exact ⟨rfl, rfl⟩
                   | (go_at_call 78; refine (clock_index _ k _ (l.take k) t.id _ hk' ((HH.out.now (below_chain (by rw [HW0.out]; exact (by repeat (first | with_reducible exact Below.refl _ _ | with_reducible assumption | with_reducible refine below_drewN ?_ _ | with_reducible refine Below.drew ?_ | with_reducible refine below_alloc0 ?_ | with_reducible refine below_alloc ?_ (by simp; try omega) | with_reducible refine below_set ?_ (by simp; try omega) | with_reducible refine below_chain ?_ (by assumption) | (with_reducible refine below_step ?_ (by assumption) (by simp; try omega))))) hqb)).take' hk)).mono ?_; rintro e w2 ⟨rfl, hb2⟩; rw [HT.out.1]; exact ⟨rfl, held2 hqs hb2⟩)
               go_big_quiet_on
               try go_simp))
          refine wpQuiet_nil ?_; intro wq2; (try simp only [and_imp]); intro hq0 hq1 hb2 hql; clear hq0 hq1 hql
          have hW0 := HW0.out; clear HW0; subst hW0
          obtain ⟨hc2, hf2⟩ := bcell hb2; (try simp only [World.heap_drewN, World.cell?_drewN, World.frozen?_drewN] at hc2 hf2); have hz2 := hb2.size; (try simp at hz2); (try (have hy2 := Nat.lt_of_succ_le hz2)); (try (have hx2 := Nat.lt_of_succ_lt hy2))
          go_wp2_with fail
          refine wp_world ?_; intro W0 hW0
          have hS0 : W0.cell? ⟨wr.heap.size, 0, none⟩ = some (.int .i64 t.id) ∧ W0.cell? ⟨wr.heap.size, 1, none⟩ = some (.int .i64 t.at_) ∧ W0.cell? ⟨b, o + j * 2, none⟩ = some (.int .i64 p.id) ∧ W0.cell? ⟨b, o + j * 2 + 1, none⟩ = some (.int .i64 p.at_) ∧ Below W0.heap.size W0 W0 ∧ W0.heap.size ≤ W0.heap.size := ⟨by rw [hW0]; go_simp, by rw [hW0]; go_simp, by rw [hW0]; go_simp, by rw [hW0]; go_simp, Below.refl _ _, Nat.le_refl _⟩
          have HW0 := Lib.hid hW0; clear hW0
          refine wp_quietC (C := fun w' => w'.cell? ⟨wr.heap.size, 0, none⟩ = some (.int .i64 t.id) ∧ w'.cell? ⟨wr.heap.size, 1, none⟩ = some (.int .i64 t.at_) ∧ w'.cell? ⟨b, o + j * 2, none⟩ = some (.int .i64 p.id) ∧ w'.cell? ⟨b, o + j * 2 + 1, none⟩ = some (.int .i64 p.at_) ∧ Below W0.heap.size W0 w' ∧ W0.heap.size ≤ w'.heap.size) (by kernel_rfl) (by kernel_rfl) (held4d hS0) ?_
          clear hS0
          repeat (first
            | go_big_quiet_skip
            | (go_big_quiet_want; go_big_quiet_op; go_big_quiet_on)
            | (go_big_quiet_want
               apply Exists.intro
               refine ⟨fun w' hw' => ?_, ?_⟩
               · unfold Oper.quietAt
                 have hqs := hw'
                 obtain ⟨hq0, hq1, hq2, hq3, hqb, hql⟩ := hw'
                 try go_simp
                 first
                   | with_reducible rfl
                   | exact ⟨rfl, rfl⟩
                   | (go_at_call 79; refine (clock_compare p t _).mono ?_; rintro e w3 ⟨rfl, hb3⟩; exact ⟨rfl, held4 hqs hb3⟩)
               go_big_quiet_on
               try go_simp))
          refine wpQuiet_nil ?_; intro wq3; (try simp only [and_imp]); intro hq0 hq1 hq2 hq3 hb3 hql; clear hq0 hq1 hq2 hq3 hql
          have hW0 := HW0.out; clear HW0; subst hW0
          obtain ⟨hc3, hf3⟩ := bcell hb3; (try simp only [World.heap_drewN, World.cell?_drewN, World.frozen?_drewN] at hc3 hf3); have hz3 := hb3.size; (try simp at hz3); (try (have hy3 := Nat.lt_of_succ_le hz3)); (try (have hx3 := Nat.lt_of_succ_lt hy3))
          go_wp2_with fail
          go_roundw
          case rel => exact ⟨k + 1, by omega, by go_num, firstErr_next HL.out.1 HT.out.2, (by repeat (first | with_reducible exact Below.refl _ _ | with_reducible assumption | with_reducible refine below_drewN ?_ _ | with_reducible refine Below.drew ?_ | with_reducible refine below_alloc0 ?_ | with_reducible refine below_alloc ?_ (by simp; try omega) | with_reducible refine below_set ?_ (by simp; try omega) | with_reducible refine below_chain ?_ (by assumption) | (with_reducible refine below_step ?_ (by assumption) (by simp; try omega))))⟩
          case measure => simp [intOf]; omega
      · have hke : k = n := by omega
        subst hke
        have HV := Lib.hid hv
        clear hv
        go_wp2_with fail
        go_ret
        exact ⟨ret_int HV.out.symm, hbr⟩
end Go.Proofs.Ytiplgdplfbeahaa
