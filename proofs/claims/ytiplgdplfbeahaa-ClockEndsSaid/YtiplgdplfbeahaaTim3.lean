/- What is left of timers when one is added; slices.BinarySearchFunc over timers. -/
import Derived.Test.YtiplgdplfbeahaaTim2
namespace Go.Proofs.Ytiplgdplfbeahaa
open Go.RowKit

def late (t x : Tmr) : Bool := !sooner x t
def insAt (l : List Tmr) (t : Tmr) : Nat := firstAt (late t) l
def tmrIns (l : List Tmr) (t : Tmr) : List Tmr := l.take (insAt l t) ++ t :: l.drop (insAt l t)
theorem sooner_trans {a b t : Tmr} (h : sooner b a = false) (h' : sooner b t = true) : sooner a t = true := by
  obtain ⟨i, x⟩ := a
  obtain ⟨j, y⟩ := b
  obtain ⟨k, z⟩ := t
  simp only [sooner, Bool.or_eq_true, Bool.and_eq_true, Bool.or_eq_false_iff, Bool.and_eq_false_imp, decide_eq_true_eq, decide_eq_false_iff_not] at *
  omega
/-- Timers that may be are in order. -/
theorem tmrCheck_sorted {l : List Tmr} (h : tmrCheck l = 0) (t : Tmr) : ∀ (d i : Nat) (a b : Tmr), l[i]? = some a → l[i + d]? = some b → sooner b t = true → sooner a t = true
  | 0, i, a, b, ha, hb, hs => by
    rw [Nat.add_zero, ha] at hb
    cases hb
    exact hs
  | d + 1, i, a, b, ha, hb, hs => by
    have hlt : i + (d + 1) < l.length := (List.getElem?_eq_some_iff.1 hb).1
    obtain ⟨m, hm⟩ : ∃ m, l[i + d]? = some m := ⟨_, List.getElem?_eq_getElem (by omega)⟩
    refine tmrCheck_sorted h t d i a m ha hm ?_
    have h0 : firstErr (tmrStep l) l.length = 0 := by
      unfold tmrCheck at h
      by_cases h20 : 20 < l.length
      · rw [if_pos h20] at h; cases h
      · rw [if_neg h20] at h; exact h
    have hstep := firstErr_all h0 (i + (d + 1)) hlt
    rcases tmrStep_cases hb with ⟨_, e⟩ | ⟨_, _, e⟩ | ⟨_, _, _, e⟩ | ⟨_, _, _, _, e⟩ | ⟨_, _, _, _, e0, _⟩ | ⟨_, _, _, _, j, p, e0, hp, ⟨_, _, e⟩ | ⟨e, _, _⟩⟩
    · rw [e] at hstep; cases hstep
    · rw [e] at hstep; cases hstep
    · rw [e] at hstep; cases hstep
    · rw [e] at hstep; cases hstep
    · omega
    · rw [e] at hstep; cases hstep
    · have : j = i + d := by omega
      subst this
      rw [hm] at hp
      cases hp
      exact sooner_trans e hs
theorem insAt_eq {l : List Tmr} {t : Tmr} {a : Nat} (ha : a ≤ l.length) (h1 : ∀ k x, k < a → l[k]? = some x → sooner x t = true) (h2 : ∀ k x, a ≤ k → l[k]? = some x → sooner x t = false) : insAt l t = a := by
  have hany : (l.take a).any (late t) = false := by
    rw [List.any_eq_false]
    intro x hx
    obtain ⟨k, hk, rfl⟩ := List.mem_iff_getElem.1 hx
    rw [List.length_take] at hk
    have := h1 k ((l.take a)[k]) (by omega) (by rw [List.getElem_take]; exact List.getElem?_eq_getElem (by omega))
    rw [List.getElem_take] at this ⊢
    simp [late, this]
  unfold insAt
  rcases Nat.lt_or_ge a l.length with h | h
  · exact firstAt_hit (late t) l a l[a] (List.getElem?_eq_getElem h) (by simp [late, h2 a l[a] (Nat.le_refl _) (List.getElem?_eq_getElem h)]) hany
  · have e : l.take a = l := List.take_of_length_le h
    rw [e] at hany
    rw [firstAt_none _ _ hany]
    omega
theorem insAt_le (l : List Tmr) (t : Tmr) : insAt l t ≤ l.length := firstAt_le _ _
theorem tmrIns_len (l : List Tmr) (t : Tmr) : (tmrIns l t).length = l.length + 1 := by
  have := insAt_le l t
  simp [tmrIns]
  omega
theorem tmrCheck_le {l : List Tmr} (h : tmrCheck l = 0) : l.length ≤ 20 := by
  unfold tmrCheck at h
  by_cases h20 : 20 < l.length
  · rw [if_pos h20] at h; cases h
  · omega
theorem tmrIns_wf {l : List Tmr} {t : Tmr} (hl : ∀ a ∈ l, a.wf) (ht : t.wf) : ∀ a ∈ tmrIns l t, a.wf := by
  intro a ha
  unfold tmrIns at ha
  rcases List.mem_append.1 ha with h | h
  · exact hl a (List.mem_of_mem_take h)
  · rcases List.mem_cons.1 h with h | h
    · subst h; exact ht
    · exact hl a (List.mem_of_mem_drop h)
def BsPost (w : World) (i : Nat) (e : Ending) (w' : World) : Prop := ∃ b : Bool, e = .returned (.tuple #[.int .i64 i, .bool b]) ∧ Below w.heap.size w w'
theorem cf_compare (args : Array Value) (w : World) : (callFunc 79 args).run Try.prog w = .ok (.enter 79 args) w :=
  cf _ _ Try.func79 (by kernel_rfl) (by kernel_rfl) args w
set_option maxRecDepth 100000 in
set_option maxHeartbeats 4000000 in
theorem tmrs_Search (A : Option Addr) (n c : Nat) (l : List Tmr) (t : Tmr) (w : World) (hn : inL n) (h : Sl w (old w) 2 RTmr A n l) (hs : tmrCheck l = 0) :
    Calls Try.prog 80 #[.slice A n c, .agg #[.int .i64 t.id, .int .i64 t.at_], .func (.func 79) #[] #[]] w (BsPost w (insAt l t)) := by
  unfold inL at hn
  have HH := Lib.hid h
  have HS := Lib.hid (tmrCheck_sorted hs t)
  have hcf := cf_compare
  clear h hs
  go_enter Try.func80, Try.ntmps80
  go_wp2_with fail
  go_loopw [9, 10] (fun i j wr => ∃ a b : Nat, i = .int .i64 a ∧ j = .int .i64 b ∧ a ≤ b ∧ b ≤ n ∧ Hid ((∀ k x, k < a → l[k]? = some x → sooner x t = true) ∧ (∀ k x, b ≤ k → l[k]? = some x → sooner x t = false)) ∧ Below (w.alloc (.cells #[.int .i64 t.id, .int .i64 t.at_] 55)).heap.size (w.alloc (.cells #[.int .i64 t.id, .int .i64 t.at_] 55)) wr) (fun i j _ => (intOf j).toNat - (intOf i).toNat)
  case atStart => exact ⟨0, n, rfl, rfl, by omega, Nat.le_refl _, Lib.hid ⟨fun k x hk => absurd hk (by omega), fun k x hk hx => by have := (List.getElem?_eq_some_iff.1 hx).1; rw [HH.out.len] at this; omega⟩, Below.refl _ _⟩
  case round =>
    obtain ⟨a, b, rfl, rfl, hab, hbn, HI, hbr⟩ := hrel
    have hbw : Below w.heap.size w wr := alloc_below (o := .cells #[.int .i64 t.id, .int .i64 t.at_] 55) (by simpa using hbr)
    obtain ⟨hcr, hfr⟩ := bcell hbr; (try simp only [World.heap_drewN, World.cell?_drewN, World.frozen?_drewN] at hcr hfr); have hzr := hbr.size; (try simp at hzr); (try (have hyr := Nat.lt_of_succ_le hzr)); (try (have hxr := Nat.lt_of_succ_lt hyr)); (try (have hlr_w_0 : w.heap.size < wr.heap.size := by omega)); (try (have hmr_w_0 : w.heap.size ≤ wr.heap.size := by omega)); (try (have hlr_w_1 : w.heap.size + 1 < wr.heap.size := by omega)); (try (have hmr_w_1 : w.heap.size + 1 ≤ wr.heap.size := by omega)); (try (have hlr_w_2 : w.heap.size + 2 < wr.heap.size := by omega)); (try (have hmr_w_2 : w.heap.size + 2 ≤ wr.heap.size := by omega)); (try (have hlr_w_3 : w.heap.size + 3 < wr.heap.size := by omega)); (try (have hmr_w_3 : w.heap.size + 3 ≤ wr.heap.size := by omega)); (try (have hlr_w_4 : w.heap.size + 4 < wr.heap.size := by omega)); (try (have hmr_w_4 : w.heap.size + 4 ≤ wr.heap.size := by omega)); (try (have hlr_w_5 : w.heap.size + 5 < wr.heap.size := by omega)); (try (have hmr_w_5 : w.heap.size + 5 ≤ wr.heap.size := by omega)); (try (have hlr_w_6 : w.heap.size + 6 < wr.heap.size := by omega)); (try (have hmr_w_6 : w.heap.size + 6 ≤ wr.heap.size := by omega))
    by_cases hlt : a < b
    · obtain ⟨m, hm⟩ : ∃ m : Nat, ((a : Int) + (b : Int)) / 2 = m := ⟨(a + b) / 2, by omega⟩
      have hma : a ≤ m := by omega
      have hmb : m < b := by omega
      have hmn : m < n := by omega
      obtain ⟨bb, o, x, rfl, hbl, hl, _, x0, x1⟩ := Tmr_at (HH.out.now hbw) hmn
      have hbl' : bb < wr.heap.size := hbl
      have HL := Lib.hid hl
      have HM := Lib.hid hm
      clear hl hbl
      have hcc := tmrCmp_cases x t
      cases hsn : sooner x t
      · have hc0 : ¬ tmrCmp x t < 0 := by rcases hcc with ⟨e, _, _⟩ | ⟨_, _, e⟩ | ⟨_, _, _, e⟩ <;> first | (rw [hsn] at e; cases e) | (rw [e]; decide)
        have HN := Lib.hid hsn
        clear hcc hsn
        go_wp2_with fail
        refine wp_world ?_; intro W0 hW0
        have hS0 : W0.cell? ⟨w.heap.size, 0, none⟩ = some (.int .i64 t.id) ∧ W0.cell? ⟨w.heap.size, 1, none⟩ = some (.int .i64 t.at_) ∧ W0.cell? ⟨bb, o + m * 2, none⟩ = some (.int .i64 x.id) ∧ W0.cell? ⟨bb, o + m * 2 + 1, none⟩ = some (.int .i64 x.at_) ∧ Below W0.heap.size W0 W0 ∧ W0.heap.size ≤ W0.heap.size := ⟨by rw [hW0]; go_simp, by rw [hW0]; go_simp, by rw [hW0]; go_simp, by rw [hW0]; go_simp, Below.refl _ _, Nat.le_refl _⟩
        have HW0 := Lib.hid hW0; clear hW0
        refine wp_quietC (C := fun w' => w'.cell? ⟨w.heap.size, 0, none⟩ = some (.int .i64 t.id) ∧ w'.cell? ⟨w.heap.size, 1, none⟩ = some (.int .i64 t.at_) ∧ w'.cell? ⟨bb, o + m * 2, none⟩ = some (.int .i64 x.id) ∧ w'.cell? ⟨bb, o + m * 2 + 1, none⟩ = some (.int .i64 x.at_) ∧ Below W0.heap.size W0 w' ∧ W0.heap.size ≤ w'.heap.size) (by kernel_rfl) (by kernel_rfl) (held4d hS0) ?_
        clear hS0
        repeat (first
          | go_big_quiet_skip
          | (go_big_quiet_want; go_big_quiet_op; go_big_quiet_on)
          | (go_big_quiet_want
             apply Exists.intro
             refine ⟨fun w' hw' => ?_, ?_⟩
             · unfold Oper.quietAt
               have hqs := hw'
               obtain ⟨hq0, hq1, hq2, hq3, hqb, hql⟩ := hw'
               try go_simp
               first
                 | with_reducible rfl
                 | exact ⟨rfl, rfl⟩
                 | (refine (clock_compare x t _).mono ?_; rintro e w3 ⟨rfl, hb3⟩; exact ⟨rfl, held4 hqs hb3⟩)
             go_big_quiet_on
             try go_simp))
        refine wpQuiet_nil ?_; intro wq3; (try simp only [and_imp]); intro hq0 hq1 hq2 hq3 hb3 hql; clear hq0 hq1 hq2 hq3 hql
        have hW0 := HW0.out; clear HW0; subst hW0
        obtain ⟨hc3, hf3⟩ := bcell hb3; (try simp only [World.heap_drewN, World.cell?_drewN, World.frozen?_drewN] at hc3 hf3); have hz3 := hb3.size; (try simp at hz3); (try (have hy3 := Nat.lt_of_succ_le hz3)); (try (have hx3 := Nat.lt_of_succ_lt hy3))
        go_wp2_with fail
        go_roundw
        case rel =>
          refine ⟨a, m, rfl, rfl, hma, by omega, Lib.hid ⟨HI.1, fun k y hk hy => ?_⟩, (by repeat (first | with_reducible exact Below.refl _ _ | with_reducible assumption | with_reducible refine below_drewN ?_ _ | with_reducible refine Below.drew ?_ | with_reducible refine below_alloc0 ?_ | with_reducible refine below_alloc ?_ (by simp; try omega) | with_reducible refine below_set ?_ (by simp; try omega) | with_reducible refine below_chain ?_ (by assumption) | (with_reducible refine below_step ?_ (by assumption) (by simp; try omega))))⟩
          cases hy' : sooner y t
          · rfl
          · have hk' : k = m + (k - m) := by omega
            rw [hk'] at hy
            have := HS.out (k - m) m x y HL.out hy hy'
            rw [HN.out] at this
            cases this
        case measure => simp [intOf]; omega
      · have hc0 : tmrCmp x t < 0 := by rcases hcc with ⟨_, _, e⟩ | ⟨e, _, _⟩ | ⟨e, _, _, _⟩ <;> first | (rw [hsn] at e; cases e) | (rw [e]; decide)
        have HN := Lib.hid hsn
        clear hcc hsn
        go_wp2_with fail
        refine wp_world ?_; intro W0 hW0
        have hS0 : W0.cell? ⟨w.heap.size, 0, none⟩ = some (.int .i64 t.id) ∧ W0.cell? ⟨w.heap.size, 1, none⟩ = some (.int .i64 t.at_) ∧ W0.cell? ⟨bb, o + m * 2, none⟩ = some (.int .i64 x.id) ∧ W0.cell? ⟨bb, o + m * 2 + 1, none⟩ = some (.int .i64 x.at_) ∧ Below W0.heap.size W0 W0 ∧ W0.heap.size ≤ W0.heap.size := ⟨by rw [hW0]; go_simp, by rw [hW0]; go_simp, by rw [hW0]; go_simp, by rw [hW0]; go_simp, Below.refl _ _, Nat.le_refl _⟩
        have HW0 := Lib.hid hW0; clear hW0
        refine wp_quietC (C := fun w' => w'.cell? ⟨w.heap.size, 0, none⟩ = some (.int .i64 t.id) ∧ w'.cell? ⟨w.heap.size, 1, none⟩ = some (.int .i64 t.at_) ∧ w'.cell? ⟨bb, o + m * 2, none⟩ = some (.int .i64 x.id) ∧ w'.cell? ⟨bb, o + m * 2 + 1, none⟩ = some (.int .i64 x.at_) ∧ Below W0.heap.size W0 w' ∧ W0.heap.size ≤ w'.heap.size) (by kernel_rfl) (by kernel_rfl) (held4d hS0) ?_
        clear hS0
        repeat (first
          | go_big_quiet_skip
          | (go_big_quiet_want; go_big_quiet_op; go_big_quiet_on)
          | (go_big_quiet_want
             apply Exists.intro
             refine ⟨fun w' hw' => ?_, ?_⟩
             · unfold Oper.quietAt
               have hqs := hw'
               obtain ⟨hq0, hq1, hq2, hq3, hqb, hql⟩ := hw'
               try go_simp
               first
                 | with_reducible rfl
                 | exact ⟨rfl, rfl⟩
                 | (refine (clock_compare x t _).mono ?_; rintro e w3 ⟨rfl, hb3⟩; exact ⟨rfl, held4 hqs hb3⟩)
             go_big_quiet_on
             try go_simp))
        refine wpQuiet_nil ?_; intro wq3; (try simp only [and_imp]); intro hq0 hq1 hq2 hq3 hb3 hql; clear hq0 hq1 hq2 hq3 hql
        have hW0 := HW0.out; clear HW0; subst hW0
        obtain ⟨hc3, hf3⟩ := bcell hb3; (try simp only [World.heap_drewN, World.cell?_drewN, World.frozen?_drewN] at hc3 hf3); have hz3 := hb3.size; (try simp at hz3); (try (have hy3 := Nat.lt_of_succ_le hz3)); (try (have hx3 := Nat.lt_of_succ_lt hy3))
        go_wp2_with fail
        go_roundw
        case rel =>
          refine ⟨m + 1, b, by go_num, rfl, by omega, hbn, Lib.hid ⟨fun k y hk hy => ?_, HI.2⟩, (by repeat (first | with_reducible exact Below.refl _ _ | with_reducible assumption | with_reducible refine below_drewN ?_ _ | with_reducible refine Below.drew ?_ | with_reducible refine below_alloc0 ?_ | with_reducible refine below_alloc ?_ (by simp; try omega) | with_reducible refine below_set ?_ (by simp; try omega) | with_reducible refine below_chain ?_ (by assumption) | (with_reducible refine below_step ?_ (by assumption) (by simp; try omega))))⟩
          have hk' : m = k + (m - k) := by omega
          have hx := HL.out
          rw [hk'] at hx
          exact HS.out (m - k) k y x hy hx HN.out
        case measure => simp [intOf]; omega
    · have hab' : a = b := by omega
      subst hab'
      have hia : insAt l t = a := insAt_eq (by rw [HH.out.len]; exact hbn) HI.1 HI.2
      have HIA := Lib.hid hia
      clear hia
      by_cases han : a < n
      · obtain ⟨bb, o, x, rfl, hbl, hl, _, x0, x1⟩ := Tmr_at (HH.out.now hbw) han
        have hbl' : bb < wr.heap.size := hbl
        clear hl hbl
        go_wp2_with fail
        refine wp_world ?_; intro W0 hW0
        have hS0 : W0.cell? ⟨w.heap.size, 0, none⟩ = some (.int .i64 t.id) ∧ W0.cell? ⟨w.heap.size, 1, none⟩ = some (.int .i64 t.at_) ∧ W0.cell? ⟨bb, o + a * 2, none⟩ = some (.int .i64 x.id) ∧ W0.cell? ⟨bb, o + a * 2 + 1, none⟩ = some (.int .i64 x.at_) ∧ Below W0.heap.size W0 W0 ∧ W0.heap.size ≤ W0.heap.size := ⟨by rw [hW0]; go_simp, by rw [hW0]; go_simp, by rw [hW0]; go_simp, by rw [hW0]; go_simp, Below.refl _ _, Nat.le_refl _⟩
        have HW0 := Lib.hid hW0; clear hW0
        refine wp_quietC (C := fun w' => w'.cell? ⟨w.heap.size, 0, none⟩ = some (.int .i64 t.id) ∧ w'.cell? ⟨w.heap.size, 1, none⟩ = some (.int .i64 t.at_) ∧ w'.cell? ⟨bb, o + a * 2, none⟩ = some (.int .i64 x.id) ∧ w'.cell? ⟨bb, o + a * 2 + 1, none⟩ = some (.int .i64 x.at_) ∧ Below W0.heap.size W0 w' ∧ W0.heap.size ≤ w'.heap.size) (by kernel_rfl) (by kernel_rfl) (held4d hS0) ?_
        clear hS0
        repeat (first
          | go_big_quiet_skip
          | (go_big_quiet_want; go_big_quiet_op; go_big_quiet_on)
          | (go_big_quiet_want
             apply Exists.intro
             refine ⟨fun w' hw' => ?_, ?_⟩
             · unfold Oper.quietAt
               have hqs := hw'
               obtain ⟨hq0, hq1, hq2, hq3, hqb, hql⟩ := hw'
               try go_simp
               first
                 | with_reducible rfl
                 | exact ⟨rfl, rfl⟩
                 | (refine (clock_compare x t _).mono ?_; rintro e w3 ⟨rfl, hb3⟩; exact ⟨rfl, held4 hqs hb3⟩)
             go_big_quiet_on
             try go_simp))
        refine wpQuiet_nil ?_; intro wq3; (try simp only [and_imp]); intro hq0 hq1 hq2 hq3 hb3 hql; clear hq0 hq1 hq2 hq3 hql
        have hW0 := HW0.out; clear HW0; subst hW0
        obtain ⟨hc3, hf3⟩ := bcell hb3; (try simp only [World.heap_drewN, World.cell?_drewN, World.frozen?_drewN] at hc3 hf3); have hz3 := hb3.size; (try simp at hz3); (try (have hy3 := Nat.lt_of_succ_le hz3)); (try (have hx3 := Nat.lt_of_succ_lt hy3))
        go_wp2_with fail
        go_ret2
        exact ⟨_, (rfl : _ = Ending.returned (.tuple #[.int .i64 (a : Int), .bool (tmrCmp x t == 0)])).trans (by rw [HIA.out]), below_step hbw (by repeat (first | with_reducible exact Below.refl _ _ | with_reducible assumption | with_reducible refine below_drewN ?_ _ | with_reducible refine Below.drew ?_ | with_reducible refine below_alloc0 ?_ | with_reducible refine below_alloc ?_ (by simp; try omega) | with_reducible refine below_set ?_ (by simp; try omega) | with_reducible refine below_chain ?_ (by assumption) | (with_reducible refine below_step ?_ (by assumption) (by simp; try omega)))) hbw.size⟩
      · go_wp2_with fail
        refine wp_world ?_; intro W0 hW0
        have hS0 : W0.cell? ⟨w.heap.size, 0, none⟩ = some (.int .i64 t.id) ∧ Below W0.heap.size W0 W0 ∧ W0.heap.size ≤ W0.heap.size := ⟨by rw [hW0]; go_simp, Below.refl _ _, Nat.le_refl _⟩
        have HW0 := Lib.hid hW0; clear hW0
        refine wp_quietC (C := fun w' => w'.cell? ⟨w.heap.size, 0, none⟩ = some (.int .i64 t.id) ∧ Below W0.heap.size W0 w' ∧ W0.heap.size ≤ w'.heap.size) (by kernel_rfl) (by kernel_rfl) (held1d hS0) ?_
        clear hS0
        repeat (first
          | go_big_quiet_skip
          | (go_big_quiet_want; go_big_quiet_op; go_big_quiet_on)
          | (go_big_quiet_want
             apply Exists.intro
             refine ⟨fun w' hw' => ?_, ?_⟩
             · unfold Oper.quietAt
               have hqs := hw'
               obtain ⟨hq0, hqb, hql⟩ := hw'
               try go_simp
               first
                 | with_reducible rfl
                 | exact ⟨rfl, rfl⟩
                 
             go_big_quiet_on
             try go_simp))
        refine wpQuiet_nil ?_; intro wq3; (try simp only [and_imp]); intro hq0 hb3 hql; clear hq0 hql
        have hW0 := HW0.out; clear HW0; subst hW0
        obtain ⟨hc3, hf3⟩ := bcell hb3; (try simp only [World.heap_drewN, World.cell?_drewN, World.frozen?_drewN] at hc3 hf3); have hz3 := hb3.size; (try simp at hz3); (try (have hy3 := Nat.lt_of_succ_le hz3)); (try (have hx3 := Nat.lt_of_succ_lt hy3))
        go_wp2_with fail
        go_ret2
        exact ⟨_, (rfl : _ = Ending.returned (.tuple #[.int .i64 (a : Int), .bool false])).trans (by rw [HIA.out]), below_step hbw (by repeat (first | with_reducible exact Below.refl _ _ | with_reducible assumption | with_reducible refine below_drewN ?_ _ | with_reducible refine Below.drew ?_ | with_reducible refine below_alloc0 ?_ | with_reducible refine below_alloc ?_ (by simp; try omega) | with_reducible refine below_set ?_ (by simp; try omega) | with_reducible refine below_chain ?_ (by assumption) | (with_reducible refine below_step ?_ (by assumption) (by simp; try omega)))) hbw.size⟩
end Go.Proofs.Ytiplgdplfbeahaa
