/- The reference TimersFault. -/
import Derived.Test.YtiplgdplfbeahaaTim2
namespace Go.Proofs.Ytiplgdplfbeahaa
open Go.RowKit

set_option maxRecDepth 100000 in
set_option maxHeartbeats 4000000 in
theorem ref_TimersFault (A : Option Addr) (n c : Nat) (l : List Tmr) (w : World) (hn : inL n) (h : Sl w (old w) 2 RTmr A n l) :
    Calls Try.prog 34 #[.slice A n c] w (RetI w (tmrCheck l)) := by
  unfold inL at hn
  have HH := Lib.hid h
  have hlen := h.len
  clear h
  by_cases h20 : 20 < n
  · have e : tmrCheck l = 1 := by rw [tmrCheck, if_pos (by rw [hlen]; exact h20)]
    rw [e]
    clear e
    go_enter Try.func34, Try.ntmps34
    go_wp2_with fail
    go_ret
    exact ⟨rfl, Below.refl _ _⟩
  · have e : tmrCheck l = firstErr (tmrStep l) n := by rw [tmrCheck, if_neg (by rw [hlen]; exact h20), hlen]
    rw [e]
    have HE := Lib.hid hlen
    clear e hlen
    go_enter Try.func34, Try.ntmps34
    go_wp2_with fail
    go_loopw [11] (fun i wr => ∃ k : Nat, k ≤ n ∧ i = .int .i64 k ∧ firstErr (tmrStep l) k = 0 ∧ Below w.heap.size w wr) (fun i _ => n - (intOf i).toNat)
    case atStart => exact ⟨0, by omega, rfl, rfl, Below.refl _ _⟩
    case round =>
      obtain ⟨k, hk, rfl, hv, hbr⟩ := hrel
      generalize hwq : wr = wq at *
      clear hwq
      by_cases hlt : k < n
      · obtain ⟨b, o, t, rfl, hbl, hl, _, x0, x1⟩ := Tmr_at (HH.out.now hbr) hlt
        have hbl' : b < wq.heap.size := hbl
        have hst := tmrStep_cases hl
        have HL := Lib.hid (And.intro hv hl)
        clear hv hl hbl
        rcases hst with ⟨t1, t2⟩ | ⟨t1, t2, t3⟩ | ⟨t1, t2, t3, t4⟩ | ⟨t1, t2, t3, t4, t5⟩ | ⟨t1, t2, t3, t4, tk, t5⟩ | ⟨t1, t2, t3, t4, j, p, tk, t5, ⟨t6, t7, t8⟩ | ⟨t6, t7, t8⟩⟩
        · have HT := Lib.hid t2
          clear t2
          go_wp2_with fail
          go_ret
          exact ⟨ret_int (by rw [firstErr_hit HL.out.1 (by rw [HT.out]; decide) n hlt, HT.out]), (by repeat (first | with_reducible exact Below.refl _ _ | with_reducible assumption | with_reducible refine below_drewN ?_ _ | with_reducible refine Below.drew ?_ | with_reducible refine below_alloc0 ?_ | with_reducible refine below_alloc ?_ (by simp; try omega) | with_reducible refine below_set ?_ (by simp; try omega) | with_reducible refine below_chain ?_ (by assumption) | (with_reducible refine below_step ?_ (by assumption) (by simp; try omega))))⟩
        · have HT := Lib.hid t3
          clear t3
          go_wp2_with fail
          go_ret
          exact ⟨ret_int (by rw [firstErr_hit HL.out.1 (by rw [HT.out]; decide) n hlt, HT.out]), (by repeat (first | with_reducible exact Below.refl _ _ | with_reducible assumption | with_reducible refine below_drewN ?_ _ | with_reducible refine Below.drew ?_ | with_reducible refine below_alloc0 ?_ | with_reducible refine below_alloc ?_ (by simp; try omega) | with_reducible refine below_set ?_ (by simp; try omega) | with_reducible refine below_chain ?_ (by assumption) | (with_reducible refine below_step ?_ (by assumption) (by simp; try omega))))⟩
        · have HT := Lib.hid t4
          clear t4
          go_wp2_with fail
          go_ret
          exact ⟨ret_int (by rw [firstErr_hit HL.out.1 (by rw [HT.out]; decide) n hlt, HT.out]), (by repeat (first | with_reducible exact Below.refl _ _ | with_reducible assumption | with_reducible refine below_drewN ?_ _ | with_reducible refine Below.drew ?_ | with_reducible refine below_alloc0 ?_ | with_reducible refine below_alloc ?_ (by simp; try omega) | with_reducible refine below_set ?_ (by simp; try omega) | with_reducible refine below_chain ?_ (by assumption) | (with_reducible refine below_step ?_ (by assumption) (by simp; try omega))))⟩
        · have HT := Lib.hid (And.intro t4 t5)
          clear t4 t5
          go_wp2_with fail
          go_loopw [5] (fun i5 wx => ∃ m : Nat, m ≤ k ∧ i5 = .int .i64 m ∧ (l.take m).any (tmrId t.id) = false ∧ Below (wq.alloc (.cells #[.int .i64 t.id, .int .i64 t.at_] 55)).heap.size (wq.alloc (.cells #[.int .i64 t.id, .int .i64 t.at_] 55)) wx) (fun i5 _ => k - (intOf i5).toNat)
          case atStart => exact ⟨0, by omega, rfl, by simp, Below.refl _ _⟩
          case round =>
            obtain ⟨m, hm, rfl, hv2, hbx⟩ := hrel
            have hbwx : Below w.heap.size w wr := below_chain hbr (alloc_below (o := .cells #[.int .i64 t.id, .int .i64 t.at_] 55) (by simpa using hbx))
            obtain ⟨hcx, hfx⟩ := bcell hbx; (try simp only [World.heap_drewN, World.cell?_drewN, World.frozen?_drewN] at hcx hfx); have hzx := hbx.size; (try simp at hzx); (try (have hyx := Nat.lt_of_succ_le hzx)); (try (have hxx := Nat.lt_of_succ_lt hyx))
            by_cases hlt2 : m < k
            · obtain ⟨b2, o2, u, e2, _, hl2, _, y0, y1⟩ := Tmr_at (HH.out.now hbr) (show m < n by omega)
              cases e2
              have hmn : m < n := by omega
              have HV := Lib.hid (And.intro hv2 hl2)
              clear hv2 hl2
              cases hp : tmrId t.id u
              · have hp' : (u.id == t.id) = false := hp
                have HP := Lib.hid hp
                clear hp
                go_wp2_with fail
                go_quiet (fail)
                go_wp2_with fail
                go_roundw
                case rel =>
                  refine ⟨m + 1, by omega, by go_num, ?_, (by repeat (first | with_reducible exact Below.refl _ _ | with_reducible assumption | with_reducible refine below_drewN ?_ _ | with_reducible refine Below.drew ?_ | with_reducible refine below_alloc0 ?_ | with_reducible refine below_alloc ?_ (by simp; try omega) | with_reducible refine below_set ?_ (by simp; try omega) | with_reducible refine below_chain ?_ (by assumption) | (with_reducible refine below_step ?_ (by assumption) (by simp; try omega))))⟩
                  rw [List.take_add_one, HV.out.2, List.any_append, HV.out.1]
                  simp [HP.out]
                case measure => simp [intOf]; omega
              · have hp' : (u.id == t.id) = true := hp
                clear hp
                go_wp2_with fail
                go_quiet (fail)
                go_wp2_with fail
                go_ret
                exact ⟨ret_int (by rw [firstErr_hit HL.out.1 (by rw [HT.out.2]; decide) n hlt, HT.out.2]), (by repeat (first | with_reducible exact Below.refl _ _ | with_reducible assumption | with_reducible refine below_drewN ?_ _ | with_reducible refine Below.drew ?_ | with_reducible refine below_alloc0 ?_ | with_reducible refine below_alloc ?_ (by simp; try omega) | with_reducible refine below_set ?_ (by simp; try omega) | with_reducible refine below_chain ?_ (by assumption) | (with_reducible refine below_step ?_ (by assumption) (by simp; try omega))))⟩
            · exfalso
              have hmk : m = k := by omega
              rw [hmk, HT.out.1] at hv2
              cases hv2
        · have HT := Lib.hid (And.intro t4 t5)
          have hk0 : ¬ 0 < k := by omega
          have HK := Lib.hid tk
          clear t4 t5 tk
          go_wp2_with fail
          go_loopw [5] (fun i5 wx => ∃ m : Nat, m ≤ k ∧ i5 = .int .i64 m ∧ Below (wq.alloc (.cells #[.int .i64 t.id, .int .i64 t.at_] 55)).heap.size (wq.alloc (.cells #[.int .i64 t.id, .int .i64 t.at_] 55)) wx) (fun i5 _ => k - (intOf i5).toNat)
          case atStart => exact ⟨0, by omega, rfl, Below.refl _ _⟩
          case round =>
            obtain ⟨m, hm, rfl, hbx⟩ := hrel
            have hbwx : Below w.heap.size w wr := below_chain hbr (alloc_below (o := .cells #[.int .i64 t.id, .int .i64 t.at_] 55) (by simpa using hbx))
            obtain ⟨hcx, hfx⟩ := bcell hbx; (try simp only [World.heap_drewN, World.cell?_drewN, World.frozen?_drewN] at hcx hfx); have hzx := hbx.size; (try simp at hzx); (try (have hyx := Nat.lt_of_succ_le hzx)); (try (have hxx := Nat.lt_of_succ_lt hyx))
            by_cases hlt2 : m < k
            · obtain ⟨b2, o2, u, e2, _, hl2, _, z0, z1⟩ := Tmr_at (HH.out.now hbr) (show m < n by omega)
              cases e2
              have hmn : m < n := by omega
              have hp' : (u.id == t.id) = false := by
                have := List.any_eq_false.1 HT.out.1 u (List.mem_of_getElem? ((List.getElem?_take_of_lt hlt2).trans hl2))
                simpa [tmrId] using this
              clear hl2
              go_wp2_with fail
              go_quiet (fail)
              go_wp2_with fail
              go_roundw
              case rel => exact ⟨m + 1, by omega, by go_num, (by repeat (first | with_reducible exact Below.refl _ _ | with_reducible assumption | with_reducible refine below_drewN ?_ _ | with_reducible refine Below.drew ?_ | with_reducible refine below_alloc0 ?_ | with_reducible refine below_alloc ?_ (by simp; try omega) | with_reducible refine below_set ?_ (by simp; try omega) | with_reducible refine below_chain ?_ (by assumption) | (with_reducible refine below_step ?_ (by assumption) (by simp; try omega))))⟩
              case measure => simp [intOf]; omega
            · have hmk : m = k := by omega
              subst hmk
              go_wp2_with fail
              refine wp_world ?_; intro W0 hW0
              have hS0 : W0.cell? ⟨wq.heap.size, 0, none⟩ = some (.int .i64 t.id) ∧ Below W0.heap.size W0 W0 ∧ W0.heap.size ≤ W0.heap.size := ⟨by rw [hW0]; go_simp, Below.refl _ _, Nat.le_refl _⟩
              have HW0 := Lib.hid hW0; clear hW0
              refine wp_quietC (C := fun w' => w'.cell? ⟨wq.heap.size, 0, none⟩ = some (.int .i64 t.id) ∧ Below W0.heap.size W0 w' ∧ W0.heap.size ≤ w'.heap.size) (by kernel_rfl) (by kernel_rfl) (held1d hS0) ?_
              clear hS0
              repeat (first
                | go_big_quiet_skip
                | (go_big_quiet_want; go_big_quiet_op; go_big_quiet_on)
                | (go_big_quiet_want
                   apply Exists.intro
                   refine ⟨fun w' hw' => ?_, ?_⟩
                   · unfold Oper.quietAt
                     have hqs := hw'
                     obtain ⟨hq0, hqb, hql⟩ := hw'
                     try go_simp
                     first
                       | with_reducible rfl
                       | exact ⟨rfl, rfl⟩
                       
                   go_big_quiet_on
                   try go_simp))
              refine wpQuiet_nil ?_; intro wq3; (try simp only [and_imp]); intro hq0 hb3 hql; clear hq0 hql
              have hW0 := HW0.out; clear HW0; subst hW0
              obtain ⟨hc3, hf3⟩ := bcell hb3; (try simp only [World.heap_drewN, World.cell?_drewN, World.frozen?_drewN] at hc3 hf3); have hz3 := hb3.size; (try simp at hz3); (try (have hy3 := Nat.lt_of_succ_le hz3)); (try (have hx3 := Nat.lt_of_succ_lt hy3))
              go_wp2_with fail
              go_roundw
              case rel => exact ⟨m + 1, by omega, by go_num, firstErr_next HL.out.1 HT.out.2, below_step hbwx (by repeat (first | with_reducible exact Below.refl _ _ | with_reducible assumption | with_reducible refine below_drewN ?_ _ | with_reducible refine Below.drew ?_ | with_reducible refine below_alloc0 ?_ | with_reducible refine below_alloc ?_ (by simp; try omega) | with_reducible refine below_set ?_ (by simp; try omega) | with_reducible refine below_chain ?_ (by assumption) | (with_reducible refine below_step ?_ (by assumption) (by simp; try omega)))) hbwx.size⟩
              case measure => simp [intOf]; omega
        · have HT := Lib.hid (And.intro t4 t8)
          obtain ⟨b1, o1, p1, e1, _, hl1, _, y0, y1⟩ := Tmr_at (HH.out.now hbr) (show j < n by omega)
          cases e1
          rw [t5] at hl1
          cases hl1
          have hk0 : 0 < k := by omega
          have hkj : IntKind.i64.wrap ((k : Int) - 1) = j := by rw [show (k : Int) - 1 = j by omega]; exact wrap_small j (by omega)
          have HK := Lib.hid tk
          have hjn : j < n := by omega
          have HS := Lib.hid t6
          clear t4 t5 t6 t7 t8 tk
          go_wp2_with fail
          go_loopw [5] (fun i5 wx => ∃ m : Nat, m ≤ k ∧ i5 = .int .i64 m ∧ Below (wq.alloc (.cells #[.int .i64 t.id, .int .i64 t.at_] 55)).heap.size (wq.alloc (.cells #[.int .i64 t.id, .int .i64 t.at_] 55)) wx) (fun i5 _ => k - (intOf i5).toNat)
          case atStart => exact ⟨0, by omega, rfl, Below.refl _ _⟩
          case round =>
            obtain ⟨m, hm, rfl, hbx⟩ := hrel
            have hbwx : Below w.heap.size w wr := below_chain hbr (alloc_below (o := .cells #[.int .i64 t.id, .int .i64 t.at_] 55) (by simpa using hbx))
            obtain ⟨hcx, hfx⟩ := bcell hbx; (try simp only [World.heap_drewN, World.cell?_drewN, World.frozen?_drewN] at hcx hfx); have hzx := hbx.size; (try simp at hzx); (try (have hyx := Nat.lt_of_succ_le hzx)); (try (have hxx := Nat.lt_of_succ_lt hyx))
            by_cases hlt2 : m < k
            · obtain ⟨b2, o2, u, e2, _, hl2, _, z0, z1⟩ := Tmr_at (HH.out.now hbr) (show m < n by omega)
              cases e2
              have hmn : m < n := by omega
              have hp' : (u.id == t.id) = false := by
                have := List.any_eq_false.1 HT.out.1 u (List.mem_of_getElem? ((List.getElem?_take_of_lt hlt2).trans hl2))
                simpa [tmrId] using this
              clear hl2
              go_wp2_with fail
              go_quiet (fail)
              go_wp2_with fail
              go_roundw
              case rel => exact ⟨m + 1, by omega, by go_num, (by repeat (first | with_reducible exact Below.refl _ _ | with_reducible assumption | with_reducible refine below_drewN ?_ _ | with_reducible refine Below.drew ?_ | with_reducible refine below_alloc0 ?_ | with_reducible refine below_alloc ?_ (by simp; try omega) | with_reducible refine below_set ?_ (by simp; try omega) | with_reducible refine below_chain ?_ (by assumption) | (with_reducible refine below_step ?_ (by assumption) (by simp; try omega))))⟩
              case measure => simp [intOf]; omega
            · have hmk : m = k := by omega
              subst hmk
              go_wp2_with fail
              refine wp_world ?_; intro W0 hW0
              have hS0 : W0.cell? ⟨wq.heap.size, 0, none⟩ = some (.int .i64 t.id) ∧ W0.cell? ⟨wq.heap.size, 1, none⟩ = some (.int .i64 t.at_) ∧ W0.cell? ⟨b, o + j * 2, none⟩ = some (.int .i64 p.id) ∧ W0.cell? ⟨b, o + j * 2 + 1, none⟩ = some (.int .i64 p.at_) ∧ Below W0.heap.size W0 W0 ∧ W0.heap.size ≤ W0.heap.size := ⟨by rw [hW0]; go_simp, by rw [hW0]; go_simp, by rw [hW0]; go_simp, by rw [hW0]; go_simp, Below.refl _ _, Nat.le_refl _⟩
              have HW0 := Lib.hid hW0; clear hW0
              refine wp_quietC (C := fun w' => w'.cell? ⟨wq.heap.size, 0, none⟩ = some (.int .i64 t.id) ∧ w'.cell? ⟨wq.heap.size, 1, none⟩ = some (.int .i64 t.at_) ∧ w'.cell? ⟨b, o + j * 2, none⟩ = some (.int .i64 p.id) ∧ w'.cell? ⟨b, o + j * 2 + 1, none⟩ = some (.int .i64 p.at_) ∧ Below W0.heap.size W0 w' ∧ W0.heap.size ≤ w'.heap.size) (by kernel_rfl) (by kernel_rfl) (held4d hS0) ?_
              clear hS0
              repeat (first
                | go_big_quiet_skip
                | (go_big_quiet_want; go_big_quiet_op; go_big_quiet_on)
                | (go_big_quiet_want
                   apply Exists.intro
                   refine ⟨fun w' hw' => ?_, ?_⟩
                   · unfold Oper.quietAt
                     have hqs := hw'
                     obtain ⟨hq0, hq1, hq2, hq3, hqb, hql⟩ := hw'
                     try go_simp
                     first
                       | with_reducible rfl
                       | exact ⟨rfl, rfl⟩
                       | (go_at_call 82; refine (ref_sooner t p _).mono ?_; rintro e w3 ⟨rfl, hb3⟩; rw [HS.out]; exact ⟨rfl, held4 hqs hb3⟩)
                   go_big_quiet_on
                   try go_simp))
              refine wpQuiet_nil ?_; intro wq3; (try simp only [and_imp]); intro hq0 hq1 hq2 hq3 hb3 hql; clear hq0 hq1 hq2 hq3 hql
              have hW0 := HW0.out; clear HW0; subst hW0
              obtain ⟨hc3, hf3⟩ := bcell hb3; (try simp only [World.heap_drewN, World.cell?_drewN, World.frozen?_drewN] at hc3 hf3); have hz3 := hb3.size; (try simp at hz3); (try (have hy3 := Nat.lt_of_succ_le hz3)); (try (have hx3 := Nat.lt_of_succ_lt hy3))
              go_wp2_with fail
              go_ret
              exact ⟨ret_int (by rw [firstErr_hit HL.out.1 (by rw [HT.out.2]; decide) n hlt, HT.out.2]), below_step hbwx (by repeat (first | with_reducible exact Below.refl _ _ | with_reducible assumption | with_reducible refine below_drewN ?_ _ | with_reducible refine Below.drew ?_ | with_reducible refine below_alloc0 ?_ | with_reducible refine below_alloc ?_ (by simp; try omega) | with_reducible refine below_set ?_ (by simp; try omega) | with_reducible refine below_chain ?_ (by assumption) | (with_reducible refine below_step ?_ (by assumption) (by simp; try omega)))) hbwx.size⟩
        · have HT := Lib.hid (And.intro t4 t8)
          obtain ⟨b1, o1, p1, e1, _, hl1, _, y0, y1⟩ := Tmr_at (HH.out.now hbr) (show j < n by omega)
          cases e1
          rw [t5] at hl1
          cases hl1
          have hk0 : 0 < k := by omega
          have hkj : IntKind.i64.wrap ((k : Int) - 1) = j := by rw [show (k : Int) - 1 = j by omega]; exact wrap_small j (by omega)
          have HK := Lib.hid tk
          have hjn : j < n := by omega
          have HS := Lib.hid t6
          clear t4 t5 t6 t7 t8 tk
          go_wp2_with fail
          go_loopw [5] (fun i5 wx => ∃ m : Nat, m ≤ k ∧ i5 = .int .i64 m ∧ Below (wq.alloc (.cells #[.int .i64 t.id, .int .i64 t.at_] 55)).heap.size (wq.alloc (.cells #[.int .i64 t.id, .int .i64 t.at_] 55)) wx) (fun i5 _ => k - (intOf i5).toNat)
          case atStart => exact ⟨0, by omega, rfl, Below.refl _ _⟩
          case round =>
            obtain ⟨m, hm, rfl, hbx⟩ := hrel
            have hbwx : Below w.heap.size w wr := below_chain hbr (alloc_below (o := .cells #[.int .i64 t.id, .int .i64 t.at_] 55) (by simpa using hbx))
            obtain ⟨hcx, hfx⟩ := bcell hbx; (try simp only [World.heap_drewN, World.cell?_drewN, World.frozen?_drewN] at hcx hfx); have hzx := hbx.size; (try simp at hzx); (try (have hyx := Nat.lt_of_succ_le hzx)); (try (have hxx := Nat.lt_of_succ_lt hyx))
            by_cases hlt2 : m < k
            · obtain ⟨b2, o2, u, e2, _, hl2, _, z0, z1⟩ := Tmr_at (HH.out.now hbr) (show m < n by omega)
              cases e2
              have hmn : m < n := by omega
              have hp' : (u.id == t.id) = false := by
                have := List.any_eq_false.1 HT.out.1 u (List.mem_of_getElem? ((List.getElem?_take_of_lt hlt2).trans hl2))
                simpa [tmrId] using this
              clear hl2
              go_wp2_with fail
              go_quiet (fail)
              go_wp2_with fail
              go_roundw
              case rel => exact ⟨m + 1, by omega, by go_num, (by repeat (first | with_reducible exact Below.refl _ _ | with_reducible assumption | with_reducible refine below_drewN ?_ _ | with_reducible refine Below.drew ?_ | with_reducible refine below_alloc0 ?_ | with_reducible refine below_alloc ?_ (by simp; try omega) | with_reducible refine below_set ?_ (by simp; try omega) | with_reducible refine below_chain ?_ (by assumption) | (with_reducible refine below_step ?_ (by assumption) (by simp; try omega))))⟩
              case measure => simp [intOf]; omega
            · have hmk : m = k := by omega
              subst hmk
              go_wp2_with fail
              refine wp_world ?_; intro W0 hW0
              have hS0 : W0.cell? ⟨wq.heap.size, 0, none⟩ = some (.int .i64 t.id) ∧ W0.cell? ⟨wq.heap.size, 1, none⟩ = some (.int .i64 t.at_) ∧ W0.cell? ⟨b, o + j * 2, none⟩ = some (.int .i64 p.id) ∧ W0.cell? ⟨b, o + j * 2 + 1, none⟩ = some (.int .i64 p.at_) ∧ Below W0.heap.size W0 W0 ∧ W0.heap.size ≤ W0.heap.size := ⟨by rw [hW0]; go_simp, by rw [hW0]; go_simp, by rw [hW0]; go_simp, by rw [hW0]; go_simp, Below.refl _ _, Nat.le_refl _⟩
              have HW0 := Lib.hid hW0; clear hW0
              refine wp_quietC (C := fun w' => w'.cell? ⟨wq.heap.size, 0, none⟩ = some (.int .i64 t.id) ∧ w'.cell? ⟨wq.heap.size, 1, none⟩ = some (.int .i64 t.at_) ∧ w'.cell? ⟨b, o + j * 2, none⟩ = some (.int .i64 p.id) ∧ w'.cell? ⟨b, o + j * 2 + 1, none⟩ = some (.int .i64 p.at_) ∧ Below W0.heap.size W0 w' ∧ W0.heap.size ≤ w'.heap.size) (by kernel_rfl) (by kernel_rfl) (held4d hS0) ?_
              clear hS0
              repeat (first
                | go_big_quiet_skip
                | (go_big_quiet_want; go_big_quiet_op; go_big_quiet_on)
                | (go_big_quiet_want
                   apply Exists.intro
                   refine ⟨fun w' hw' => ?_, ?_⟩
                   · unfold Oper.quietAt
                     have hqs := hw'
                     obtain ⟨hq0, hq1, hq2, hq3, hqb, hql⟩ := hw'
                     try go_simp
                     first
                       | with_reducible rfl
                       | exact ⟨rfl, rfl⟩
                       | (go_at_call 82; refine (ref_sooner t p _).mono ?_; rintro e w3 ⟨rfl, hb3⟩; rw [HS.out]; exact ⟨rfl, held4 hqs hb3⟩)
                   go_big_quiet_on
                   try go_simp))
              refine wpQuiet_nil ?_; intro wq3; (try simp only [and_imp]); intro hq0 hq1 hq2 hq3 hb3 hql; clear hq0 hq1 hq2 hq3 hql
              have hW0 := HW0.out; clear HW0; subst hW0
              obtain ⟨hc3, hf3⟩ := bcell hb3; (try simp only [World.heap_drewN, World.cell?_drewN, World.frozen?_drewN] at hc3 hf3); have hz3 := hb3.size; (try simp at hz3); (try (have hy3 := Nat.lt_of_succ_le hz3)); (try (have hx3 := Nat.lt_of_succ_lt hy3))
              go_wp2_with fail
              go_roundw
              case rel => exact ⟨m + 1, by omega, by go_num, firstErr_next HL.out.1 HT.out.2, below_step hbwx (by repeat (first | with_reducible exact Below.refl _ _ | with_reducible assumption | with_reducible refine below_drewN ?_ _ | with_reducible refine Below.drew ?_ | with_reducible refine below_alloc0 ?_ | with_reducible refine below_alloc ?_ (by simp; try omega) | with_reducible refine below_set ?_ (by simp; try omega) | with_reducible refine below_chain ?_ (by assumption) | (with_reducible refine below_step ?_ (by assumption) (by simp; try omega)))) hbwx.size⟩
              case measure => simp [intOf]; omega
      · have hke : k = n := by omega
        subst hke
        have HV := Lib.hid hv
        clear hv
        go_wp2_with fail
        go_ret
        exact ⟨ret_int HV.out.symm, hbr⟩
end Go.Proofs.Ytiplgdplfbeahaa
