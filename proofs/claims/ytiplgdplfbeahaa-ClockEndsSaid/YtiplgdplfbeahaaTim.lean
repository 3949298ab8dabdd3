/- Timers: what clock.Check and the reference TimersFault answer; clock.index, clock.compare and the reference sooner. -/
import Derived.Test.YtiplgdplfbeahaaRowT
import Derived.Test.YtiplgdplfbeahaaIdx
import Derived.Test.YtiplgdplfbeahaaCmp
import Derived.Test.YtiplgdplfbeahaaNum
import Derived.Test.YtiplgdplfbeahaaHeld
import Derived.Deep.DeepCutAuto
namespace Go.Proofs.Ytiplgdplfbeahaa
open Go.RowKit

theorem wrap_small (n : Nat) (h : n < 9223372036854775808) : IntKind.i64.wrap (n : Int) = (n : Int) := by
  have e : (n : Int) % 2 ^ 64 = n := Int.emod_eq_of_lt (by omega) (by omega)
  simp only [IntKind.wrap, IntKind.bits, IntKind.signed, e]
  rw [if_neg]
  simp
  omega
def sooner (a b : Tmr) : Bool := decide (a.at_ < b.at_) || (decide (a.at_ = b.at_) && decide (a.id < b.id))
def tmrCmp (a b : Tmr) : Int := or2 (cmpI a.at_ b.at_) (cmpI a.id b.id)
theorem tmrCmp_cases (a b : Tmr) : (sooner a b = true ∧ sooner b a = false ∧ tmrCmp a b = -1) ∨ (sooner a b = false ∧ sooner b a = true ∧ tmrCmp a b = 1) ∨ (sooner a b = false ∧ sooner b a = false ∧ a = b ∧ tmrCmp a b = 0) := by
  obtain ⟨i, t⟩ := a
  obtain ⟨j, s⟩ := b
  simp only [sooner, tmrCmp, or2, cmpI, Tmr.mk.injEq, Bool.or_eq_true, Bool.and_eq_true, Bool.or_eq_false_iff, Bool.and_eq_false_imp, decide_eq_true_eq, decide_eq_false_iff_not]
  rcases Int.lt_trichotomy t s with h | h | h <;> rcases Int.lt_trichotomy i j with h' | h' | h' <;> (repeat' split) <;> omega
def tmrId (id : Int) (x : Tmr) : Bool := x.id == id
def tmrBack (l : List Tmr) (t : Tmr) : Nat → Bool
  | 0 => false
  | k + 1 => match l[k]? with
    | none => false
    | some p => sooner t p
def tmrStep (l : List Tmr) (i : Nat) : Int := match l[i]? with
  | none => 0
  | some t => if t.id < 1 ∨ t.at_ < 0 ∨ 1073741824 < t.at_ then 4 else if (l.take i).any (tmrId t.id) then 6 else if tmrBack l t i then 15 else 0
def tmrCheck (l : List Tmr) : Int := if 20 < l.length then 1 else firstErr (tmrStep l) l.length

set_option maxHeartbeats 400000 in
theorem index_1 (id : Int) (g : Nat) (x : Tmr) (w : World) (h : w.cell? ⟨g, 0, none⟩ = some (.int .i64 id)) :
    Calls Try.prog 104 #[.agg #[.int .i64 x.id, .int .i64 x.at_], .pointer (some ⟨g, 0, none⟩)] w fun e w' => e = .returned (.bool (tmrId id x)) ∧ Below w.heap.size w w' := by
  have hg := block_lt_of_cell h
  simp only at hg
  go_enter Try.func104, Try.ntmps104
  go_wp2
  go_ret
  exact ⟨rfl, (by repeat (first | with_reducible exact Below.refl _ _ | with_reducible assumption | with_reducible refine below_drewN ?_ _ | with_reducible refine Below.drew ?_ | with_reducible refine below_alloc0 ?_ | with_reducible refine below_alloc ?_ (by simp; try omega) | with_reducible refine below_set ?_ (by simp; try omega) | with_reducible refine below_chain ?_ (by assumption) | (with_reducible refine below_step ?_ (by assumption) (by simp; try omega))))⟩
theorem cf_index1 (args : Array Value) (w : World) : (callFunc 104 args).run Try.prog w = .ok (.enter 104 args) w :=
  cf _ _ Try.func104 (by kernel_rfl) (by kernel_rfl) args w
set_option maxHeartbeats 1000000 in
theorem tmrs_IndexFunc (p : Tmr → Bool) (f : FuncId) (cp : Value) (A : Option Addr) (n c : Nat) (l : List Tmr) (w : World) (hn : inL n) (h : Sl w (old w) 2 RTmr A n l) (hcf : ∀ args w, (callFunc f args).run Try.prog w = .ok (.enter f args) w)
    (hcall : ∀ (wr : World) (k : Nat) (x : Tmr), Below w.heap.size w wr → l[k]? = some x → x.wf → Calls Try.prog f #[.agg #[.int .i64 x.id, .int .i64 x.at_], cp] wr fun e w' => e = .returned (.bool (p x)) ∧ Below wr.heap.size wr w') :
    Calls Try.prog 103 #[.slice A n c, .func (.func f) #[] #[cp]] w fun e w' => e = .returned (.int .i64 (idxOf p l)) ∧ Below w.heap.size w w' := by
  unfold inL at hn
  have HH := Lib.hid h
  have HC := Lib.hid hcall
  clear h hcall
  go_enter Try.func103, Try.ntmps103
  go_wp2_with fail
  go_loopw [8] (fun i wr => ∃ k : Nat, k ≤ n ∧ i = .int .i64 k ∧ (l.take k).any p = false ∧ Below w.heap.size w wr) (fun i _ => n - (intOf i).toNat)
  case atStart => exact ⟨0, by omega, rfl, by simp, Below.refl _ _⟩
  case round =>
    obtain ⟨k, hk, rfl, hv, hb⟩ := hrel
    by_cases hlt : k < n
    · obtain ⟨b, o, x, rfl, _, hl, hrep, h0, h1⟩ := Tmr_at (HH.out.now hb) hlt
      have HL := Lib.hid (And.intro hl (And.intro hv hrep))
      clear hl hv hrep
      cases hp : p x
      · have HP := Lib.hid hp
        have hcl := HC.out wr k x hb HL.out.1 HL.out.2.2
        rw [HP.out] at hcl
        clear hp
        go_wp2_with (refine hcl.mono ?_; rintro e w1 ⟨rfl, hb1⟩)
        clear hcl
        go_roundw
        case rel =>
          refine ⟨k + 1, by omega, by go_num, ?_, (by repeat (first | with_reducible exact Below.refl _ _ | with_reducible assumption | with_reducible refine below_drewN ?_ _ | with_reducible refine Below.drew ?_ | with_reducible refine below_alloc0 ?_ | with_reducible refine below_alloc ?_ (by simp; try omega) | with_reducible refine below_set ?_ (by simp; try omega) | with_reducible refine below_chain ?_ (by assumption) | (with_reducible refine below_step ?_ (by assumption) (by simp; try omega))))⟩
          rw [List.take_add_one, HL.out.1, List.any_append, HL.out.2.1]
          simp [HP.out]
        case measure => simp [intOf]; omega
      · have HP := Lib.hid hp
        have hcl := HC.out wr k x hb HL.out.1 HL.out.2.2
        rw [HP.out] at hcl
        clear hp
        go_wp2_with (refine hcl.mono ?_; rintro e w1 ⟨rfl, hb1⟩)
        clear hcl
        go_ret
        refine ⟨ret_int ?_, (by repeat (first | with_reducible exact Below.refl _ _ | with_reducible assumption | with_reducible refine below_drewN ?_ _ | with_reducible refine Below.drew ?_ | with_reducible refine below_alloc0 ?_ | with_reducible refine below_alloc ?_ (by simp; try omega) | with_reducible refine below_set ?_ (by simp; try omega) | with_reducible refine below_chain ?_ (by assumption) | (with_reducible refine below_step ?_ (by assumption) (by simp; try omega))))⟩
        have e1 := firstAt_hit p l k x HL.out.1 HP.out HL.out.2.1
        have e2 : l.any p = true := by
          rw [List.any_eq_true]
          exact ⟨x, List.mem_of_getElem? HL.out.1, HP.out⟩
        rw [idxOf, if_pos e2, e1]
    · have hke : k = n := by omega
      subst hke
      have hl : l.take k = l := by rw [List.take_of_length_le (by rw [HH.out.len]; exact Nat.le_refl _)]
      rw [hl] at hv
      have HV := Lib.hid hv
      clear hl hv
      go_wp2_with fail
      go_ret
      exact ⟨ret_int (by rw [idxOf, HV.out]; rfl), hb⟩
set_option maxHeartbeats 400000 in
theorem clock_index (A : Option Addr) (n c : Nat) (l : List Tmr) (id : Int) (w : World) (hn : inL n) (h : Sl w (old w) 2 RTmr A n l) :
    Calls Try.prog 78 #[.slice A n c, .int .i64 id] w (RetI w (idxOf (tmrId id) l)) := by
  have HH := Lib.hid h
  clear h
  go_enter Try.func78, Try.ntmps78
  go_wp2_with (refine (tmrs_IndexFunc (tmrId id) 104 _ A n c l _ hn (HH.out.now (by repeat (first | with_reducible exact Below.refl _ _ | with_reducible assumption | with_reducible refine below_drewN ?_ _ | with_reducible refine Below.drew ?_ | with_reducible refine below_alloc0 ?_ | with_reducible refine below_alloc ?_ (by simp; try omega) | with_reducible refine below_set ?_ (by simp; try omega) | with_reducible refine below_chain ?_ (by assumption) | (with_reducible refine below_step ?_ (by assumption) (by simp; try omega))))) cf_index1 (fun wr k x hb _ _ => index_1 id _ x wr (cell_keep (by go_simp) hb))).mono ?_; rintro e w1 ⟨rfl, hb1⟩)
  go_ret
  exact ⟨rfl, (by repeat (first | with_reducible exact Below.refl _ _ | with_reducible assumption | with_reducible refine below_drewN ?_ _ | with_reducible refine Below.drew ?_ | with_reducible refine below_alloc0 ?_ | with_reducible refine below_alloc ?_ (by simp; try omega) | with_reducible refine below_set ?_ (by simp; try omega) | with_reducible refine below_chain ?_ (by assumption) | (with_reducible refine below_step ?_ (by assumption) (by simp; try omega))))⟩
set_option maxHeartbeats 2000000 in
theorem clock_compare (a b : Tmr) (w : World) : Calls Try.prog 79 #[.agg #[.int .i64 a.id, .int .i64 a.at_], .agg #[.int .i64 b.id, .int .i64 b.at_]] w (RetI w (tmrCmp a b)) := by
  go_enter Try.func79, Try.ntmps79
  go_upto_region 1 with fail
  go_cut [4] (fun s4 wx => s4 = .int .i64 (tmrCmp a b) ∧ Below w.heap.size w wx)
  case first =>
    refine wp_world ?_; intro W0 hW0
    have hS0 : W0.cell? ⟨w.heap.size, 0, none⟩ = some (.int .i64 a.id) ∧ W0.cell? ⟨w.heap.size, 1, none⟩ = some (.int .i64 a.at_) ∧ W0.cell? ⟨w.heap.size + 1, 0, none⟩ = some (.int .i64 b.id) ∧ W0.cell? ⟨w.heap.size + 1, 1, none⟩ = some (.int .i64 b.at_) ∧ Below W0.heap.size W0 W0 ∧ W0.heap.size ≤ W0.heap.size := ⟨by rw [hW0]; go_simp, by rw [hW0]; go_simp, by rw [hW0]; go_simp, by rw [hW0]; go_simp, Below.refl _ _, Nat.le_refl _⟩
    have HW0 := Lib.hid hW0; clear hW0
    go_region_held3 (fun w' => w'.cell? ⟨w.heap.size, 0, none⟩ = some (.int .i64 a.id) ∧ w'.cell? ⟨w.heap.size, 1, none⟩ = some (.int .i64 a.at_) ∧ w'.cell? ⟨w.heap.size + 1, 0, none⟩ = some (.int .i64 b.id) ∧ w'.cell? ⟨w.heap.size + 1, 1, none⟩ = some (.int .i64 b.at_) ∧ Below W0.heap.size W0 w' ∧ W0.heap.size ≤ w'.heap.size) (first | exact held4d (by assumption) | exact held4 (by assumption) (by assumption) | assumption | exact held4o hS0 (by repeat (first | with_reducible exact Below.refl _ _ | with_reducible assumption | with_reducible refine below_drewN ?_ _ | with_reducible refine Below.drew ?_ | with_reducible refine below_alloc0 ?_ | with_reducible refine below_alloc ?_ (by simp; try omega) | with_reducible refine below_set ?_ (by simp; try omega) | with_reducible refine below_chain ?_ (by assumption) | (with_reducible refine below_step ?_ (by assumption) (by simp; try omega))))) (first | (go_at_call 70; refine (cmp_Compare_int _ _ _).mono ?_; rintro e w' ⟨rfl, rfl⟩) | (go_at_call 69; refine (cmp_Or2 _ (cmpI a.at_ b.at_) (cmpI a.id b.id) _ ?h0 ?h1).mono ?_; (case h0 => go_simp); (case h1 => go_simp); rintro e w' ⟨rfl, rfl⟩))
    all_goals
      obtain ⟨_, _, _, _, hb9, _⟩ := held4i (by assumption)
      clear hS0
    all_goals
      go_wp2_with fail
      go_meet
      refine ⟨rfl, ?_⟩
      have hW0 := HW0.out
      subst hW0
      exact (by repeat (first | with_reducible exact Below.refl _ _ | with_reducible assumption | with_reducible refine below_drewN ?_ _ | with_reducible refine Below.drew ?_ | with_reducible refine below_alloc0 ?_ | with_reducible refine below_alloc ?_ (by simp; try omega) | with_reducible refine below_set ?_ (by simp; try omega) | with_reducible refine below_chain ?_ (by assumption) | (with_reducible refine below_step ?_ (by assumption) (by simp; try omega))))
  case rest =>
    obtain ⟨rfl, hb3⟩ := hcut
    go_wp2_with fail
    go_ret
    exact ⟨rfl, (by repeat (first | with_reducible exact Below.refl _ _ | with_reducible assumption | with_reducible refine below_drewN ?_ _ | with_reducible refine Below.drew ?_ | with_reducible refine below_alloc0 ?_ | with_reducible refine below_alloc ?_ (by simp; try omega) | with_reducible refine below_set ?_ (by simp; try omega) | with_reducible refine below_chain ?_ (by assumption) | (with_reducible refine below_step ?_ (by assumption) (by simp; try omega))))⟩
theorem sooner_cases (a b : Tmr) : ((decide (a.at_ < b.at_)) = true ∧ sooner a b = true) ∨ (decide (a.at_ < b.at_) = false ∧ (a.at_ == b.at_) = false ∧ sooner a b = false) ∨ (decide (a.at_ < b.at_) = false ∧ (a.at_ == b.at_) = true ∧ sooner a b = decide (a.id < b.id)) := by
  unfold sooner
  rcases Int.lt_trichotomy a.at_ b.at_ with h | h | h
  · left; simp [h]
  · right; right; simp [h]
  · right; left
    have h1 : ¬ a.at_ < b.at_ := by omega
    have h2 : ¬ a.at_ = b.at_ := by omega
    simp [h1, h2]
set_option maxHeartbeats 400000 in
theorem ref_sooner (a b : Tmr) (w : World) : Calls Try.prog 82 #[.agg #[.int .i64 a.id, .int .i64 a.at_], .agg #[.int .i64 b.id, .int .i64 b.at_]] w (RetB w (sooner a b)) := by
  rcases sooner_cases a b with ⟨h, e⟩ | ⟨h, h', e⟩ | ⟨h, h', e⟩ <;> rw [e] <;> clear e
  all_goals
    go_enter Try.func82, Try.ntmps82
    go_wp2
    go_ret
    exact ⟨rfl, (by repeat (first | with_reducible exact Below.refl _ _ | with_reducible assumption | with_reducible refine below_drewN ?_ _ | with_reducible refine Below.drew ?_ | with_reducible refine below_alloc0 ?_ | with_reducible refine below_alloc ?_ (by simp; try omega) | with_reducible refine below_set ?_ (by simp; try omega) | with_reducible refine below_chain ?_ (by assumption) | (with_reducible refine below_step ?_ (by assumption) (by simp; try omega))))⟩
end Go.Proofs.Ytiplgdplfbeahaa
