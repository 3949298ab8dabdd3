/- net.Send. -/
import Derived.Test.YtiplgdplfbeahaaNet5
namespace Go.Proofs.Ytiplgdplfbeahaa
open Go.RowKit

def ltrSend (l m : List Ltr) : List Ltr × Int := if ltrCheck l = 0 then if ltrCheck m = 0 then if 24 < l.length + m.length then ([], 12) else (l ++ m, 0) else ([], ltrCheck m) else ([], ltrCheck l)
theorem ltrSend_cases (l m : List Ltr) : (ltrCheck l ≠ 0 ∧ ltrSend l m = ([], ltrCheck l)) ∨ (ltrCheck l = 0 ∧ ltrCheck m ≠ 0 ∧ ltrSend l m = ([], ltrCheck m)) ∨ (ltrCheck l = 0 ∧ ltrCheck m = 0 ∧ 24 < l.length + m.length ∧ ltrSend l m = ([], 12)) ∨ (ltrCheck l = 0 ∧ ltrCheck m = 0 ∧ l.length + m.length ≤ 24 ∧ ltrSend l m = (l ++ m, 0)) := by
  unfold ltrSend
  by_cases h1 : ltrCheck l = 0
  · by_cases h2 : ltrCheck m = 0
    · by_cases h3 : 24 < l.length + m.length
      · simp [h1, h2, h3]
      · right; right; right
        exact ⟨h1, h2, by omega, by rw [if_pos h1, if_pos h2, if_neg h3]⟩
    · simp [h1, h2]
  · simp [h1]
set_option maxRecDepth 100000 in
set_option maxHeartbeats 4000000 in
theorem net_Send (A : Option Addr) (n c : Nat) (l : List Ltr) (A2 : Option Addr) (n2 c2 : Nat) (m : List Ltr) (w : World) (hn : inL n) (hn2 : inL n2)
    (h : Sl w (old w) 8 RLtr A n l) (h2 : Sl w (old w) 8 RLtr A2 n2 m) :
    Calls Try.prog 45 #[.slice A n c, .slice A2 n2 c2] w (OwnRowC Ltr.cs 75 8 w (ltrSend l m).1 (ltrSend l m).2) := by
  have HH := Lib.hid (And.intro h h2)
  have hlen := h.len
  have hlen2 := h2.len
  have ix0 : ∀ w : World, (Instr.index 119 (.agg #[.slice A n c, .slice A2 n2 c2]) (.int .i64 0)).run Try.prog w = .ok (.slice A n c) w := fun _ => by kernel_rfl
  have ix1 : ∀ w : World, (Instr.index 119 (.agg #[.slice A n c, .slice A2 n2 c2]) (.int .i64 1)).run Try.prog w = .ok (.slice A2 n2 c2) w := fun _ => by kernel_rfl
  have hbn := hn
  have hbn2 := hn2
  unfold inL at hbn hbn2
  clear h h2
  rcases ltrSend_cases l m with ⟨q1, e⟩ | ⟨q1, q2, e⟩ | ⟨q1, q2, q3, e⟩ | ⟨q1, q2, q3, e⟩ <;> rw [e] <;> clear e
  · have q1' : (ltrCheck l != 0) = true := by simpa using q1
    clear q1
    go_enter Try.func45, Try.ntmps45
    go_wp2_with fail
    go_loopw [12] (fun i wr => i = .int .i64 0 ∧ wr = w) (fun i _ => 2 - (intOf i).toNat)
    case atStart => exact ⟨rfl, rfl⟩
    case round =>
      obtain ⟨rfl, hwr⟩ := hrel
      subst hwr
      go_wp2_with (go_at_call 44; refine (net_Check A n c l _ hn HH.out.1).mono ?_; rintro e w1 ⟨rfl, hb1⟩)
      go_ret2
      exact NilC.own _ _ _ ⟨rfl, (by repeat (first | with_reducible exact Below.refl _ _ | with_reducible assumption | with_reducible refine below_drewN ?_ _ | with_reducible refine Below.drew ?_ | with_reducible refine below_alloc0 ?_ | with_reducible refine below_alloc ?_ (by simp; try omega) | with_reducible refine below_set ?_ (by simp; try omega) | with_reducible refine below_chain ?_ (by assumption) | (with_reducible refine below_step ?_ (by assumption) (by simp; try omega))))⟩
  · have q1' : (ltrCheck l != 0) = false := by simpa using q1
    have q2' : (ltrCheck m != 0) = true := by simpa using q2
    clear q1 q2
    go_enter Try.func45, Try.ntmps45
    go_wp2_with fail
    go_loopw [12] (fun i wr => (i = .int .i64 0 ∨ i = .int .i64 1) ∧ Below w.heap.size w wr) (fun i _ => 2 - (intOf i).toNat)
    case atStart => exact ⟨.inl rfl, (by repeat (first | with_reducible exact Below.refl _ _ | with_reducible assumption | with_reducible refine below_drewN ?_ _ | with_reducible refine Below.drew ?_ | with_reducible refine below_alloc0 ?_ | with_reducible refine below_alloc ?_ (by simp; try omega) | with_reducible refine below_set ?_ (by simp; try omega) | with_reducible refine below_chain ?_ (by assumption) | (with_reducible refine below_step ?_ (by assumption) (by simp; try omega))))⟩
    case round =>
      obtain ⟨hr, hbr⟩ := hrel
      rcases hr with rfl | rfl
      · go_wp2_with (go_at_call 44; refine (net_Check A n c l _ hn (HH.out.1.now hbr)).mono ?_; rintro e w1 ⟨rfl, hb1⟩)
        go_roundw
        case rel => exact ⟨.inr (by simp), (by repeat (first | with_reducible exact Below.refl _ _ | with_reducible assumption | with_reducible refine below_drewN ?_ _ | with_reducible refine Below.drew ?_ | with_reducible refine below_alloc0 ?_ | with_reducible refine below_alloc ?_ (by simp; try omega) | with_reducible refine below_set ?_ (by simp; try omega) | with_reducible refine below_chain ?_ (by assumption) | (with_reducible refine below_step ?_ (by assumption) (by simp; try omega))))⟩
        case measure => simp [intOf]
      · go_wp2_with (go_at_call 44; refine (net_Check A2 n2 c2 m _ hn2 (HH.out.2.now hbr)).mono ?_; rintro e w1 ⟨rfl, hb1⟩)
        go_ret2
        exact NilC.own _ _ _ ⟨rfl, (by repeat (first | with_reducible exact Below.refl _ _ | with_reducible assumption | with_reducible refine below_drewN ?_ _ | with_reducible refine Below.drew ?_ | with_reducible refine below_alloc0 ?_ | with_reducible refine below_alloc ?_ (by simp; try omega) | with_reducible refine below_set ?_ (by simp; try omega) | with_reducible refine below_chain ?_ (by assumption) | (with_reducible refine below_step ?_ (by assumption) (by simp; try omega))))⟩
  · have q1' : (ltrCheck l != 0) = false := by simpa using q1
    have q2' : (ltrCheck m != 0) = false := by simpa using q2
    rw [hlen, hlen2] at q3
    have q3' : (24 : Int) < (n : Int) + (n2 : Int) := by omega
    clear q1 q2
    go_enter Try.func45, Try.ntmps45
    go_wp2_with fail
    go_loopw [12] (fun i wr => (i = .int .i64 0 ∨ i = .int .i64 1 ∨ i = .int .i64 2) ∧ Below w.heap.size w wr) (fun i _ => 2 - (intOf i).toNat)
    case atStart => exact ⟨.inl rfl, (by repeat (first | with_reducible exact Below.refl _ _ | with_reducible assumption | with_reducible refine below_drewN ?_ _ | with_reducible refine Below.drew ?_ | with_reducible refine below_alloc0 ?_ | with_reducible refine below_alloc ?_ (by simp; try omega) | with_reducible refine below_set ?_ (by simp; try omega) | with_reducible refine below_chain ?_ (by assumption) | (with_reducible refine below_step ?_ (by assumption) (by simp; try omega))))⟩
    case round =>
      obtain ⟨hr, hbr⟩ := hrel
      rcases hr with rfl | rfl | rfl
      · go_wp2_with (go_at_call 44; refine (net_Check A n c l _ hn (HH.out.1.now hbr)).mono ?_; rintro e w1 ⟨rfl, hb1⟩)
        go_roundw
        case rel => exact ⟨.inr (.inl (by simp)), (by repeat (first | with_reducible exact Below.refl _ _ | with_reducible assumption | with_reducible refine below_drewN ?_ _ | with_reducible refine Below.drew ?_ | with_reducible refine below_alloc0 ?_ | with_reducible refine below_alloc ?_ (by simp; try omega) | with_reducible refine below_set ?_ (by simp; try omega) | with_reducible refine below_chain ?_ (by assumption) | (with_reducible refine below_step ?_ (by assumption) (by simp; try omega))))⟩
        case measure => simp [intOf]
      · go_wp2_with (go_at_call 44; refine (net_Check A2 n2 c2 m _ hn2 (HH.out.2.now hbr)).mono ?_; rintro e w1 ⟨rfl, hb1⟩)
        go_roundw
        case rel => exact ⟨.inr (.inr (by simp)), (by repeat (first | with_reducible exact Below.refl _ _ | with_reducible assumption | with_reducible refine below_drewN ?_ _ | with_reducible refine Below.drew ?_ | with_reducible refine below_alloc0 ?_ | with_reducible refine below_alloc ?_ (by simp; try omega) | with_reducible refine below_set ?_ (by simp; try omega) | with_reducible refine below_chain ?_ (by assumption) | (with_reducible refine below_step ?_ (by assumption) (by simp; try omega))))⟩
        case measure => simp [intOf]
      · go_wp2_with fail
        go_ret2
        exact NilC.own _ _ _ ⟨rfl, (by repeat (first | with_reducible exact Below.refl _ _ | with_reducible assumption | with_reducible refine below_drewN ?_ _ | with_reducible refine Below.drew ?_ | with_reducible refine below_alloc0 ?_ | with_reducible refine below_alloc ?_ (by simp; try omega) | with_reducible refine below_set ?_ (by simp; try omega) | with_reducible refine below_chain ?_ (by assumption) | (with_reducible refine below_step ?_ (by assumption) (by simp; try omega))))⟩
  · have q1' : (ltrCheck l != 0) = false := by simpa using q1
    have q2' : (ltrCheck m != 0) = false := by simpa using q2
    rw [hlen, hlen2] at q3
    have q3' : ¬ (24 : Int) < (n : Int) + (n2 : Int) := by omega
    clear q1 q2
    go_enter Try.func45, Try.ntmps45
    go_wp2_with fail
    go_loopw [12] (fun i wr => (i = .int .i64 0 ∨ i = .int .i64 1 ∨ i = .int .i64 2) ∧ Below w.heap.size w wr) (fun i _ => 2 - (intOf i).toNat)
    case atStart => exact ⟨.inl rfl, (by repeat (first | with_reducible exact Below.refl _ _ | with_reducible assumption | with_reducible refine below_drewN ?_ _ | with_reducible refine Below.drew ?_ | with_reducible refine below_alloc0 ?_ | with_reducible refine below_alloc ?_ (by simp; try omega) | with_reducible refine below_set ?_ (by simp; try omega) | with_reducible refine below_chain ?_ (by assumption) | (with_reducible refine below_step ?_ (by assumption) (by simp; try omega))))⟩
    case round =>
      obtain ⟨hr, hbr⟩ := hrel
      rcases hr with rfl | rfl | rfl
      · go_wp2_with (go_at_call 44; refine (net_Check A n c l _ hn (HH.out.1.now hbr)).mono ?_; rintro e w1 ⟨rfl, hb1⟩)
        go_roundw
        case rel => exact ⟨.inr (.inl (by simp)), (by repeat (first | with_reducible exact Below.refl _ _ | with_reducible assumption | with_reducible refine below_drewN ?_ _ | with_reducible refine Below.drew ?_ | with_reducible refine below_alloc0 ?_ | with_reducible refine below_alloc ?_ (by simp; try omega) | with_reducible refine below_set ?_ (by simp; try omega) | with_reducible refine below_chain ?_ (by assumption) | (with_reducible refine below_step ?_ (by assumption) (by simp; try omega))))⟩
        case measure => simp [intOf]
      · go_wp2_with (go_at_call 44; refine (net_Check A2 n2 c2 m _ hn2 (HH.out.2.now hbr)).mono ?_; rintro e w1 ⟨rfl, hb1⟩)
        go_roundw
        case rel => exact ⟨.inr (.inr (by simp)), (by repeat (first | with_reducible exact Below.refl _ _ | with_reducible assumption | with_reducible refine below_drewN ?_ _ | with_reducible refine Below.drew ?_ | with_reducible refine below_alloc0 ?_ | with_reducible refine below_alloc ?_ (by simp; try omega) | with_reducible refine below_set ?_ (by simp; try omega) | with_reducible refine below_chain ?_ (by assumption) | (with_reducible refine below_step ?_ (by assumption) (by simp; try omega))))⟩
        case measure => simp [intOf]
      · go_wp2_with fail
        refine (concat_Ltr _ A n c l A2 n2 c2 m _ (by omega) (by omega) (by go_simp) (by go_simp) (HH.out.1.now (by repeat (first | with_reducible exact Below.refl _ _ | with_reducible assumption | with_reducible refine below_drewN ?_ _ | with_reducible refine Below.drew ?_ | with_reducible refine below_alloc0 ?_ | with_reducible refine below_alloc ?_ (by simp; try omega) | with_reducible refine below_set ?_ (by simp; try omega) | with_reducible refine below_chain ?_ (by assumption) | (with_reducible refine below_step ?_ (by assumption) (by simp; try omega))))) (HH.out.2.now (by repeat (first | with_reducible exact Below.refl _ _ | with_reducible assumption | with_reducible refine below_drewN ?_ _ | with_reducible refine Below.drew ?_ | with_reducible refine below_alloc0 ?_ | with_reducible refine below_alloc ?_ (by simp; try omega) | with_reducible refine below_set ?_ (by simp; try omega) | with_reducible refine below_chain ?_ (by assumption) | (with_reducible refine below_step ?_ (by assumption) (by simp; try omega)))))).mono ?_; rintro e w1 ⟨v1, rfl, ho1, hb1⟩
        go_wp2_with fail
        go_ret2
        refine ⟨_, rfl, ownsRow_base ho1 (by have := hbr.size; simp; omega), ?_⟩
        exact below_chain ((by repeat (first | with_reducible exact Below.refl _ _ | with_reducible assumption | with_reducible refine below_drewN ?_ _ | with_reducible refine Below.drew ?_ | with_reducible refine below_alloc0 ?_ | with_reducible refine below_alloc ?_ (by simp; try omega) | with_reducible refine below_set ?_ (by simp; try omega) | with_reducible refine below_chain ?_ (by assumption) | (with_reducible refine below_step ?_ (by assumption) (by simp; try omega))))) hb1
end Go.Proofs.Ytiplgdplfbeahaa
