/- Letters: what net.Check, net.at and the references LettersFault, letter and around answer. -/
import Derived.Test.YtdngggllkjahcaaRowL
import Derived.Test.YtdngggllkjahcaaIdx
import Derived.Test.YtdngggllkjahcaaVal
namespace Go.Proofs.Ytdngggllkjahcaa
open Go.RowKit

def noLtr : Ltr := ⟨⟨#[]⟩, 0, ⟨0, 0, ⟨#[]⟩⟩, ⟨0, 0, ⟨#[]⟩⟩⟩
def ltrBad (x : Ltr) : Int :=
  if x.id < 1 ∨ 1073741824 < x.id then 4
  else if valKnown x.key = false then 9
  else if valEq x.answer ⟨0, 0, ⟨#[]⟩⟩ = true then 0
  else if valKnown x.answer = false then 9 else 0
def ltrStep (l : List Ltr) (i : Nat) : Int := match l[i]? with
  | none => 0
  | some x => ltrBad x
def ltrCheck (l : List Ltr) : Int := if 24 < l.length then 1 else firstErr (ltrStep l) l.length
theorem ltrBad_cases (x : Ltr) :
    (x.id < 1 ∧ ltrBad x = 4) ∨ (1 ≤ x.id ∧ 1073741824 < x.id ∧ ltrBad x = 4) ∨
    (1 ≤ x.id ∧ x.id ≤ 1073741824 ∧ valKnown ⟨x.key.k, x.key.n, x.key.s⟩ = false ∧ ltrBad x = 9) ∨
    (1 ≤ x.id ∧ x.id ≤ 1073741824 ∧ valKnown ⟨x.key.k, x.key.n, x.key.s⟩ = true ∧ valEq ⟨x.answer.k, x.answer.n, x.answer.s⟩ ⟨0, 0, ⟨#[]⟩⟩ = true ∧ valKnown ⟨x.answer.k, x.answer.n, x.answer.s⟩ = false ∧ ltrBad x = 0) ∨
    (1 ≤ x.id ∧ x.id ≤ 1073741824 ∧ valKnown ⟨x.key.k, x.key.n, x.key.s⟩ = true ∧ valEq ⟨x.answer.k, x.answer.n, x.answer.s⟩ ⟨0, 0, ⟨#[]⟩⟩ = false ∧ valKnown ⟨x.answer.k, x.answer.n, x.answer.s⟩ = false ∧ ltrBad x = 9) ∨
    (1 ≤ x.id ∧ x.id ≤ 1073741824 ∧ valKnown ⟨x.key.k, x.key.n, x.key.s⟩ = true ∧ valEq ⟨x.answer.k, x.answer.n, x.answer.s⟩ ⟨0, 0, ⟨#[]⟩⟩ = false ∧ valKnown ⟨x.answer.k, x.answer.n, x.answer.s⟩ = true ∧ ltrBad x = 0) := by
  have hno : valEq ⟨x.answer.k, x.answer.n, x.answer.s⟩ ⟨0, 0, ⟨#[]⟩⟩ = true → valKnown ⟨x.answer.k, x.answer.n, x.answer.s⟩ = false := by
    intro h
    cases hk : valKnown ⟨x.answer.k, x.answer.n, x.answer.s⟩
    · rfl
    · rw [valEq_iff] at h
      rw [h] at hk
      exact absurd ((valKnown_iff _).1 hk).1 (by decide)
  unfold ltrBad
  by_cases h1 : x.id < 1
  · left; exact ⟨h1, by rw [if_pos (.inl h1)]⟩
  · by_cases h2 : 1073741824 < x.id
    · right; left; exact ⟨by omega, h2, by rw [if_pos (.inr h2)]⟩
    · right; right
      rw [if_neg (by omega)]
      have a1 : 1 ≤ x.id := by omega
      have a2 : x.id ≤ 1073741824 := by omega
      have e1 : (⟨x.key.k, x.key.n, x.key.s⟩ : Val) = x.key := rfl
      have e2 : (⟨x.answer.k, x.answer.n, x.answer.s⟩ : Val) = x.answer := rfl
      rw [e1]; rw [e2]; rw [e2] at hno
      cases h3 : valKnown x.key <;> cases h4 : valEq x.answer ⟨0, 0, ⟨#[]⟩⟩ <;> cases h5 : valKnown x.answer <;> simp_all
def ltrOk (l : List Ltr) (k : Nat) : Prop := ∀ x, l[k]? = some x → (x.answer.k = 0 ↔ x.answer = ⟨0, 0, ⟨#[]⟩⟩)
theorem ltrCheck_le {l : List Ltr} (h : ltrCheck l = 0) : l.length ≤ 24 := by
  unfold ltrCheck at h
  by_cases h24 : 24 < l.length
  · rw [if_pos h24] at h; cases h
  · omega
theorem ltrCheck_ok {l : List Ltr} (h : ltrCheck l = 0) {k : Nat} {x : Ltr} (hx : l[k]? = some x) : (x.answer.k = 0 ∧ x.answer = ⟨0, 0, ⟨#[]⟩⟩) ∨ (x.answer.k ≠ 0 ∧ x.answer ≠ ⟨0, 0, ⟨#[]⟩⟩) := by
  have h0 : firstErr (ltrStep l) l.length = 0 := by
    unfold ltrCheck at h
    by_cases h24 : 24 < l.length
    · rw [if_pos h24] at h; cases h
    · rw [if_neg h24] at h; exact h
  have hs := firstErr_all h0 k (List.getElem?_eq_some_iff.1 hx).1
  rw [ltrStep, hx] at hs
  simp only at hs
  rcases ltrBad_cases x with ⟨_, e⟩ | ⟨_, _, e⟩ | ⟨_, _, _, e⟩ | ⟨_, _, _, e, _⟩ | ⟨_, _, _, _, _, e⟩ | ⟨_, _, _, e, e2, _⟩
  · rw [e] at hs; cases hs
  · rw [e] at hs; cases hs
  · rw [e] at hs; cases hs
  · left
    rw [valEq_iff] at e
    have e' : x.answer = ⟨0, 0, ⟨#[]⟩⟩ := e
    rw [e']
    exact ⟨rfl, rfl⟩
  · rw [e] at hs; cases hs
  · right
    have hk := ((valKnown_iff _).1 e2).1
    refine ⟨by simp only at hk; omega, fun e' => ?_⟩
    have : valEq x.answer ⟨0, 0, ⟨#[]⟩⟩ = false := e
    rw [e', (valEq_iff _ _).2 rfl] at this
    cases this

set_option maxRecDepth 100000 in
set_option maxHeartbeats 4000000 in
theorem net_Check (A : Option Addr) (n c : Nat) (l : List Ltr) (w : World) (hn : inL n) (h : Sl w (old w) 8 RLtr A n l) :
    Calls Try.prog 16 #[.slice A n c] w (RetI w (ltrCheck l)) := by
  unfold inL at hn
  have HH := Lib.hid h
  have hlen := h.len
  clear h
  by_cases h24 : 24 < n
  · have e : ltrCheck l = 1 := by rw [ltrCheck, if_pos (by rw [hlen]; exact h24)]
    rw [e]
    clear e
    go_enter Try.func16, Try.ntmps16
    go_wp2_with fail
    go_ret
    exact ⟨rfl, Below.refl _ _⟩
  · have e : ltrCheck l = firstErr (ltrStep l) n := by rw [ltrCheck, if_neg (by rw [hlen]; exact h24), hlen]
    rw [e]
    have HE := Lib.hid hlen
    clear e hlen
    go_enter Try.func16, Try.ntmps16
    go_wp2_with fail
    go_loopw [10] (fun i wr => ∃ k : Nat, k ≤ n ∧ i = .int .i64 k ∧ firstErr (ltrStep l) k = 0 ∧ Below w.heap.size w wr) (fun i _ => n - (intOf i).toNat)
    case atStart => exact ⟨0, by omega, rfl, rfl, Below.refl _ _⟩
    case round =>
      obtain ⟨k, hk, rfl, hv, hbr⟩ := hrel
      by_cases hlt : k < n
      · obtain ⟨b, o, x, rfl, hbl, hl, hwf, x0, x1, x2, x3, x4, x5, x6, x7⟩ := Ltr_at (HH.out.now hbr) hlt
        have hbl' : b < wr.heap.size := hbl
        have hs1 : x.key.s.size ≤ maxLen := inS_max hwf.2.2.1.2.2
        have hs2 : x.answer.s.size ≤ maxLen := inS_max hwf.2.2.2.2.2
        have hst : ltrStep l k = ltrBad x := by rw [ltrStep, hl]
        have hca := ltrBad_cases x
        rw [← hst] at hca
        have HV := Lib.hid hv
        have hneq := fun w => run_neq_Val w x.answer.k x.answer.n 0 0 x.answer.s ⟨#[]⟩
        clear hv hl hbl hwf hst
        rcases hca with ⟨t1, e⟩ | ⟨t1, t2, e⟩ | ⟨t1, t2, t3, e⟩ | ⟨t1, t2, t3, t4, t5, e⟩ | ⟨t1, t2, t3, t4, t5, e⟩ | ⟨t1, t2, t3, t4, t5, e⟩
        · have HE := Lib.hid e
          clear e
          go_wp2_with fail
          go_ret
          exact ⟨ret_int (by rw [firstErr_hit HV.out (by rw [HE.out]; decide) n hlt, HE.out]), (by repeat (first | with_reducible exact Below.refl _ _ | with_reducible assumption | with_reducible refine below_drewN ?_ _ | with_reducible refine Below.drew ?_ | with_reducible refine below_alloc0 ?_ | with_reducible refine below_alloc ?_ (by simp; try omega) | with_reducible refine below_set ?_ (by simp; try omega) | with_reducible refine below_chain ?_ (by assumption) | (with_reducible refine below_step ?_ (by assumption) (by simp; try omega))))⟩
        · have HE := Lib.hid e
          clear e
          go_wp2_with fail
          go_ret
          exact ⟨ret_int (by rw [firstErr_hit HV.out (by rw [HE.out]; decide) n hlt, HE.out]), (by repeat (first | with_reducible exact Below.refl _ _ | with_reducible assumption | with_reducible refine below_drewN ?_ _ | with_reducible refine Below.drew ?_ | with_reducible refine below_alloc0 ?_ | with_reducible refine below_alloc ?_ (by simp; try omega) | with_reducible refine below_set ?_ (by simp; try omega) | with_reducible refine below_chain ?_ (by assumption) | (with_reducible refine below_step ?_ (by assumption) (by simp; try omega))))⟩
        · have HE := Lib.hid e
          clear e
          go_wp2_with (go_at_call 20; refine (value_Known x.key.k x.key.n x.key.s _ hs1).mono ?_; rintro e w2 ⟨rfl, hb2⟩; obtain ⟨hc2, hf2⟩ := bcell hb2; (try simp only [World.heap_drewN, World.cell?_drewN, World.frozen?_drewN] at hc2 hf2); have hz2 := hb2.size; (try simp at hz2); (try (have hy2 := Nat.lt_of_succ_le hz2)); (try (have hx2 := Nat.lt_of_succ_lt hy2)); (try (have hl2_w_0 : w.heap.size < w2.heap.size := by omega)); (try (have hm2_w_0 : w.heap.size ≤ w2.heap.size := by omega)); (try (have hl2_w_1 : w.heap.size + 1 < w2.heap.size := by omega)); (try (have hm2_w_1 : w.heap.size + 1 ≤ w2.heap.size := by omega)); (try (have hl2_w_2 : w.heap.size + 2 < w2.heap.size := by omega)); (try (have hm2_w_2 : w.heap.size + 2 ≤ w2.heap.size := by omega)); (try (have hl2_w_3 : w.heap.size + 3 < w2.heap.size := by omega)); (try (have hm2_w_3 : w.heap.size + 3 ≤ w2.heap.size := by omega)); (try (have hl2_w_4 : w.heap.size + 4 < w2.heap.size := by omega)); (try (have hm2_w_4 : w.heap.size + 4 ≤ w2.heap.size := by omega)); (try (have hl2_w_5 : w.heap.size + 5 < w2.heap.size := by omega)); (try (have hm2_w_5 : w.heap.size + 5 ≤ w2.heap.size := by omega)); (try (have hl2_w_6 : w.heap.size + 6 < w2.heap.size := by omega)); (try (have hm2_w_6 : w.heap.size + 6 ≤ w2.heap.size := by omega)); (try (have hl2_wr_0 : wr.heap.size < w2.heap.size := by omega)); (try (have hm2_wr_0 : wr.heap.size ≤ w2.heap.size := by omega)); (try (have hl2_wr_1 : wr.heap.size + 1 < w2.heap.size := by omega)); (try (have hm2_wr_1 : wr.heap.size + 1 ≤ w2.heap.size := by omega)); (try (have hl2_wr_2 : wr.heap.size + 2 < w2.heap.size := by omega)); (try (have hm2_wr_2 : wr.heap.size + 2 ≤ w2.heap.size := by omega)); (try (have hl2_wr_3 : wr.heap.size + 3 < w2.heap.size := by omega)); (try (have hm2_wr_3 : wr.heap.size + 3 ≤ w2.heap.size := by omega)); (try (have hl2_wr_4 : wr.heap.size + 4 < w2.heap.size := by omega)); (try (have hm2_wr_4 : wr.heap.size + 4 ≤ w2.heap.size := by omega)); (try (have hl2_wr_5 : wr.heap.size + 5 < w2.heap.size := by omega)); (try (have hm2_wr_5 : wr.heap.size + 5 ≤ w2.heap.size := by omega)); (try (have hl2_wr_6 : wr.heap.size + 6 < w2.heap.size := by omega)); (try (have hm2_wr_6 : wr.heap.size + 6 ≤ w2.heap.size := by omega)))
          go_ret
          exact ⟨ret_int (by rw [firstErr_hit HV.out (by rw [HE.out]; decide) n hlt, HE.out]), (by repeat (first | with_reducible exact Below.refl _ _ | with_reducible assumption | with_reducible refine below_drewN ?_ _ | with_reducible refine Below.drew ?_ | with_reducible refine below_alloc0 ?_ | with_reducible refine below_alloc ?_ (by simp; try omega) | with_reducible refine below_set ?_ (by simp; try omega) | with_reducible refine below_chain ?_ (by assumption) | (with_reducible refine below_step ?_ (by assumption) (by simp; try omega))))⟩
        · have HE := Lib.hid e
          clear e
          go_wp2_with (go_at_call 20; refine (value_Known x.key.k x.key.n x.key.s _ hs1).mono ?_; rintro e w2 ⟨rfl, hb2⟩; obtain ⟨hc2, hf2⟩ := bcell hb2; (try simp only [World.heap_drewN, World.cell?_drewN, World.frozen?_drewN] at hc2 hf2); have hz2 := hb2.size; (try simp at hz2); (try (have hy2 := Nat.lt_of_succ_le hz2)); (try (have hx2 := Nat.lt_of_succ_lt hy2)); (try (have hl2_w_0 : w.heap.size < w2.heap.size := by omega)); (try (have hm2_w_0 : w.heap.size ≤ w2.heap.size := by omega)); (try (have hl2_w_1 : w.heap.size + 1 < w2.heap.size := by omega)); (try (have hm2_w_1 : w.heap.size + 1 ≤ w2.heap.size := by omega)); (try (have hl2_w_2 : w.heap.size + 2 < w2.heap.size := by omega)); (try (have hm2_w_2 : w.heap.size + 2 ≤ w2.heap.size := by omega)); (try (have hl2_w_3 : w.heap.size + 3 < w2.heap.size := by omega)); (try (have hm2_w_3 : w.heap.size + 3 ≤ w2.heap.size := by omega)); (try (have hl2_w_4 : w.heap.size + 4 < w2.heap.size := by omega)); (try (have hm2_w_4 : w.heap.size + 4 ≤ w2.heap.size := by omega)); (try (have hl2_w_5 : w.heap.size + 5 < w2.heap.size := by omega)); (try (have hm2_w_5 : w.heap.size + 5 ≤ w2.heap.size := by omega)); (try (have hl2_w_6 : w.heap.size + 6 < w2.heap.size := by omega)); (try (have hm2_w_6 : w.heap.size + 6 ≤ w2.heap.size := by omega)); (try (have hl2_wr_0 : wr.heap.size < w2.heap.size := by omega)); (try (have hm2_wr_0 : wr.heap.size ≤ w2.heap.size := by omega)); (try (have hl2_wr_1 : wr.heap.size + 1 < w2.heap.size := by omega)); (try (have hm2_wr_1 : wr.heap.size + 1 ≤ w2.heap.size := by omega)); (try (have hl2_wr_2 : wr.heap.size + 2 < w2.heap.size := by omega)); (try (have hm2_wr_2 : wr.heap.size + 2 ≤ w2.heap.size := by omega)); (try (have hl2_wr_3 : wr.heap.size + 3 < w2.heap.size := by omega)); (try (have hm2_wr_3 : wr.heap.size + 3 ≤ w2.heap.size := by omega)); (try (have hl2_wr_4 : wr.heap.size + 4 < w2.heap.size := by omega)); (try (have hm2_wr_4 : wr.heap.size + 4 ≤ w2.heap.size := by omega)); (try (have hl2_wr_5 : wr.heap.size + 5 < w2.heap.size := by omega)); (try (have hm2_wr_5 : wr.heap.size + 5 ≤ w2.heap.size := by omega)); (try (have hl2_wr_6 : wr.heap.size + 6 < w2.heap.size := by omega)); (try (have hm2_wr_6 : wr.heap.size + 6 ≤ w2.heap.size := by omega)))
          go_roundw
          case rel =>
            refine ⟨k + 1, hlt, ?_, ?_, ?_⟩
            · go_num
            · exact firstErr_next HV.out HE.out
            · exact (by repeat (first | with_reducible exact Below.refl _ _ | with_reducible assumption | with_reducible refine below_drewN ?_ _ | with_reducible refine Below.drew ?_ | with_reducible refine below_alloc0 ?_ | with_reducible refine below_alloc ?_ (by simp; try omega) | with_reducible refine below_set ?_ (by simp; try omega) | with_reducible refine below_chain ?_ (by assumption) | (with_reducible refine below_step ?_ (by assumption) (by simp; try omega))))
          case measure => simp [intOf]; omega
        · have HE := Lib.hid e
          clear e
          go_wp2_with fail
          refine (value_Known x.key.k x.key.n x.key.s _ hs1).mono ?_; rintro e w2 ⟨rfl, hb2⟩; obtain ⟨hc2, hf2⟩ := bcell hb2; (try simp only [World.heap_drewN, World.cell?_drewN, World.frozen?_drewN] at hc2 hf2); have hz2 := hb2.size; (try simp at hz2); (try (have hy2 := Nat.lt_of_succ_le hz2)); (try (have hx2 := Nat.lt_of_succ_lt hy2)); (try (have hl2_w_0 : w.heap.size < w2.heap.size := by omega)); (try (have hm2_w_0 : w.heap.size ≤ w2.heap.size := by omega)); (try (have hl2_w_1 : w.heap.size + 1 < w2.heap.size := by omega)); (try (have hm2_w_1 : w.heap.size + 1 ≤ w2.heap.size := by omega)); (try (have hl2_w_2 : w.heap.size + 2 < w2.heap.size := by omega)); (try (have hm2_w_2 : w.heap.size + 2 ≤ w2.heap.size := by omega)); (try (have hl2_w_3 : w.heap.size + 3 < w2.heap.size := by omega)); (try (have hm2_w_3 : w.heap.size + 3 ≤ w2.heap.size := by omega)); (try (have hl2_w_4 : w.heap.size + 4 < w2.heap.size := by omega)); (try (have hm2_w_4 : w.heap.size + 4 ≤ w2.heap.size := by omega)); (try (have hl2_w_5 : w.heap.size + 5 < w2.heap.size := by omega)); (try (have hm2_w_5 : w.heap.size + 5 ≤ w2.heap.size := by omega)); (try (have hl2_w_6 : w.heap.size + 6 < w2.heap.size := by omega)); (try (have hm2_w_6 : w.heap.size + 6 ≤ w2.heap.size := by omega)); (try (have hl2_wr_0 : wr.heap.size < w2.heap.size := by omega)); (try (have hm2_wr_0 : wr.heap.size ≤ w2.heap.size := by omega)); (try (have hl2_wr_1 : wr.heap.size + 1 < w2.heap.size := by omega)); (try (have hm2_wr_1 : wr.heap.size + 1 ≤ w2.heap.size := by omega)); (try (have hl2_wr_2 : wr.heap.size + 2 < w2.heap.size := by omega)); (try (have hm2_wr_2 : wr.heap.size + 2 ≤ w2.heap.size := by omega)); (try (have hl2_wr_3 : wr.heap.size + 3 < w2.heap.size := by omega)); (try (have hm2_wr_3 : wr.heap.size + 3 ≤ w2.heap.size := by omega)); (try (have hl2_wr_4 : wr.heap.size + 4 < w2.heap.size := by omega)); (try (have hm2_wr_4 : wr.heap.size + 4 ≤ w2.heap.size := by omega)); (try (have hl2_wr_5 : wr.heap.size + 5 < w2.heap.size := by omega)); (try (have hm2_wr_5 : wr.heap.size + 5 ≤ w2.heap.size := by omega)); (try (have hl2_wr_6 : wr.heap.size + 6 < w2.heap.size := by omega)); (try (have hm2_wr_6 : wr.heap.size + 6 ≤ w2.heap.size := by omega))
          go_wp2_with (go_at_call 20; refine (value_Known x.answer.k x.answer.n x.answer.s _ hs2).mono ?_; rintro e w3 ⟨rfl, hb3⟩; obtain ⟨hc3, hf3⟩ := bcell hb3; (try simp only [World.heap_drewN, World.cell?_drewN, World.frozen?_drewN] at hc3 hf3); have hz3 := hb3.size; (try simp at hz3); (try (have hy3 := Nat.lt_of_succ_le hz3)); (try (have hx3 := Nat.lt_of_succ_lt hy3)); (try (have hl3_w_0 : w.heap.size < w3.heap.size := by omega)); (try (have hm3_w_0 : w.heap.size ≤ w3.heap.size := by omega)); (try (have hl3_w_1 : w.heap.size + 1 < w3.heap.size := by omega)); (try (have hm3_w_1 : w.heap.size + 1 ≤ w3.heap.size := by omega)); (try (have hl3_w_2 : w.heap.size + 2 < w3.heap.size := by omega)); (try (have hm3_w_2 : w.heap.size + 2 ≤ w3.heap.size := by omega)); (try (have hl3_w_3 : w.heap.size + 3 < w3.heap.size := by omega)); (try (have hm3_w_3 : w.heap.size + 3 ≤ w3.heap.size := by omega)); (try (have hl3_w_4 : w.heap.size + 4 < w3.heap.size := by omega)); (try (have hm3_w_4 : w.heap.size + 4 ≤ w3.heap.size := by omega)); (try (have hl3_w_5 : w.heap.size + 5 < w3.heap.size := by omega)); (try (have hm3_w_5 : w.heap.size + 5 ≤ w3.heap.size := by omega)); (try (have hl3_w_6 : w.heap.size + 6 < w3.heap.size := by omega)); (try (have hm3_w_6 : w.heap.size + 6 ≤ w3.heap.size := by omega)); (try (have hl3_wr_0 : wr.heap.size < w3.heap.size := by omega)); (try (have hm3_wr_0 : wr.heap.size ≤ w3.heap.size := by omega)); (try (have hl3_wr_1 : wr.heap.size + 1 < w3.heap.size := by omega)); (try (have hm3_wr_1 : wr.heap.size + 1 ≤ w3.heap.size := by omega)); (try (have hl3_wr_2 : wr.heap.size + 2 < w3.heap.size := by omega)); (try (have hm3_wr_2 : wr.heap.size + 2 ≤ w3.heap.size := by omega)); (try (have hl3_wr_3 : wr.heap.size + 3 < w3.heap.size := by omega)); (try (have hm3_wr_3 : wr.heap.size + 3 ≤ w3.heap.size := by omega)); (try (have hl3_wr_4 : wr.heap.size + 4 < w3.heap.size := by omega)); (try (have hm3_wr_4 : wr.heap.size + 4 ≤ w3.heap.size := by omega)); (try (have hl3_wr_5 : wr.heap.size + 5 < w3.heap.size := by omega)); (try (have hm3_wr_5 : wr.heap.size + 5 ≤ w3.heap.size := by omega)); (try (have hl3_wr_6 : wr.heap.size + 6 < w3.heap.size := by omega)); (try (have hm3_wr_6 : wr.heap.size + 6 ≤ w3.heap.size := by omega)); (try (have hl3_w2_0 : w2.heap.size < w3.heap.size := by omega)); (try (have hm3_w2_0 : w2.heap.size ≤ w3.heap.size := by omega)); (try (have hl3_w2_1 : w2.heap.size + 1 < w3.heap.size := by omega)); (try (have hm3_w2_1 : w2.heap.size + 1 ≤ w3.heap.size := by omega)); (try (have hl3_w2_2 : w2.heap.size + 2 < w3.heap.size := by omega)); (try (have hm3_w2_2 : w2.heap.size + 2 ≤ w3.heap.size := by omega)); (try (have hl3_w2_3 : w2.heap.size + 3 < w3.heap.size := by omega)); (try (have hm3_w2_3 : w2.heap.size + 3 ≤ w3.heap.size := by omega)); (try (have hl3_w2_4 : w2.heap.size + 4 < w3.heap.size := by omega)); (try (have hm3_w2_4 : w2.heap.size + 4 ≤ w3.heap.size := by omega)); (try (have hl3_w2_5 : w2.heap.size + 5 < w3.heap.size := by omega)); (try (have hm3_w2_5 : w2.heap.size + 5 ≤ w3.heap.size := by omega)); (try (have hl3_w2_6 : w2.heap.size + 6 < w3.heap.size := by omega)); (try (have hm3_w2_6 : w2.heap.size + 6 ≤ w3.heap.size := by omega)))
          go_ret
          exact ⟨ret_int (by rw [firstErr_hit HV.out (by rw [HE.out]; decide) n hlt, HE.out]), (by repeat (first | with_reducible exact Below.refl _ _ | with_reducible assumption | with_reducible refine below_drewN ?_ _ | with_reducible refine Below.drew ?_ | with_reducible refine below_alloc0 ?_ | with_reducible refine below_alloc ?_ (by simp; try omega) | with_reducible refine below_set ?_ (by simp; try omega) | with_reducible refine below_chain ?_ (by assumption) | (with_reducible refine below_step ?_ (by assumption) (by simp; try omega))))⟩
        · have HE := Lib.hid e
          clear e
          go_wp2_with fail
          refine (value_Known x.key.k x.key.n x.key.s _ hs1).mono ?_; rintro e w2 ⟨rfl, hb2⟩; obtain ⟨hc2, hf2⟩ := bcell hb2; (try simp only [World.heap_drewN, World.cell?_drewN, World.frozen?_drewN] at hc2 hf2); have hz2 := hb2.size; (try simp at hz2); (try (have hy2 := Nat.lt_of_succ_le hz2)); (try (have hx2 := Nat.lt_of_succ_lt hy2)); (try (have hl2_w_0 : w.heap.size < w2.heap.size := by omega)); (try (have hm2_w_0 : w.heap.size ≤ w2.heap.size := by omega)); (try (have hl2_w_1 : w.heap.size + 1 < w2.heap.size := by omega)); (try (have hm2_w_1 : w.heap.size + 1 ≤ w2.heap.size := by omega)); (try (have hl2_w_2 : w.heap.size + 2 < w2.heap.size := by omega)); (try (have hm2_w_2 : w.heap.size + 2 ≤ w2.heap.size := by omega)); (try (have hl2_w_3 : w.heap.size + 3 < w2.heap.size := by omega)); (try (have hm2_w_3 : w.heap.size + 3 ≤ w2.heap.size := by omega)); (try (have hl2_w_4 : w.heap.size + 4 < w2.heap.size := by omega)); (try (have hm2_w_4 : w.heap.size + 4 ≤ w2.heap.size := by omega)); (try (have hl2_w_5 : w.heap.size + 5 < w2.heap.size := by omega)); (try (have hm2_w_5 : w.heap.size + 5 ≤ w2.heap.size := by omega)); (try (have hl2_w_6 : w.heap.size + 6 < w2.heap.size := by omega)); (try (have hm2_w_6 : w.heap.size + 6 ≤ w2.heap.size := by omega)); (try (have hl2_wr_0 : wr.heap.size < w2.heap.size := by omega)); (try (have hm2_wr_0 : wr.heap.size ≤ w2.heap.size := by omega)); (try (have hl2_wr_1 : wr.heap.size + 1 < w2.heap.size := by omega)); (try (have hm2_wr_1 : wr.heap.size + 1 ≤ w2.heap.size := by omega)); (try (have hl2_wr_2 : wr.heap.size + 2 < w2.heap.size := by omega)); (try (have hm2_wr_2 : wr.heap.size + 2 ≤ w2.heap.size := by omega)); (try (have hl2_wr_3 : wr.heap.size + 3 < w2.heap.size := by omega)); (try (have hm2_wr_3 : wr.heap.size + 3 ≤ w2.heap.size := by omega)); (try (have hl2_wr_4 : wr.heap.size + 4 < w2.heap.size := by omega)); (try (have hm2_wr_4 : wr.heap.size + 4 ≤ w2.heap.size := by omega)); (try (have hl2_wr_5 : wr.heap.size + 5 < w2.heap.size := by omega)); (try (have hm2_wr_5 : wr.heap.size + 5 ≤ w2.heap.size := by omega)); (try (have hl2_wr_6 : wr.heap.size + 6 < w2.heap.size := by omega)); (try (have hm2_wr_6 : wr.heap.size + 6 ≤ w2.heap.size := by omega))
          go_wp2_with (go_at_call 20; refine (value_Known x.answer.k x.answer.n x.answer.s _ hs2).mono ?_; rintro e w3 ⟨rfl, hb3⟩; obtain ⟨hc3, hf3⟩ := bcell hb3; (try simp only [World.heap_drewN, World.cell?_drewN, World.frozen?_drewN] at hc3 hf3); have hz3 := hb3.size; (try simp at hz3); (try (have hy3 := Nat.lt_of_succ_le hz3)); (try (have hx3 := Nat.lt_of_succ_lt hy3)); (try (have hl3_w_0 : w.heap.size < w3.heap.size := by omega)); (try (have hm3_w_0 : w.heap.size ≤ w3.heap.size := by omega)); (try (have hl3_w_1 : w.heap.size + 1 < w3.heap.size := by omega)); (try (have hm3_w_1 : w.heap.size + 1 ≤ w3.heap.size := by omega)); (try (have hl3_w_2 : w.heap.size + 2 < w3.heap.size := by omega)); (try (have hm3_w_2 : w.heap.size + 2 ≤ w3.heap.size := by omega)); (try (have hl3_w_3 : w.heap.size + 3 < w3.heap.size := by omega)); (try (have hm3_w_3 : w.heap.size + 3 ≤ w3.heap.size := by omega)); (try (have hl3_w_4 : w.heap.size + 4 < w3.heap.size := by omega)); (try (have hm3_w_4 : w.heap.size + 4 ≤ w3.heap.size := by omega)); (try (have hl3_w_5 : w.heap.size + 5 < w3.heap.size := by omega)); (try (have hm3_w_5 : w.heap.size + 5 ≤ w3.heap.size := by omega)); (try (have hl3_w_6 : w.heap.size + 6 < w3.heap.size := by omega)); (try (have hm3_w_6 : w.heap.size + 6 ≤ w3.heap.size := by omega)); (try (have hl3_wr_0 : wr.heap.size < w3.heap.size := by omega)); (try (have hm3_wr_0 : wr.heap.size ≤ w3.heap.size := by omega)); (try (have hl3_wr_1 : wr.heap.size + 1 < w3.heap.size := by omega)); (try (have hm3_wr_1 : wr.heap.size + 1 ≤ w3.heap.size := by omega)); (try (have hl3_wr_2 : wr.heap.size + 2 < w3.heap.size := by omega)); (try (have hm3_wr_2 : wr.heap.size + 2 ≤ w3.heap.size := by omega)); (try (have hl3_wr_3 : wr.heap.size + 3 < w3.heap.size := by omega)); (try (have hm3_wr_3 : wr.heap.size + 3 ≤ w3.heap.size := by omega)); (try (have hl3_wr_4 : wr.heap.size + 4 < w3.heap.size := by omega)); (try (have hm3_wr_4 : wr.heap.size + 4 ≤ w3.heap.size := by omega)); (try (have hl3_wr_5 : wr.heap.size + 5 < w3.heap.size := by omega)); (try (have hm3_wr_5 : wr.heap.size + 5 ≤ w3.heap.size := by omega)); (try (have hl3_wr_6 : wr.heap.size + 6 < w3.heap.size := by omega)); (try (have hm3_wr_6 : wr.heap.size + 6 ≤ w3.heap.size := by omega)); (try (have hl3_w2_0 : w2.heap.size < w3.heap.size := by omega)); (try (have hm3_w2_0 : w2.heap.size ≤ w3.heap.size := by omega)); (try (have hl3_w2_1 : w2.heap.size + 1 < w3.heap.size := by omega)); (try (have hm3_w2_1 : w2.heap.size + 1 ≤ w3.heap.size := by omega)); (try (have hl3_w2_2 : w2.heap.size + 2 < w3.heap.size := by omega)); (try (have hm3_w2_2 : w2.heap.size + 2 ≤ w3.heap.size := by omega)); (try (have hl3_w2_3 : w2.heap.size + 3 < w3.heap.size := by omega)); (try (have hm3_w2_3 : w2.heap.size + 3 ≤ w3.heap.size := by omega)); (try (have hl3_w2_4 : w2.heap.size + 4 < w3.heap.size := by omega)); (try (have hm3_w2_4 : w2.heap.size + 4 ≤ w3.heap.size := by omega)); (try (have hl3_w2_5 : w2.heap.size + 5 < w3.heap.size := by omega)); (try (have hm3_w2_5 : w2.heap.size + 5 ≤ w3.heap.size := by omega)); (try (have hl3_w2_6 : w2.heap.size + 6 < w3.heap.size := by omega)); (try (have hm3_w2_6 : w2.heap.size + 6 ≤ w3.heap.size := by omega)))
          go_roundw
          case rel =>
            refine ⟨k + 1, hlt, ?_, ?_, ?_⟩
            · go_num
            · exact firstErr_next HV.out HE.out
            · exact (by repeat (first | with_reducible exact Below.refl _ _ | with_reducible assumption | with_reducible refine below_drewN ?_ _ | with_reducible refine Below.drew ?_ | with_reducible refine below_alloc0 ?_ | with_reducible refine below_alloc ?_ (by simp; try omega) | with_reducible refine below_set ?_ (by simp; try omega) | with_reducible refine below_chain ?_ (by assumption) | (with_reducible refine below_step ?_ (by assumption) (by simp; try omega))))
          case measure => simp [intOf]; omega
      · have hke : k = n := by omega
        subst hke
        have HV := Lib.hid hv
        clear hv
        go_wp2_with fail
        go_ret
        exact ⟨ret_int HV.out.symm, hbr⟩
end Go.Proofs.Ytdngggllkjahcaa
