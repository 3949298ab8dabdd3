/- What is left of timers when one is cancelled, and which are due: plain laws; clock.Cancel and clock.Due. -/
import Derived.Test.YtiplgdplfbeahaaTim3
namespace Go.Proofs.Ytiplgdplfbeahaa
open Go.RowKit

def tmrCancel (l : List Tmr) (id : Int) : List Tmr × Int := if tmrCheck l = 0 then if l.any (tmrId id) then (l.eraseIdx (firstAt (tmrId id) l), 0) else ([], 5) else ([], tmrCheck l)
def later (now : Int) (x : Tmr) : Bool := !decide (x.at_ ≤ now)
def tmrDue (l : List Tmr) (now : Int) : List Tmr × List Tmr × Int := if tmrCheck l = 0 then (l.take (firstAt (later now) l), l.drop (firstAt (later now) l), 0) else ([], [], tmrCheck l)

theorem tmrCheck_once {l : List Tmr} (h : tmrCheck l = 0) (id : Int) : ∀ (i j : Nat) (a b : Tmr), i < j → l[i]? = some a → l[j]? = some b → tmrId id a = true → tmrId id b = false := by
  intro i j a b hij ha hb hp
  have h0 : firstErr (tmrStep l) l.length = 0 := by
    unfold tmrCheck at h
    by_cases h20 : 20 < l.length
    · rw [if_pos h20] at h; cases h
    · rw [if_neg h20] at h; exact h
  have hstep := firstErr_all h0 j (List.getElem?_eq_some_iff.1 hb).1
  have hany : (l.take j).any (tmrId b.id) = false := by
    rcases tmrStep_cases hb with ⟨_, e⟩ | ⟨_, _, e⟩ | ⟨_, _, _, e⟩ | ⟨_, _, _, _, e⟩ | ⟨_, _, _, e, _⟩ | ⟨_, _, _, e, _⟩
    · rw [e] at hstep; cases hstep
    · rw [e] at hstep; cases hstep
    · rw [e] at hstep; cases hstep
    · rw [e] at hstep; cases hstep
    · exact e
    · exact e
  have := List.any_eq_false.1 hany a (List.mem_of_getElem? ((List.getElem?_take_of_lt hij).trans ha))
  cases hq : tmrId id b
  · rfl
  · simp only [tmrId, beq_iff_eq] at hp hq this
    exact absurd (hp.trans hq.symm) this
theorem filter_once {α : Type} (p : α → Bool) : ∀ l : List α, (∀ (i j : Nat) (a b : α), i < j → l[i]? = some a → l[j]? = some b → p a = true → p b = false) → l.any p = true → l.filter (fun x => !p x) = l.eraseIdx (firstAt p l)
  | [], _, h => by simp at h
  | a :: l, h, hany => by
    cases ha : p a
    · rw [List.any_cons, ha, Bool.false_or] at hany
      have ih := filter_once p l (fun i j x y hij hx hy => h (i + 1) (j + 1) x y (by omega) (by simpa using hx) (by simpa using hy)) hany
      simp [ha, ih, firstAt]
    · have hall : ∀ x ∈ l, p x = false := by
        intro x hx
        obtain ⟨j, hj, rfl⟩ := List.mem_iff_getElem.1 hx
        exact h 0 (j + 1) a l[j] (by omega) rfl (by simp) ha
      simp only [List.filter_cons, ha, firstAt, Bool.not_true, Bool.false_eq_true, if_false, if_true, List.eraseIdx_cons_zero]
      exact List.filter_eq_self.2 fun x hx => by rw [hall x hx]; rfl
theorem filter_len {α : Type} (p : α → Bool) : ∀ l : List α, ((l.filter (fun x => !p x)).length = l.length) ↔ l.any p = false
  | [] => by simp
  | a :: l => by
    have h := List.length_filter_le (fun x => !p x) l
    cases ha : p a
    · simp only [List.filter_cons, ha, Bool.not_false, if_true, List.length_cons, List.any_cons, Bool.false_or]
      rw [← filter_len p l]; omega
    · simp only [List.filter_cons, ha, Bool.not_true, Bool.false_eq_true, if_false, List.length_cons, List.any_cons, Bool.true_or]
      constructor
      · intro e; omega
      · intro e; simp at e
theorem sorted_at {l : List Tmr} (h : tmrCheck l = 0) : ∀ (i j : Nat) (a b : Tmr), i < j → l[i]? = some a → l[j]? = some b → a.at_ ≤ b.at_ := by
  intro i j a b hij ha hb
  rcases Int.lt_or_le b.at_ a.at_ with h' | h'
  · exfalso
    have e : j = i + (j - i) := by omega
    rw [e] at hb
    have := tmrCheck_sorted h a (j - i) i a b ha hb (by simp [sooner, h'])
    simp [sooner] at this
  · exact h'
theorem filter_mono {α : Type} (p : α → Bool) : ∀ l : List α, (∀ (i j : Nat) (a b : α), i < j → l[i]? = some a → l[j]? = some b → p a = true → p b = true) → l.filter (fun x => !p x) = l.take (firstAt p l) ∧ l.filter p = l.drop (firstAt p l)
  | [], _ => by simp
  | a :: l, h => by
    cases ha : p a
    · obtain ⟨h1, h2⟩ := filter_mono p l (fun i j x y hij hx hy => h (i + 1) (j + 1) x y (by omega) (by simpa using hx) (by simpa using hy))
      simp [ha, h1, h2, firstAt]
    · have hall : ∀ x ∈ l, p x = true := by
        intro x hx
        obtain ⟨j, hj, rfl⟩ := List.mem_iff_getElem.1 hx
        exact h 0 (j + 1) a l[j] (by omega) rfl (by simp) ha
      simp only [List.filter_cons, ha, firstAt, Bool.not_true, Bool.false_eq_true, if_false, if_true, List.take_zero, List.drop_zero]
      refine ⟨?_, ?_⟩
      · rw [List.filter_eq_nil_iff]; intro x hx; rw [hall x hx]; simp
      · rw [List.filter_eq_self.2 hall]
theorem later_mono {l : List Tmr} (h : tmrCheck l = 0) (now : Int) : ∀ (i j : Nat) (a b : Tmr), i < j → l[i]? = some a → l[j]? = some b → later now a = true → later now b = true := by
  intro i j a b hij ha hb hp
  have := sorted_at h i j a b hij ha hb
  simp only [later, Bool.not_eq_true', decide_eq_false_iff_not] at *
  omega
theorem tmrCancel_wf {l : List Tmr} {id : Int} (hl : ∀ a ∈ l, a.wf) : ∀ a ∈ (tmrCancel l id).1, a.wf := by
  unfold tmrCancel
  split
  · split
    · intro a ha; exact hl a (List.mem_of_mem_eraseIdx ha)
    · intro a ha; simp at ha
  · intro a ha; simp at ha
theorem tmrCancel_len (l : List Tmr) (id : Int) : (tmrCancel l id).1.length ≤ l.length := by
  unfold tmrCancel
  split
  · split
    · exact List.length_eraseIdx_le _ _
    · simp
  · simp
def Own2C (w : World) (e : TypeId) (l1 l2 : List Tmr) (c : Int) (E : Ending) (w' : World) : Prop :=
  ∃ v1 v2, E = .returned (.tuple #[v1, v2, .int .i64 c]) ∧ w'.ownsRow w.heap.size e 2 v1 l1.length (l1.flatMap Tmr.cs) ∧ w'.ownsRow w.heap.size e 2 v2 l2.length (l2.flatMap Tmr.cs) ∧ Below w.heap.size w w'

set_option maxRecDepth 100000 in
set_option maxHeartbeats 4000000 in
theorem clock_Cancel (A : Option Addr) (n c : Nat) (l : List Tmr) (id : Int) (w : World) (hn : inB 16 n) (hc : n ≤ c) (h : Sl w (old w) 2 RTmr A n l) :
    Calls Try.prog 40 #[.slice A n c, .int .i64 id] w (OwnRowC Tmr.cs 55 2 w (tmrCancel l id).1 (tmrCancel l id).2) := by
  have hn' := hn.l (by decide)
  have HH := Lib.hid (And.intro h hn)
  have hlen := h.len
  clear h hn
  unfold tmrCancel
  by_cases hb : tmrCheck l = 0
  · have hb' : (tmrCheck l != 0) = false := by simpa using hb
    rw [if_pos hb]
    have h20 : n ≤ 20 := by rw [← hlen]; exact tmrCheck_le hb
    cases hany : l.any (tmrId id)
    · have hix : idxOf (tmrId id) l = -1 := idxOf_none hany
      rw [if_neg (by simp)]
      clear hb hany
      go_enter Try.func40, Try.ntmps40
      go_wp2_with fail
      refine (clock_Check A n c l _ hn' hc (HH.out.1.now (by repeat (first | with_reducible exact Below.refl _ _ | with_reducible assumption | with_reducible refine below_drewN ?_ _ | with_reducible refine Below.drew ?_ | with_reducible refine below_alloc0 ?_ | with_reducible refine below_alloc ?_ (by simp; try omega) | with_reducible refine below_set ?_ (by simp; try omega) | with_reducible refine below_chain ?_ (by assumption) | (with_reducible refine below_step ?_ (by assumption) (by simp; try omega)))))).mono ?_; rintro e w1 ⟨rfl, hb1⟩; obtain ⟨hc1, hf1⟩ := bcell hb1; (try simp only [World.heap_drewN, World.cell?_drewN, World.frozen?_drewN] at hc1 hf1); have hz1 := hb1.size; (try simp at hz1); (try (have hy1 := Nat.lt_of_succ_le hz1)); (try (have hx1 := Nat.lt_of_succ_lt hy1)); (try (have hl1_w_0 : w.heap.size < w1.heap.size := by omega)); (try (have hm1_w_0 : w.heap.size ≤ w1.heap.size := by omega)); (try (have hl1_w_1 : w.heap.size + 1 < w1.heap.size := by omega)); (try (have hm1_w_1 : w.heap.size + 1 ≤ w1.heap.size := by omega)); (try (have hl1_w_2 : w.heap.size + 2 < w1.heap.size := by omega)); (try (have hm1_w_2 : w.heap.size + 2 ≤ w1.heap.size := by omega)); (try (have hl1_w_3 : w.heap.size + 3 < w1.heap.size := by omega)); (try (have hm1_w_3 : w.heap.size + 3 ≤ w1.heap.size := by omega)); (try (have hl1_w_4 : w.heap.size + 4 < w1.heap.size := by omega)); (try (have hm1_w_4 : w.heap.size + 4 ≤ w1.heap.size := by omega)); (try (have hl1_w_5 : w.heap.size + 5 < w1.heap.size := by omega)); (try (have hm1_w_5 : w.heap.size + 5 ≤ w1.heap.size := by omega)); (try (have hl1_w_6 : w.heap.size + 6 < w1.heap.size := by omega)); (try (have hm1_w_6 : w.heap.size + 6 ≤ w1.heap.size := by omega))
      go_wp2_with fail
      refine (clock_index A n c l id _ hn' (HH.out.1.now (by repeat (first | with_reducible exact Below.refl _ _ | with_reducible assumption | with_reducible refine below_drewN ?_ _ | with_reducible refine Below.drew ?_ | with_reducible refine below_alloc0 ?_ | with_reducible refine below_alloc ?_ (by simp; try omega) | with_reducible refine below_set ?_ (by simp; try omega) | with_reducible refine below_chain ?_ (by assumption) | (with_reducible refine below_step ?_ (by assumption) (by simp; try omega)))))).mono ?_; rintro e w2 ⟨rfl, hb2⟩; obtain ⟨hc2, hf2⟩ := bcell hb2; (try simp only [World.heap_drewN, World.cell?_drewN, World.frozen?_drewN] at hc2 hf2); have hz2 := hb2.size; (try simp at hz2); (try (have hy2 := Nat.lt_of_succ_le hz2)); (try (have hx2 := Nat.lt_of_succ_lt hy2)); (try (have hl2_w_0 : w.heap.size < w2.heap.size := by omega)); (try (have hm2_w_0 : w.heap.size ≤ w2.heap.size := by omega)); (try (have hl2_w_1 : w.heap.size + 1 < w2.heap.size := by omega)); (try (have hm2_w_1 : w.heap.size + 1 ≤ w2.heap.size := by omega)); (try (have hl2_w_2 : w.heap.size + 2 < w2.heap.size := by omega)); (try (have hm2_w_2 : w.heap.size + 2 ≤ w2.heap.size := by omega)); (try (have hl2_w_3 : w.heap.size + 3 < w2.heap.size := by omega)); (try (have hm2_w_3 : w.heap.size + 3 ≤ w2.heap.size := by omega)); (try (have hl2_w_4 : w.heap.size + 4 < w2.heap.size := by omega)); (try (have hm2_w_4 : w.heap.size + 4 ≤ w2.heap.size := by omega)); (try (have hl2_w_5 : w.heap.size + 5 < w2.heap.size := by omega)); (try (have hm2_w_5 : w.heap.size + 5 ≤ w2.heap.size := by omega)); (try (have hl2_w_6 : w.heap.size + 6 < w2.heap.size := by omega)); (try (have hm2_w_6 : w.heap.size + 6 ≤ w2.heap.size := by omega)); (try (have hl2_w1_0 : w1.heap.size < w2.heap.size := by omega)); (try (have hm2_w1_0 : w1.heap.size ≤ w2.heap.size := by omega)); (try (have hl2_w1_1 : w1.heap.size + 1 < w2.heap.size := by omega)); (try (have hm2_w1_1 : w1.heap.size + 1 ≤ w2.heap.size := by omega)); (try (have hl2_w1_2 : w1.heap.size + 2 < w2.heap.size := by omega)); (try (have hm2_w1_2 : w1.heap.size + 2 ≤ w2.heap.size := by omega)); (try (have hl2_w1_3 : w1.heap.size + 3 < w2.heap.size := by omega)); (try (have hm2_w1_3 : w1.heap.size + 3 ≤ w2.heap.size := by omega)); (try (have hl2_w1_4 : w1.heap.size + 4 < w2.heap.size := by omega)); (try (have hm2_w1_4 : w1.heap.size + 4 ≤ w2.heap.size := by omega)); (try (have hl2_w1_5 : w1.heap.size + 5 < w2.heap.size := by omega)); (try (have hm2_w1_5 : w1.heap.size + 5 ≤ w2.heap.size := by omega)); (try (have hl2_w1_6 : w1.heap.size + 6 < w2.heap.size := by omega)); (try (have hm2_w1_6 : w1.heap.size + 6 ≤ w2.heap.size := by omega))
      rw [hix]
      go_wp2_with fail
      go_ret2
      exact NilC.own _ _ _ ⟨rfl, (by repeat (first | with_reducible exact Below.refl _ _ | with_reducible assumption | with_reducible refine below_drewN ?_ _ | with_reducible refine Below.drew ?_ | with_reducible refine below_alloc0 ?_ | with_reducible refine below_alloc ?_ (by simp; try omega) | with_reducible refine below_set ?_ (by simp; try omega) | with_reducible refine below_chain ?_ (by assumption) | (with_reducible refine below_step ?_ (by assumption) (by simp; try omega))))⟩
    · obtain ⟨i, hi⟩ : ∃ i, i = firstAt (tmrId id) l := ⟨_, rfl⟩
      have hix : idxOf (tmrId id) l = (i : Int) := by rw [hi]; exact idxOf_some hany
      obtain ⟨_, _, _, hlt⟩ := find_at (tmrId id) l hany
      rw [← hi, hlen] at hlt
      rw [if_pos rfl, ← hi]
      have hee : (l.eraseIdx i).length = n - 1 := by rw [List.length_eraseIdx, hlen, if_pos hlt]
      have HE := Lib.hid (And.intro hlen hee)
      clear hb hany hi hlen hee
      go_enter Try.func40, Try.ntmps40
      go_wp2_with fail
      refine (clock_Check A n c l _ hn' hc (HH.out.1.now (by repeat (first | with_reducible exact Below.refl _ _ | with_reducible assumption | with_reducible refine below_drewN ?_ _ | with_reducible refine Below.drew ?_ | with_reducible refine below_alloc0 ?_ | with_reducible refine below_alloc ?_ (by simp; try omega) | with_reducible refine below_set ?_ (by simp; try omega) | with_reducible refine below_chain ?_ (by assumption) | (with_reducible refine below_step ?_ (by assumption) (by simp; try omega)))))).mono ?_; rintro e w1 ⟨rfl, hb1⟩; obtain ⟨hc1, hf1⟩ := bcell hb1; (try simp only [World.heap_drewN, World.cell?_drewN, World.frozen?_drewN] at hc1 hf1); have hz1 := hb1.size; (try simp at hz1); (try (have hy1 := Nat.lt_of_succ_le hz1)); (try (have hx1 := Nat.lt_of_succ_lt hy1)); (try (have hl1_w_0 : w.heap.size < w1.heap.size := by omega)); (try (have hm1_w_0 : w.heap.size ≤ w1.heap.size := by omega)); (try (have hl1_w_1 : w.heap.size + 1 < w1.heap.size := by omega)); (try (have hm1_w_1 : w.heap.size + 1 ≤ w1.heap.size := by omega)); (try (have hl1_w_2 : w.heap.size + 2 < w1.heap.size := by omega)); (try (have hm1_w_2 : w.heap.size + 2 ≤ w1.heap.size := by omega)); (try (have hl1_w_3 : w.heap.size + 3 < w1.heap.size := by omega)); (try (have hm1_w_3 : w.heap.size + 3 ≤ w1.heap.size := by omega)); (try (have hl1_w_4 : w.heap.size + 4 < w1.heap.size := by omega)); (try (have hm1_w_4 : w.heap.size + 4 ≤ w1.heap.size := by omega)); (try (have hl1_w_5 : w.heap.size + 5 < w1.heap.size := by omega)); (try (have hm1_w_5 : w.heap.size + 5 ≤ w1.heap.size := by omega)); (try (have hl1_w_6 : w.heap.size + 6 < w1.heap.size := by omega)); (try (have hm1_w_6 : w.heap.size + 6 ≤ w1.heap.size := by omega))
      go_wp2_with fail
      refine (clock_index A n c l id _ hn' (HH.out.1.now (by repeat (first | with_reducible exact Below.refl _ _ | with_reducible assumption | with_reducible refine below_drewN ?_ _ | with_reducible refine Below.drew ?_ | with_reducible refine below_alloc0 ?_ | with_reducible refine below_alloc ?_ (by simp; try omega) | with_reducible refine below_set ?_ (by simp; try omega) | with_reducible refine below_chain ?_ (by assumption) | (with_reducible refine below_step ?_ (by assumption) (by simp; try omega)))))).mono ?_; rintro e w2 ⟨rfl, hb2⟩; obtain ⟨hc2, hf2⟩ := bcell hb2; (try simp only [World.heap_drewN, World.cell?_drewN, World.frozen?_drewN] at hc2 hf2); have hz2 := hb2.size; (try simp at hz2); (try (have hy2 := Nat.lt_of_succ_le hz2)); (try (have hx2 := Nat.lt_of_succ_lt hy2)); (try (have hl2_w_0 : w.heap.size < w2.heap.size := by omega)); (try (have hm2_w_0 : w.heap.size ≤ w2.heap.size := by omega)); (try (have hl2_w_1 : w.heap.size + 1 < w2.heap.size := by omega)); (try (have hm2_w_1 : w.heap.size + 1 ≤ w2.heap.size := by omega)); (try (have hl2_w_2 : w.heap.size + 2 < w2.heap.size := by omega)); (try (have hm2_w_2 : w.heap.size + 2 ≤ w2.heap.size := by omega)); (try (have hl2_w_3 : w.heap.size + 3 < w2.heap.size := by omega)); (try (have hm2_w_3 : w.heap.size + 3 ≤ w2.heap.size := by omega)); (try (have hl2_w_4 : w.heap.size + 4 < w2.heap.size := by omega)); (try (have hm2_w_4 : w.heap.size + 4 ≤ w2.heap.size := by omega)); (try (have hl2_w_5 : w.heap.size + 5 < w2.heap.size := by omega)); (try (have hm2_w_5 : w.heap.size + 5 ≤ w2.heap.size := by omega)); (try (have hl2_w_6 : w.heap.size + 6 < w2.heap.size := by omega)); (try (have hm2_w_6 : w.heap.size + 6 ≤ w2.heap.size := by omega)); (try (have hl2_w1_0 : w1.heap.size < w2.heap.size := by omega)); (try (have hm2_w1_0 : w1.heap.size ≤ w2.heap.size := by omega)); (try (have hl2_w1_1 : w1.heap.size + 1 < w2.heap.size := by omega)); (try (have hm2_w1_1 : w1.heap.size + 1 ≤ w2.heap.size := by omega)); (try (have hl2_w1_2 : w1.heap.size + 2 < w2.heap.size := by omega)); (try (have hm2_w1_2 : w1.heap.size + 2 ≤ w2.heap.size := by omega)); (try (have hl2_w1_3 : w1.heap.size + 3 < w2.heap.size := by omega)); (try (have hm2_w1_3 : w1.heap.size + 3 ≤ w2.heap.size := by omega)); (try (have hl2_w1_4 : w1.heap.size + 4 < w2.heap.size := by omega)); (try (have hm2_w1_4 : w1.heap.size + 4 ≤ w2.heap.size := by omega)); (try (have hl2_w1_5 : w1.heap.size + 5 < w2.heap.size := by omega)); (try (have hm2_w1_5 : w1.heap.size + 5 ≤ w2.heap.size := by omega)); (try (have hl2_w1_6 : w1.heap.size + 6 < w2.heap.size := by omega)); (try (have hm2_w1_6 : w1.heap.size + 6 ≤ w2.heap.size := by omega))
      rw [hix]
      go_wp2_with fail
      refine (clone_Tmr A n c l _ HH.out.2 (HH.out.1.now (by repeat (first | with_reducible exact Below.refl _ _ | with_reducible assumption | with_reducible refine below_drewN ?_ _ | with_reducible refine Below.drew ?_ | with_reducible refine below_alloc0 ?_ | with_reducible refine below_alloc ?_ (by simp; try omega) | with_reducible refine below_set ?_ (by simp; try omega) | with_reducible refine below_chain ?_ (by assumption) | (with_reducible refine below_step ?_ (by assumption) (by simp; try omega)))))).mono ?_; rintro e w3 ⟨v3, rfl, ho3, hb3⟩
      rw [HE.out.1] at ho3
      obtain ⟨g, cap, rfl, hg1, hg2⟩ := ho3.form (by omega)
      have hd := delete_Tmr _ g cap n i (i + 1) l w3 ho3 hlt HE.out.1 rfl
      rw [Int.natCast_add, Int.natCast_one] at hd
      have HO3 := Lib.hid ho3
      clear ho3
      go_wp2_with fail
      refine hd.mono ?_; rintro e w4 ⟨rfl, ho4, hg4⟩
      clear hd
      have hb24 : Below w2.heap.size w2 w4 := hb3.grown hg4 hb3.size (fun k hk => by cases hk; exact hg1)
      obtain ⟨A4, c4, e4, hc4, hs4⟩ := ownTmr ho4 HE.out.2 (fun a ha => HH.out.1.wfTmr a (List.mem_of_mem_eraseIdx ha))
      cases e4
      have HS := Lib.hid hs4
      clear ho4 hs4
      go_wp2_with fail
      refine (clone_Tmr _ (n - 1) cap (l.eraseIdx i) _ (by unfold inB; omega) HS.out).mono ?_; rintro e w5 ⟨v5, rfl, ho5, hb5⟩
      go_wp2_with fail
      go_ret2
      refine ⟨_, rfl, ownsRow_base ho5 ?_, ?_⟩
      · exact Nat.le_trans hm2_w_0 hb24.size
      · exact below_chain (below_chain (by repeat (first | with_reducible exact Below.refl _ _ | with_reducible assumption | with_reducible refine below_drewN ?_ _ | with_reducible refine Below.drew ?_ | with_reducible refine below_alloc0 ?_ | with_reducible refine below_alloc ?_ (by simp; try omega) | with_reducible refine below_set ?_ (by simp; try omega) | with_reducible refine below_chain ?_ (by assumption) | (with_reducible refine below_step ?_ (by assumption) (by simp; try omega)))) hb24) hb5
  · have hb' : (tmrCheck l != 0) = true := by simpa using hb
    rw [if_neg hb]
    clear hb
    go_enter Try.func40, Try.ntmps40
    go_wp2_with fail
    refine (clock_Check A n c l _ hn' hc (HH.out.1.now (by repeat (first | with_reducible exact Below.refl _ _ | with_reducible assumption | with_reducible refine below_drewN ?_ _ | with_reducible refine Below.drew ?_ | with_reducible refine below_alloc0 ?_ | with_reducible refine below_alloc ?_ (by simp; try omega) | with_reducible refine below_set ?_ (by simp; try omega) | with_reducible refine below_chain ?_ (by assumption) | (with_reducible refine below_step ?_ (by assumption) (by simp; try omega)))))).mono ?_; rintro e w1 ⟨rfl, hb1⟩; obtain ⟨hc1, hf1⟩ := bcell hb1; (try simp only [World.heap_drewN, World.cell?_drewN, World.frozen?_drewN] at hc1 hf1); have hz1 := hb1.size; (try simp at hz1); (try (have hy1 := Nat.lt_of_succ_le hz1)); (try (have hx1 := Nat.lt_of_succ_lt hy1)); (try (have hl1_w_0 : w.heap.size < w1.heap.size := by omega)); (try (have hm1_w_0 : w.heap.size ≤ w1.heap.size := by omega)); (try (have hl1_w_1 : w.heap.size + 1 < w1.heap.size := by omega)); (try (have hm1_w_1 : w.heap.size + 1 ≤ w1.heap.size := by omega)); (try (have hl1_w_2 : w.heap.size + 2 < w1.heap.size := by omega)); (try (have hm1_w_2 : w.heap.size + 2 ≤ w1.heap.size := by omega)); (try (have hl1_w_3 : w.heap.size + 3 < w1.heap.size := by omega)); (try (have hm1_w_3 : w.heap.size + 3 ≤ w1.heap.size := by omega)); (try (have hl1_w_4 : w.heap.size + 4 < w1.heap.size := by omega)); (try (have hm1_w_4 : w.heap.size + 4 ≤ w1.heap.size := by omega)); (try (have hl1_w_5 : w.heap.size + 5 < w1.heap.size := by omega)); (try (have hm1_w_5 : w.heap.size + 5 ≤ w1.heap.size := by omega)); (try (have hl1_w_6 : w.heap.size + 6 < w1.heap.size := by omega)); (try (have hm1_w_6 : w.heap.size + 6 ≤ w1.heap.size := by omega))
    go_wp2_with fail
    go_ret2
    exact NilC.own _ _ _ ⟨rfl, (by repeat (first | with_reducible exact Below.refl _ _ | with_reducible assumption | with_reducible refine below_drewN ?_ _ | with_reducible refine Below.drew ?_ | with_reducible refine below_alloc0 ?_ | with_reducible refine below_alloc ?_ (by simp; try omega) | with_reducible refine below_set ?_ (by simp; try omega) | with_reducible refine below_chain ?_ (by assumption) | (with_reducible refine below_step ?_ (by assumption) (by simp; try omega))))⟩
end Go.Proofs.Ytiplgdplfbeahaa
