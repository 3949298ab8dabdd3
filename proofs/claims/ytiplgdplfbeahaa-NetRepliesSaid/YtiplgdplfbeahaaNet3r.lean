/- The reference LettersAnswer. -/
import Derived.Test.YtiplgdplfbeahaaNet2r
import Derived.Test.YtiplgdplfbeahaaNet3
namespace Go.Proofs.Ytiplgdplfbeahaa
open Go.RowKit

theorem Sl.one {α : Type} {w : World} {g size : Nat} {R : List Value → α → Prop} {a : α} (cs : List Value) (hR : R cs a) (hl : cs.length = size) (hg : g < w.heap.size) (h : ∀ j, j < size → w.cell? ⟨g, j, none⟩ = cs[j]?) : Sl w (old w) size R (some ⟨g, 0, none⟩) 1 [a] := by
  refine ⟨rfl, fun _ => ⟨g, 0, rfl, hg, fun i v hv => ?_⟩⟩
  match i with
  | 0 =>
    simp at hv
    subst hv
    exact ⟨cs, hR, hl, fun j hj => by rw [Nat.zero_mul, Nat.zero_add, Nat.zero_add]; exact h j hj⟩
  | i + 1 => simp at hv
theorem around_set (l : List Ltr) (k : Nat) (y : Ltr) (hk : k < l.length) : around l k [y] = l.set k y := by
  rw [around, List.set_eq_take_append_cons_drop, if_pos hk, List.append_assoc]; rfl
set_option maxRecDepth 100000 in
set_option maxHeartbeats 4000000 in
theorem ref_LettersAnswer (A : Option Addr) (n c : Nat) (l : List Ltr) (i : Int) (vk vn : Int) (vs : ByteArray) (w : World) (hn : inB 88 n) (hc : n ≤ c) (hv : (⟨vk, vn, vs⟩ : Val).wf) (h : Sl w (old w) 8 RLtr A n l) :
    Calls Try.prog 38 #[.slice A n c, .int .i64 i, .agg #[.int .i64 vk, .int .i64 vn, .string vs]] w (OwnRowC Ltr.cs 75 8 w (ltrAnswer l i ⟨vk, vn, vs⟩).1 (ltrAnswer l i ⟨vk, vn, vs⟩).2) := by
  have hn' := hn.l (by decide)
  have hvs : vs.size ≤ maxLen := inS_max hv.2.2
  have HH := Lib.hid (And.intro h (And.intro hn hv))
  have hlen := h.len
  clear h hn hv
  by_cases h0 : (ltrAt l i).2 = 0
  · obtain ⟨hck, k, x, rfl, hk, hx, e⟩ := ltrAt_ok h0
    have hok := ltrCheck_ok hck hx
    rw [hlen] at hk
    have h24 : n ≤ 24 := by rw [← hlen]; exact ltrCheck_le hck
    have hat : ltrAnswer l k ⟨vk, vn, vs⟩ = if x.answer.k ≠ 0 then ([], 2) else if valKnown ⟨vk, vn, vs⟩ = false then ([], 9) else (l.set k (setAns x ⟨vk, vn, vs⟩), 0) := by
      rw [ltrAnswer, if_pos h0, e, Int.toNat_natCast]
    have hnat := fun w h => ref_letter A n c l k w hn' h
    rw [e] at hnat
    have hxwf := HH.out.1.wfLtr x (List.mem_of_getElem? hx)
    have HX := Lib.hid (And.intro hx (And.intro hlen hxwf))
    clear h0 e hx hck hlen hxwf
    have hneq := fun w => run_neq_Val w x.answer.k x.answer.n 0 0 x.answer.s ⟨#[]⟩
    rcases hok with ⟨ha, hz⟩ | ⟨ha, hz⟩
    · have hq : valEq ⟨x.answer.k, x.answer.n, x.answer.s⟩ ⟨0, 0, ⟨#[]⟩⟩ = true := (valEq_iff _ _).2 hz
      cases hkn : valKnown ⟨vk, vn, vs⟩
      · rw [if_neg (by simpa using ha), if_pos hkn] at hat
        rw [hat]
        clear hat ha hz
        go_enter Try.func38, Try.ntmps38
        go_wp2_with fail
        refine (hnat _ (HH.out.1.now (by repeat (first | with_reducible exact Below.refl _ _ | with_reducible assumption | with_reducible refine below_drewN ?_ _ | with_reducible refine Below.drew ?_ | with_reducible refine below_alloc0 ?_ | with_reducible refine below_alloc ?_ (by simp; try omega) | with_reducible refine below_set ?_ (by simp; try omega) | with_reducible refine below_chain ?_ (by assumption) | (with_reducible refine below_step ?_ (by assumption) (by simp; try omega)))))).mono ?_; rintro e w1 ⟨rfl, hb1⟩
        obtain ⟨b, o, y, rfl, hbl, hly, _, x0, x1, x2, x3, x4, x5, x6, x7⟩ := Ltr_at ((HH.out.1.now ((Below.refl w.heap.size w).alloc (Nat.le_refl _) _)).now hb1) hk
        rw [HX.out.1] at hly
        cases hly
        have hbl' : b < w1.heap.size := hbl
        clear hbl
        obtain ⟨hc1, hf1⟩ := bcell hb1; (try simp only [World.heap_drewN, World.cell?_drewN, World.frozen?_drewN] at hc1 hf1); have hz1 := hb1.size; (try simp at hz1); (try (have hy1 := Nat.lt_of_succ_le hz1)); (try (have hx1 := Nat.lt_of_succ_lt hy1)); (try (have hl1_w_0 : w.heap.size < w1.heap.size := by omega)); (try (have hm1_w_0 : w.heap.size ≤ w1.heap.size := by omega)); (try (have hl1_w_1 : w.heap.size + 1 < w1.heap.size := by omega)); (try (have hm1_w_1 : w.heap.size + 1 ≤ w1.heap.size := by omega)); (try (have hl1_w_2 : w.heap.size + 2 < w1.heap.size := by omega)); (try (have hm1_w_2 : w.heap.size + 2 ≤ w1.heap.size := by omega)); (try (have hl1_w_3 : w.heap.size + 3 < w1.heap.size := by omega)); (try (have hm1_w_3 : w.heap.size + 3 ≤ w1.heap.size := by omega)); (try (have hl1_w_4 : w.heap.size + 4 < w1.heap.size := by omega)); (try (have hm1_w_4 : w.heap.size + 4 ≤ w1.heap.size := by omega)); (try (have hl1_w_5 : w.heap.size + 5 < w1.heap.size := by omega)); (try (have hm1_w_5 : w.heap.size + 5 ≤ w1.heap.size := by omega)); (try (have hl1_w_6 : w.heap.size + 6 < w1.heap.size := by omega)); (try (have hm1_w_6 : w.heap.size + 6 ≤ w1.heap.size := by omega))
        go_wp2_with (go_at_call 67; refine (ref_Known _ _ _ _ hvs).mono ?_; rintro e w2 ⟨rfl, hb2⟩; obtain ⟨hc2, hf2⟩ := bcell hb2; (try simp only [World.heap_drewN, World.cell?_drewN, World.frozen?_drewN] at hc2 hf2); have hz2 := hb2.size; (try simp at hz2); (try (have hy2 := Nat.lt_of_succ_le hz2)); (try (have hx2 := Nat.lt_of_succ_lt hy2)); (try (have hl2_w_0 : w.heap.size < w2.heap.size := by omega)); (try (have hm2_w_0 : w.heap.size ≤ w2.heap.size := by omega)); (try (have hl2_w_1 : w.heap.size + 1 < w2.heap.size := by omega)); (try (have hm2_w_1 : w.heap.size + 1 ≤ w2.heap.size := by omega)); (try (have hl2_w_2 : w.heap.size + 2 < w2.heap.size := by omega)); (try (have hm2_w_2 : w.heap.size + 2 ≤ w2.heap.size := by omega)); (try (have hl2_w_3 : w.heap.size + 3 < w2.heap.size := by omega)); (try (have hm2_w_3 : w.heap.size + 3 ≤ w2.heap.size := by omega)); (try (have hl2_w_4 : w.heap.size + 4 < w2.heap.size := by omega)); (try (have hm2_w_4 : w.heap.size + 4 ≤ w2.heap.size := by omega)); (try (have hl2_w_5 : w.heap.size + 5 < w2.heap.size := by omega)); (try (have hm2_w_5 : w.heap.size + 5 ≤ w2.heap.size := by omega)); (try (have hl2_w_6 : w.heap.size + 6 < w2.heap.size := by omega)); (try (have hm2_w_6 : w.heap.size + 6 ≤ w2.heap.size := by omega)); (try (have hl2_w1_0 : w1.heap.size < w2.heap.size := by omega)); (try (have hm2_w1_0 : w1.heap.size ≤ w2.heap.size := by omega)); (try (have hl2_w1_1 : w1.heap.size + 1 < w2.heap.size := by omega)); (try (have hm2_w1_1 : w1.heap.size + 1 ≤ w2.heap.size := by omega)); (try (have hl2_w1_2 : w1.heap.size + 2 < w2.heap.size := by omega)); (try (have hm2_w1_2 : w1.heap.size + 2 ≤ w2.heap.size := by omega)); (try (have hl2_w1_3 : w1.heap.size + 3 < w2.heap.size := by omega)); (try (have hm2_w1_3 : w1.heap.size + 3 ≤ w2.heap.size := by omega)); (try (have hl2_w1_4 : w1.heap.size + 4 < w2.heap.size := by omega)); (try (have hm2_w1_4 : w1.heap.size + 4 ≤ w2.heap.size := by omega)); (try (have hl2_w1_5 : w1.heap.size + 5 < w2.heap.size := by omega)); (try (have hm2_w1_5 : w1.heap.size + 5 ≤ w2.heap.size := by omega)); (try (have hl2_w1_6 : w1.heap.size + 6 < w2.heap.size := by omega)); (try (have hm2_w1_6 : w1.heap.size + 6 ≤ w2.heap.size := by omega)))
        go_ret2
        exact NilC.own _ _ _ ⟨rfl, (by repeat (first | with_reducible exact Below.refl _ _ | with_reducible assumption | with_reducible refine below_drewN ?_ _ | with_reducible refine Below.drew ?_ | with_reducible refine below_alloc0 ?_ | with_reducible refine below_alloc ?_ (by simp; try omega) | with_reducible refine below_set ?_ (by simp; try omega) | with_reducible refine below_chain ?_ (by assumption) | (with_reducible refine below_step ?_ (by assumption) (by simp; try omega))))⟩
      · rw [if_neg (by simpa using ha), if_neg (by rw [hkn]; decide)] at hat
        rw [hat]
        clear hat ha hz
        go_enter Try.func38, Try.ntmps38
        go_wp2_with fail
        refine (hnat _ (HH.out.1.now (by repeat (first | with_reducible exact Below.refl _ _ | with_reducible assumption | with_reducible refine below_drewN ?_ _ | with_reducible refine Below.drew ?_ | with_reducible refine below_alloc0 ?_ | with_reducible refine below_alloc ?_ (by simp; try omega) | with_reducible refine below_set ?_ (by simp; try omega) | with_reducible refine below_chain ?_ (by assumption) | (with_reducible refine below_step ?_ (by assumption) (by simp; try omega)))))).mono ?_; rintro e w1 ⟨rfl, hb1⟩
        obtain ⟨b, o, y, hAe, hbl, hly, _, x0, x1, x2, x3, x4, x5, x6, x7⟩ := Ltr_at ((HH.out.1.now ((Below.refl w.heap.size w).alloc (Nat.le_refl _) _)).now hb1) hk
        rw [HX.out.1] at hly
        cases hly
        subst hAe
        have hbl' : b < w1.heap.size := hbl
        clear hbl
        obtain ⟨hc1, hf1⟩ := bcell hb1; (try simp only [World.heap_drewN, World.cell?_drewN, World.frozen?_drewN] at hc1 hf1); have hz1 := hb1.size; (try simp at hz1); (try (have hy1 := Nat.lt_of_succ_le hz1)); (try (have hx1 := Nat.lt_of_succ_lt hy1)); (try (have hl1_w_0 : w.heap.size < w1.heap.size := by omega)); (try (have hm1_w_0 : w.heap.size ≤ w1.heap.size := by omega)); (try (have hl1_w_1 : w.heap.size + 1 < w1.heap.size := by omega)); (try (have hm1_w_1 : w.heap.size + 1 ≤ w1.heap.size := by omega)); (try (have hl1_w_2 : w.heap.size + 2 < w1.heap.size := by omega)); (try (have hm1_w_2 : w.heap.size + 2 ≤ w1.heap.size := by omega)); (try (have hl1_w_3 : w.heap.size + 3 < w1.heap.size := by omega)); (try (have hm1_w_3 : w.heap.size + 3 ≤ w1.heap.size := by omega)); (try (have hl1_w_4 : w.heap.size + 4 < w1.heap.size := by omega)); (try (have hm1_w_4 : w.heap.size + 4 ≤ w1.heap.size := by omega)); (try (have hl1_w_5 : w.heap.size + 5 < w1.heap.size := by omega)); (try (have hm1_w_5 : w.heap.size + 5 ≤ w1.heap.size := by omega)); (try (have hl1_w_6 : w.heap.size + 6 < w1.heap.size := by omega)); (try (have hm1_w_6 : w.heap.size + 6 ≤ w1.heap.size := by omega))
        go_wp2_with fail
        refine (ref_Known _ _ _ _ hvs).mono ?_; rintro e w2 ⟨rfl, hb2⟩; obtain ⟨hc2, hf2⟩ := bcell hb2; (try simp only [World.heap_drewN, World.cell?_drewN, World.frozen?_drewN] at hc2 hf2); have hz2 := hb2.size; (try simp at hz2); (try (have hy2 := Nat.lt_of_succ_le hz2)); (try (have hx2 := Nat.lt_of_succ_lt hy2)); (try (have hl2_w_0 : w.heap.size < w2.heap.size := by omega)); (try (have hm2_w_0 : w.heap.size ≤ w2.heap.size := by omega)); (try (have hl2_w_1 : w.heap.size + 1 < w2.heap.size := by omega)); (try (have hm2_w_1 : w.heap.size + 1 ≤ w2.heap.size := by omega)); (try (have hl2_w_2 : w.heap.size + 2 < w2.heap.size := by omega)); (try (have hm2_w_2 : w.heap.size + 2 ≤ w2.heap.size := by omega)); (try (have hl2_w_3 : w.heap.size + 3 < w2.heap.size := by omega)); (try (have hm2_w_3 : w.heap.size + 3 ≤ w2.heap.size := by omega)); (try (have hl2_w_4 : w.heap.size + 4 < w2.heap.size := by omega)); (try (have hm2_w_4 : w.heap.size + 4 ≤ w2.heap.size := by omega)); (try (have hl2_w_5 : w.heap.size + 5 < w2.heap.size := by omega)); (try (have hm2_w_5 : w.heap.size + 5 ≤ w2.heap.size := by omega)); (try (have hl2_w_6 : w.heap.size + 6 < w2.heap.size := by omega)); (try (have hm2_w_6 : w.heap.size + 6 ≤ w2.heap.size := by omega)); (try (have hl2_w1_0 : w1.heap.size < w2.heap.size := by omega)); (try (have hm2_w1_0 : w1.heap.size ≤ w2.heap.size := by omega)); (try (have hl2_w1_1 : w1.heap.size + 1 < w2.heap.size := by omega)); (try (have hm2_w1_1 : w1.heap.size + 1 ≤ w2.heap.size := by omega)); (try (have hl2_w1_2 : w1.heap.size + 2 < w2.heap.size := by omega)); (try (have hm2_w1_2 : w1.heap.size + 2 ≤ w2.heap.size := by omega)); (try (have hl2_w1_3 : w1.heap.size + 3 < w2.heap.size := by omega)); (try (have hm2_w1_3 : w1.heap.size + 3 ≤ w2.heap.size := by omega)); (try (have hl2_w1_4 : w1.heap.size + 4 < w2.heap.size := by omega)); (try (have hm2_w1_4 : w1.heap.size + 4 ≤ w2.heap.size := by omega)); (try (have hl2_w1_5 : w1.heap.size + 5 < w2.heap.size := by omega)); (try (have hm2_w1_5 : w1.heap.size + 5 ≤ w2.heap.size := by omega)); (try (have hl2_w1_6 : w1.heap.size + 6 < w2.heap.size := by omega)); (try (have hm2_w1_6 : w1.heap.size + 6 ≤ w2.heap.size := by omega))
        go_wp2_with fail
        refine (ref_around _ n c l k _ 1 1 [setAns x ⟨vk, vn, vs⟩] _ h24 hc hk (by decide) (HH.out.1.now (by repeat (first | with_reducible exact Below.refl _ _ | with_reducible assumption | with_reducible refine below_drewN ?_ _ | with_reducible refine Below.drew ?_ | with_reducible refine below_alloc0 ?_ | with_reducible refine below_alloc ?_ (by simp; try omega) | with_reducible refine below_set ?_ (by simp; try omega) | with_reducible refine below_chain ?_ (by assumption) | (with_reducible refine below_step ?_ (by assumption) (by simp; try omega))))) (Sl.one (setAns x ⟨vk, vn, vs⟩).cs ⟨rfl, HX.out.2.2.1, HX.out.2.2.2.1, HX.out.2.2.2.2.1, HH.out.2.2⟩ rfl (by simp) (fun j hj => ?_))).mono ?_
        · match j, hj with
          | 0, _ => go_simp; rfl
          | 1, _ => go_simp; rfl
          | 2, _ => go_simp; rfl
          | 3, _ => go_simp; rfl
          | 4, _ => go_simp; rfl
          | 5, _ => go_simp; rfl
          | 6, _ => go_simp; rfl
          | 7, _ => go_simp; rfl
        rintro e w3 ⟨v3, rfl, ho3, hb3⟩
        rw [around_set l k _ (by rw [HX.out.2.1]; exact hk)] at ho3
        go_wp2_with fail
        go_ret2
        refine ⟨_, rfl, ownsRow_base ho3 ?_, below_step ?_ hb3 ?_⟩
        · simp; omega
        · exact (by repeat (first | with_reducible exact Below.refl _ _ | with_reducible assumption | with_reducible refine below_drewN ?_ _ | with_reducible refine Below.drew ?_ | with_reducible refine below_alloc0 ?_ | with_reducible refine below_alloc ?_ (by simp; try omega) | with_reducible refine below_set ?_ (by simp; try omega) | with_reducible refine below_chain ?_ (by assumption) | (with_reducible refine below_step ?_ (by assumption) (by simp; try omega))))
        · simp; omega
    · have hq : valEq ⟨x.answer.k, x.answer.n, x.answer.s⟩ ⟨0, 0, ⟨#[]⟩⟩ = false := by
        cases hq : valEq ⟨x.answer.k, x.answer.n, x.answer.s⟩ ⟨0, 0, ⟨#[]⟩⟩
        · rfl
        · exact absurd ((valEq_iff _ _).1 hq) hz
      rw [if_pos ha] at hat
      rw [hat]
      clear hat ha hz
      go_enter Try.func38, Try.ntmps38
      go_wp2_with fail
      refine (hnat _ (HH.out.1.now (by repeat (first | with_reducible exact Below.refl _ _ | with_reducible assumption | with_reducible refine below_drewN ?_ _ | with_reducible refine Below.drew ?_ | with_reducible refine below_alloc0 ?_ | with_reducible refine below_alloc ?_ (by simp; try omega) | with_reducible refine below_set ?_ (by simp; try omega) | with_reducible refine below_chain ?_ (by assumption) | (with_reducible refine below_step ?_ (by assumption) (by simp; try omega)))))).mono ?_; rintro e w1 ⟨rfl, hb1⟩
      obtain ⟨b, o, y, rfl, hbl, hly, _, x0, x1, x2, x3, x4, x5, x6, x7⟩ := Ltr_at ((HH.out.1.now ((Below.refl w.heap.size w).alloc (Nat.le_refl _) _)).now hb1) hk
      rw [HX.out.1] at hly
      cases hly
      have hbl' : b < w1.heap.size := hbl
      clear hbl
      obtain ⟨hc1, hf1⟩ := bcell hb1; (try simp only [World.heap_drewN, World.cell?_drewN, World.frozen?_drewN] at hc1 hf1); have hz1 := hb1.size; (try simp at hz1); (try (have hy1 := Nat.lt_of_succ_le hz1)); (try (have hx1 := Nat.lt_of_succ_lt hy1)); (try (have hl1_w_0 : w.heap.size < w1.heap.size := by omega)); (try (have hm1_w_0 : w.heap.size ≤ w1.heap.size := by omega)); (try (have hl1_w_1 : w.heap.size + 1 < w1.heap.size := by omega)); (try (have hm1_w_1 : w.heap.size + 1 ≤ w1.heap.size := by omega)); (try (have hl1_w_2 : w.heap.size + 2 < w1.heap.size := by omega)); (try (have hm1_w_2 : w.heap.size + 2 ≤ w1.heap.size := by omega)); (try (have hl1_w_3 : w.heap.size + 3 < w1.heap.size := by omega)); (try (have hm1_w_3 : w.heap.size + 3 ≤ w1.heap.size := by omega)); (try (have hl1_w_4 : w.heap.size + 4 < w1.heap.size := by omega)); (try (have hm1_w_4 : w.heap.size + 4 ≤ w1.heap.size := by omega)); (try (have hl1_w_5 : w.heap.size + 5 < w1.heap.size := by omega)); (try (have hm1_w_5 : w.heap.size + 5 ≤ w1.heap.size := by omega)); (try (have hl1_w_6 : w.heap.size + 6 < w1.heap.size := by omega)); (try (have hm1_w_6 : w.heap.size + 6 ≤ w1.heap.size := by omega))
      go_wp2_with fail
      go_ret2
      exact NilC.own _ _ _ ⟨rfl, (by repeat (first | with_reducible exact Below.refl _ _ | with_reducible assumption | with_reducible refine below_drewN ?_ _ | with_reducible refine Below.drew ?_ | with_reducible refine below_alloc0 ?_ | with_reducible refine below_alloc ?_ (by simp; try omega) | with_reducible refine below_set ?_ (by simp; try omega) | with_reducible refine below_chain ?_ (by assumption) | (with_reducible refine below_step ?_ (by assumption) (by simp; try omega))))⟩
  · have h0' : ((ltrAt l i).2 != 0) = true := by simpa using h0
    rw [ltrAnswer_err h0]
    clear h0
    go_enter Try.func38, Try.ntmps38
    go_wp2_with fail
    refine (ref_letter A n c l i _ hn' (HH.out.1.now (by repeat (first | with_reducible exact Below.refl _ _ | with_reducible assumption | with_reducible refine below_drewN ?_ _ | with_reducible refine Below.drew ?_ | with_reducible refine below_alloc0 ?_ | with_reducible refine below_alloc ?_ (by simp; try omega) | with_reducible refine below_set ?_ (by simp; try omega) | with_reducible refine below_chain ?_ (by assumption) | (with_reducible refine below_step ?_ (by assumption) (by simp; try omega)))))).mono ?_; rintro e w1 ⟨rfl, hb1⟩; obtain ⟨hc1, hf1⟩ := bcell hb1; (try simp only [World.heap_drewN, World.cell?_drewN, World.frozen?_drewN] at hc1 hf1); have hz1 := hb1.size; (try simp at hz1); (try (have hy1 := Nat.lt_of_succ_le hz1)); (try (have hx1 := Nat.lt_of_succ_lt hy1)); (try (have hl1_w_0 : w.heap.size < w1.heap.size := by omega)); (try (have hm1_w_0 : w.heap.size ≤ w1.heap.size := by omega)); (try (have hl1_w_1 : w.heap.size + 1 < w1.heap.size := by omega)); (try (have hm1_w_1 : w.heap.size + 1 ≤ w1.heap.size := by omega)); (try (have hl1_w_2 : w.heap.size + 2 < w1.heap.size := by omega)); (try (have hm1_w_2 : w.heap.size + 2 ≤ w1.heap.size := by omega)); (try (have hl1_w_3 : w.heap.size + 3 < w1.heap.size := by omega)); (try (have hm1_w_3 : w.heap.size + 3 ≤ w1.heap.size := by omega)); (try (have hl1_w_4 : w.heap.size + 4 < w1.heap.size := by omega)); (try (have hm1_w_4 : w.heap.size + 4 ≤ w1.heap.size := by omega)); (try (have hl1_w_5 : w.heap.size + 5 < w1.heap.size := by omega)); (try (have hm1_w_5 : w.heap.size + 5 ≤ w1.heap.size := by omega)); (try (have hl1_w_6 : w.heap.size + 6 < w1.heap.size := by omega)); (try (have hm1_w_6 : w.heap.size + 6 ≤ w1.heap.size := by omega))
    go_wp2_with fail
    go_ret2
    exact NilC.own _ _ _ ⟨rfl, (by repeat (first | with_reducible exact Below.refl _ _ | with_reducible assumption | with_reducible refine below_drewN ?_ _ | with_reducible refine Below.drew ?_ | with_reducible refine below_alloc0 ?_ | with_reducible refine below_alloc ?_ (by simp; try omega) | with_reducible refine below_set ?_ (by simp; try omega) | with_reducible refine below_chain ?_ (by assumption) | (with_reducible refine below_step ?_ (by assumption) (by simp; try omega))))⟩
end Go.Proofs.Ytiplgdplfbeahaa
