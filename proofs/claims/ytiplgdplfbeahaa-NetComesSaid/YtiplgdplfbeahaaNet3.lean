/- net.Answer: a letter's answer is set in a row of the call's own. -/
import Derived.Test.YtiplgdplfbeahaaNet2
namespace Go.Proofs.Ytiplgdplfbeahaa
open Go.RowKit

def setAns (x : Ltr) (v : Val) : Ltr := ⟨x.field, x.id, x.key, v⟩
/-- What net.Answer answers. -/
def ltrAnswer (l : List Ltr) (i : Int) (v : Val) : List Ltr × Int := if (ltrAt l i).2 = 0 then if (ltrAt l i).1.answer.k ≠ 0 then ([], 2) else if valKnown v = false then ([], 9) else (l.set i.toNat (setAns (ltrAt l i).1 v), 0) else ([], (ltrAt l i).2)
theorem flat_set (l : List Ltr) (k : Nat) (x : Ltr) (v : Val) (hx : l[k]? = some x) :
    (((l.flatMap Ltr.cs).set (k * 8 + 5) (.int .i64 v.k)).set (k * 8 + 6) (.int .i64 v.n)).set (k * 8 + 7) (.string v.s) = (l.set k (setAns x v)).flatMap Ltr.cs := by
  have hk : k < l.length := (List.getElem?_eq_some_iff.1 hx).1
  have hxe : l[k] = x := (List.getElem?_eq_some_iff.1 hx).2
  have e : l = l.take k ++ x :: l.drop (k + 1) := by
    rw [← hxe, List.getElem_cons_drop, List.take_append_drop]
  have hlen : ((l.take k).flatMap Ltr.cs).length = k * 8 := by rw [flat_len _ 8 lenLtr, List.length_take, Nat.min_eq_left (by omega)]
  have e1 : l.flatMap Ltr.cs = (l.take k).flatMap Ltr.cs ++ (x.cs ++ (l.drop (k + 1)).flatMap Ltr.cs) := by
    conv => lhs; rw [e]
    rw [List.flatMap_append, List.flatMap_cons]
  have e2 : (l.set k (setAns x v)).flatMap Ltr.cs = (l.take k).flatMap Ltr.cs ++ ((setAns x v).cs ++ (l.drop (k + 1)).flatMap Ltr.cs) := by
    rw [List.set_eq_take_append_cons_drop, if_pos hk, List.flatMap_append, List.flatMap_cons]
  rw [e1, e2]
  rw [List.set_append_right _ _ (by omega), List.set_append_right _ _ (by omega), List.set_append_right _ _ (by omega), hlen]
  have a1 : k * 8 + 5 - k * 8 = 5 := by omega
  have a2 : k * 8 + 6 - k * 8 = 6 := by omega
  have a3 : k * 8 + 7 - k * 8 = 7 := by omega
  rw [a1, a2, a3]
  simp [Ltr.cs, setAns]
theorem cells_own {w : World} {base g n cap k : Nat} {l : List Ltr} {e : TypeId} {x : Ltr} (h : w.ownsRow base e 8 (.slice (some ⟨g, 0, none⟩) n cap) n (l.flatMap Ltr.cs)) (hx : l[k]? = some x) (hk : k < n) :
    w.cell? ⟨g, k * 8 + 5, none⟩ = some (.int .i64 x.answer.k) ∧ w.cell? ⟨g, k * 8 + 6, none⟩ = some (.int .i64 x.answer.n) ∧ w.cell? ⟨g, k * 8 + 7, none⟩ = some (.string x.answer.s) := by
  have f := fun j hj => flat_at Ltr.cs 8 lenLtr l k j x hx hj
  refine ⟨?_, ?_, ?_⟩
  · rw [h.cellAt _ (by omega), f 5 (by decide)]; rfl
  · rw [h.cellAt _ (by omega), f 6 (by decide)]; rfl
  · rw [h.cellAt _ (by omega), f 7 (by decide)]; rfl
theorem ltrAnswer_err {l : List Ltr} {i : Int} {v : Val} (h : (ltrAt l i).2 ≠ 0) : ltrAnswer l i v = ([], (ltrAt l i).2) := by rw [ltrAnswer, if_neg h]
theorem ltrAt_ok {l : List Ltr} {i : Int} (h : (ltrAt l i).2 = 0) : ltrCheck l = 0 ∧ ∃ (k : Nat) (x : Ltr), i = k ∧ k < l.length ∧ l[k]? = some x ∧ ltrAt l i = (x, 0) := by
  rcases ltrAt_cases l i with ⟨h0, e⟩ | ⟨h0, h1, e⟩ | ⟨h0, h1, h2, e⟩ | ⟨h0, k, x, h1, h2, h3, e⟩
  · rw [e] at h; exact absurd h h0
  · rw [e] at h; cases h
  · rw [e] at h; cases h
  · exact ⟨h0, k, x, h1, h2, h3, e⟩
set_option maxRecDepth 100000 in
set_option maxHeartbeats 4000000 in
theorem net_Answer (A : Option Addr) (n c : Nat) (l : List Ltr) (i : Int) (vk vn : Int) (vs : ByteArray) (w : World) (hn : inB 88 n) (hvs : vs.size ≤ maxLen) (h : Sl w (old w) 8 RLtr A n l) :
    Calls Try.prog 37 #[.slice A n c, .int .i64 i, .agg #[.int .i64 vk, .int .i64 vn, .string vs]] w (OwnRowC Ltr.cs 75 8 w (ltrAnswer l i ⟨vk, vn, vs⟩).1 (ltrAnswer l i ⟨vk, vn, vs⟩).2) := by
  have hn' := hn.l (by decide)
  have HH := Lib.hid (And.intro h hn)
  have hlen := h.len
  clear h hn
  by_cases h0 : (ltrAt l i).2 = 0
  · obtain ⟨hck, k, x, rfl, hk, hx, e⟩ := ltrAt_ok h0
    rw [hlen] at hk
    have h24 : n ≤ 24 := by rw [← hlen]; exact ltrCheck_le hck
    have hat : ltrAnswer l k ⟨vk, vn, vs⟩ = if x.answer.k ≠ 0 then ([], 2) else if valKnown ⟨vk, vn, vs⟩ = false then ([], 9) else (l.set k (setAns x ⟨vk, vn, vs⟩), 0) := by
      rw [ltrAnswer, if_pos h0, e, Int.toNat_natCast]
    have hnat := fun w h => net_at A n c l k w hn' h
    rw [e] at hnat
    have HX := Lib.hid (And.intro hx hlen)
    clear h0 e hx hck hlen
    by_cases ha : x.answer.k = 0
    · cases hkn : valKnown ⟨vk, vn, vs⟩
      · have ha' : (x.answer.k != 0) = false := by simpa using ha
        rw [if_neg (by simpa using ha), if_pos hkn] at hat
        rw [hat]
        clear hat ha
        go_enter Try.func37, Try.ntmps37
        go_wp2_with fail
        refine (hnat _ (HH.out.1.now (by repeat (first | with_reducible exact Below.refl _ _ | with_reducible assumption | with_reducible refine below_drewN ?_ _ | with_reducible refine Below.drew ?_ | with_reducible refine below_alloc0 ?_ | with_reducible refine below_alloc ?_ (by simp; try omega) | with_reducible refine below_set ?_ (by simp; try omega) | with_reducible refine below_chain ?_ (by assumption) | (with_reducible refine below_step ?_ (by assumption) (by simp; try omega)))))).mono ?_; rintro e w1 ⟨rfl, hb1⟩; obtain ⟨hc1, hf1⟩ := bcell hb1; (try simp only [World.heap_drewN, World.cell?_drewN, World.frozen?_drewN] at hc1 hf1); have hz1 := hb1.size; (try simp at hz1); (try (have hy1 := Nat.lt_of_succ_le hz1)); (try (have hx1 := Nat.lt_of_succ_lt hy1)); (try (have hl1_w_0 : w.heap.size < w1.heap.size := by omega)); (try (have hm1_w_0 : w.heap.size ≤ w1.heap.size := by omega)); (try (have hl1_w_1 : w.heap.size + 1 < w1.heap.size := by omega)); (try (have hm1_w_1 : w.heap.size + 1 ≤ w1.heap.size := by omega)); (try (have hl1_w_2 : w.heap.size + 2 < w1.heap.size := by omega)); (try (have hm1_w_2 : w.heap.size + 2 ≤ w1.heap.size := by omega)); (try (have hl1_w_3 : w.heap.size + 3 < w1.heap.size := by omega)); (try (have hm1_w_3 : w.heap.size + 3 ≤ w1.heap.size := by omega)); (try (have hl1_w_4 : w.heap.size + 4 < w1.heap.size := by omega)); (try (have hm1_w_4 : w.heap.size + 4 ≤ w1.heap.size := by omega)); (try (have hl1_w_5 : w.heap.size + 5 < w1.heap.size := by omega)); (try (have hm1_w_5 : w.heap.size + 5 ≤ w1.heap.size := by omega)); (try (have hl1_w_6 : w.heap.size + 6 < w1.heap.size := by omega)); (try (have hm1_w_6 : w.heap.size + 6 ≤ w1.heap.size := by omega))
        go_wp2_with (go_at_call 65; refine (value_Known _ _ _ _ hvs).mono ?_; rintro e w2 ⟨rfl, hb2⟩; obtain ⟨hc2, hf2⟩ := bcell hb2; (try simp only [World.heap_drewN, World.cell?_drewN, World.frozen?_drewN] at hc2 hf2); have hz2 := hb2.size; (try simp at hz2); (try (have hy2 := Nat.lt_of_succ_le hz2)); (try (have hx2 := Nat.lt_of_succ_lt hy2)); (try (have hl2_w_0 : w.heap.size < w2.heap.size := by omega)); (try (have hm2_w_0 : w.heap.size ≤ w2.heap.size := by omega)); (try (have hl2_w_1 : w.heap.size + 1 < w2.heap.size := by omega)); (try (have hm2_w_1 : w.heap.size + 1 ≤ w2.heap.size := by omega)); (try (have hl2_w_2 : w.heap.size + 2 < w2.heap.size := by omega)); (try (have hm2_w_2 : w.heap.size + 2 ≤ w2.heap.size := by omega)); (try (have hl2_w_3 : w.heap.size + 3 < w2.heap.size := by omega)); (try (have hm2_w_3 : w.heap.size + 3 ≤ w2.heap.size := by omega)); (try (have hl2_w_4 : w.heap.size + 4 < w2.heap.size := by omega)); (try (have hm2_w_4 : w.heap.size + 4 ≤ w2.heap.size := by omega)); (try (have hl2_w_5 : w.heap.size + 5 < w2.heap.size := by omega)); (try (have hm2_w_5 : w.heap.size + 5 ≤ w2.heap.size := by omega)); (try (have hl2_w_6 : w.heap.size + 6 < w2.heap.size := by omega)); (try (have hm2_w_6 : w.heap.size + 6 ≤ w2.heap.size := by omega)); (try (have hl2_w1_0 : w1.heap.size < w2.heap.size := by omega)); (try (have hm2_w1_0 : w1.heap.size ≤ w2.heap.size := by omega)); (try (have hl2_w1_1 : w1.heap.size + 1 < w2.heap.size := by omega)); (try (have hm2_w1_1 : w1.heap.size + 1 ≤ w2.heap.size := by omega)); (try (have hl2_w1_2 : w1.heap.size + 2 < w2.heap.size := by omega)); (try (have hm2_w1_2 : w1.heap.size + 2 ≤ w2.heap.size := by omega)); (try (have hl2_w1_3 : w1.heap.size + 3 < w2.heap.size := by omega)); (try (have hm2_w1_3 : w1.heap.size + 3 ≤ w2.heap.size := by omega)); (try (have hl2_w1_4 : w1.heap.size + 4 < w2.heap.size := by omega)); (try (have hm2_w1_4 : w1.heap.size + 4 ≤ w2.heap.size := by omega)); (try (have hl2_w1_5 : w1.heap.size + 5 < w2.heap.size := by omega)); (try (have hm2_w1_5 : w1.heap.size + 5 ≤ w2.heap.size := by omega)); (try (have hl2_w1_6 : w1.heap.size + 6 < w2.heap.size := by omega)); (try (have hm2_w1_6 : w1.heap.size + 6 ≤ w2.heap.size := by omega)))
        go_ret2
        exact NilC.own _ _ _ ⟨rfl, (by repeat (first | with_reducible exact Below.refl _ _ | with_reducible assumption | with_reducible refine below_drewN ?_ _ | with_reducible refine Below.drew ?_ | with_reducible refine below_alloc0 ?_ | with_reducible refine below_alloc ?_ (by simp; try omega) | with_reducible refine below_set ?_ (by simp; try omega) | with_reducible refine below_chain ?_ (by assumption) | (with_reducible refine below_step ?_ (by assumption) (by simp; try omega))))⟩
      · have ha' : (x.answer.k != 0) = false := by simpa using ha
        rw [if_neg (by simpa using ha), if_neg (by rw [hkn]; decide)] at hat
        rw [hat]
        clear hat ha
        go_enter Try.func37, Try.ntmps37
        go_wp2_with fail
        refine (hnat _ (HH.out.1.now (by repeat (first | with_reducible exact Below.refl _ _ | with_reducible assumption | with_reducible refine below_drewN ?_ _ | with_reducible refine Below.drew ?_ | with_reducible refine below_alloc0 ?_ | with_reducible refine below_alloc ?_ (by simp; try omega) | with_reducible refine below_set ?_ (by simp; try omega) | with_reducible refine below_chain ?_ (by assumption) | (with_reducible refine below_step ?_ (by assumption) (by simp; try omega)))))).mono ?_; rintro e w1 ⟨rfl, hb1⟩; obtain ⟨hc1, hf1⟩ := bcell hb1; (try simp only [World.heap_drewN, World.cell?_drewN, World.frozen?_drewN] at hc1 hf1); have hz1 := hb1.size; (try simp at hz1); (try (have hy1 := Nat.lt_of_succ_le hz1)); (try (have hx1 := Nat.lt_of_succ_lt hy1)); (try (have hl1_w_0 : w.heap.size < w1.heap.size := by omega)); (try (have hm1_w_0 : w.heap.size ≤ w1.heap.size := by omega)); (try (have hl1_w_1 : w.heap.size + 1 < w1.heap.size := by omega)); (try (have hm1_w_1 : w.heap.size + 1 ≤ w1.heap.size := by omega)); (try (have hl1_w_2 : w.heap.size + 2 < w1.heap.size := by omega)); (try (have hm1_w_2 : w.heap.size + 2 ≤ w1.heap.size := by omega)); (try (have hl1_w_3 : w.heap.size + 3 < w1.heap.size := by omega)); (try (have hm1_w_3 : w.heap.size + 3 ≤ w1.heap.size := by omega)); (try (have hl1_w_4 : w.heap.size + 4 < w1.heap.size := by omega)); (try (have hm1_w_4 : w.heap.size + 4 ≤ w1.heap.size := by omega)); (try (have hl1_w_5 : w.heap.size + 5 < w1.heap.size := by omega)); (try (have hm1_w_5 : w.heap.size + 5 ≤ w1.heap.size := by omega)); (try (have hl1_w_6 : w.heap.size + 6 < w1.heap.size := by omega)); (try (have hm1_w_6 : w.heap.size + 6 ≤ w1.heap.size := by omega))
        go_wp2_with fail
        refine (value_Known _ _ _ _ hvs).mono ?_; rintro e w2 ⟨rfl, hb2⟩; obtain ⟨hc2, hf2⟩ := bcell hb2; (try simp only [World.heap_drewN, World.cell?_drewN, World.frozen?_drewN] at hc2 hf2); have hz2 := hb2.size; (try simp at hz2); (try (have hy2 := Nat.lt_of_succ_le hz2)); (try (have hx2 := Nat.lt_of_succ_lt hy2)); (try (have hl2_w_0 : w.heap.size < w2.heap.size := by omega)); (try (have hm2_w_0 : w.heap.size ≤ w2.heap.size := by omega)); (try (have hl2_w_1 : w.heap.size + 1 < w2.heap.size := by omega)); (try (have hm2_w_1 : w.heap.size + 1 ≤ w2.heap.size := by omega)); (try (have hl2_w_2 : w.heap.size + 2 < w2.heap.size := by omega)); (try (have hm2_w_2 : w.heap.size + 2 ≤ w2.heap.size := by omega)); (try (have hl2_w_3 : w.heap.size + 3 < w2.heap.size := by omega)); (try (have hm2_w_3 : w.heap.size + 3 ≤ w2.heap.size := by omega)); (try (have hl2_w_4 : w.heap.size + 4 < w2.heap.size := by omega)); (try (have hm2_w_4 : w.heap.size + 4 ≤ w2.heap.size := by omega)); (try (have hl2_w_5 : w.heap.size + 5 < w2.heap.size := by omega)); (try (have hm2_w_5 : w.heap.size + 5 ≤ w2.heap.size := by omega)); (try (have hl2_w_6 : w.heap.size + 6 < w2.heap.size := by omega)); (try (have hm2_w_6 : w.heap.size + 6 ≤ w2.heap.size := by omega)); (try (have hl2_w1_0 : w1.heap.size < w2.heap.size := by omega)); (try (have hm2_w1_0 : w1.heap.size ≤ w2.heap.size := by omega)); (try (have hl2_w1_1 : w1.heap.size + 1 < w2.heap.size := by omega)); (try (have hm2_w1_1 : w1.heap.size + 1 ≤ w2.heap.size := by omega)); (try (have hl2_w1_2 : w1.heap.size + 2 < w2.heap.size := by omega)); (try (have hm2_w1_2 : w1.heap.size + 2 ≤ w2.heap.size := by omega)); (try (have hl2_w1_3 : w1.heap.size + 3 < w2.heap.size := by omega)); (try (have hm2_w1_3 : w1.heap.size + 3 ≤ w2.heap.size := by omega)); (try (have hl2_w1_4 : w1.heap.size + 4 < w2.heap.size := by omega)); (try (have hm2_w1_4 : w1.heap.size + 4 ≤ w2.heap.size := by omega)); (try (have hl2_w1_5 : w1.heap.size + 5 < w2.heap.size := by omega)); (try (have hm2_w1_5 : w1.heap.size + 5 ≤ w2.heap.size := by omega)); (try (have hl2_w1_6 : w1.heap.size + 6 < w2.heap.size := by omega)); (try (have hm2_w1_6 : w1.heap.size + 6 ≤ w2.heap.size := by omega))
        go_wp2_with fail
        refine (clone_Ltr A n c l _ HH.out.2 (HH.out.1.now (by repeat (first | with_reducible exact Below.refl _ _ | with_reducible assumption | with_reducible refine below_drewN ?_ _ | with_reducible refine Below.drew ?_ | with_reducible refine below_alloc0 ?_ | with_reducible refine below_alloc ?_ (by simp; try omega) | with_reducible refine below_set ?_ (by simp; try omega) | with_reducible refine below_chain ?_ (by assumption) | (with_reducible refine below_step ?_ (by assumption) (by simp; try omega)))))).mono ?_; rintro e w3 ⟨v3, rfl, ho3, hb3⟩; obtain ⟨hc3, hf3⟩ := bcell hb3; (try simp only [World.heap_drewN, World.cell?_drewN, World.frozen?_drewN] at hc3 hf3); have hz3 := hb3.size; (try simp at hz3); (try (have hy3 := Nat.lt_of_succ_le hz3)); (try (have hx3 := Nat.lt_of_succ_lt hy3)); (try (have hl3_w_0 : w.heap.size < w3.heap.size := by omega)); (try (have hm3_w_0 : w.heap.size ≤ w3.heap.size := by omega)); (try (have hl3_w_1 : w.heap.size + 1 < w3.heap.size := by omega)); (try (have hm3_w_1 : w.heap.size + 1 ≤ w3.heap.size := by omega)); (try (have hl3_w_2 : w.heap.size + 2 < w3.heap.size := by omega)); (try (have hm3_w_2 : w.heap.size + 2 ≤ w3.heap.size := by omega)); (try (have hl3_w_3 : w.heap.size + 3 < w3.heap.size := by omega)); (try (have hm3_w_3 : w.heap.size + 3 ≤ w3.heap.size := by omega)); (try (have hl3_w_4 : w.heap.size + 4 < w3.heap.size := by omega)); (try (have hm3_w_4 : w.heap.size + 4 ≤ w3.heap.size := by omega)); (try (have hl3_w_5 : w.heap.size + 5 < w3.heap.size := by omega)); (try (have hm3_w_5 : w.heap.size + 5 ≤ w3.heap.size := by omega)); (try (have hl3_w_6 : w.heap.size + 6 < w3.heap.size := by omega)); (try (have hm3_w_6 : w.heap.size + 6 ≤ w3.heap.size := by omega)); (try (have hl3_w1_0 : w1.heap.size < w3.heap.size := by omega)); (try (have hm3_w1_0 : w1.heap.size ≤ w3.heap.size := by omega)); (try (have hl3_w1_1 : w1.heap.size + 1 < w3.heap.size := by omega)); (try (have hm3_w1_1 : w1.heap.size + 1 ≤ w3.heap.size := by omega)); (try (have hl3_w1_2 : w1.heap.size + 2 < w3.heap.size := by omega)); (try (have hm3_w1_2 : w1.heap.size + 2 ≤ w3.heap.size := by omega)); (try (have hl3_w1_3 : w1.heap.size + 3 < w3.heap.size := by omega)); (try (have hm3_w1_3 : w1.heap.size + 3 ≤ w3.heap.size := by omega)); (try (have hl3_w1_4 : w1.heap.size + 4 < w3.heap.size := by omega)); (try (have hm3_w1_4 : w1.heap.size + 4 ≤ w3.heap.size := by omega)); (try (have hl3_w1_5 : w1.heap.size + 5 < w3.heap.size := by omega)); (try (have hm3_w1_5 : w1.heap.size + 5 ≤ w3.heap.size := by omega)); (try (have hl3_w1_6 : w1.heap.size + 6 < w3.heap.size := by omega)); (try (have hm3_w1_6 : w1.heap.size + 6 ≤ w3.heap.size := by omega)); (try (have hl3_w2_0 : w2.heap.size < w3.heap.size := by omega)); (try (have hm3_w2_0 : w2.heap.size ≤ w3.heap.size := by omega)); (try (have hl3_w2_1 : w2.heap.size + 1 < w3.heap.size := by omega)); (try (have hm3_w2_1 : w2.heap.size + 1 ≤ w3.heap.size := by omega)); (try (have hl3_w2_2 : w2.heap.size + 2 < w3.heap.size := by omega)); (try (have hm3_w2_2 : w2.heap.size + 2 ≤ w3.heap.size := by omega)); (try (have hl3_w2_3 : w2.heap.size + 3 < w3.heap.size := by omega)); (try (have hm3_w2_3 : w2.heap.size + 3 ≤ w3.heap.size := by omega)); (try (have hl3_w2_4 : w2.heap.size + 4 < w3.heap.size := by omega)); (try (have hm3_w2_4 : w2.heap.size + 4 ≤ w3.heap.size := by omega)); (try (have hl3_w2_5 : w2.heap.size + 5 < w3.heap.size := by omega)); (try (have hm3_w2_5 : w2.heap.size + 5 ≤ w3.heap.size := by omega)); (try (have hl3_w2_6 : w2.heap.size + 6 < w3.heap.size := by omega)); (try (have hm3_w2_6 : w2.heap.size + 6 ≤ w3.heap.size := by omega))
        rw [HX.out.2] at ho3
        obtain ⟨g, cap, rfl, hg1, hg2⟩ := ho3.form (by omega)
        obtain ⟨y5, y6, y7⟩ := cells_own ho3 HX.out.1 hk
        have z5 := ho3.frozenAt (k * 8 + 5)
        have z6 := ho3.frozenAt (k * 8 + 6)
        have z7 := ho3.frozenAt (k * 8 + 7)
        have hgw : w.heap.size < g := by omega
        have hst := (((ho3.stored (k * 8 + 5) (.int .i64 vk)).1.stored (k * 8 + 6) (.int .i64 vn)).1.stored (k * 8 + 7) (.string vs)).1
        rw [flat_set l k x ⟨vk, vn, vs⟩ HX.out.1] at hst
        have HO := Lib.hid hst
        clear ho3 hst
        go_wp2_with fail
        go_ret2
        refine ⟨_, rfl, ?_, (by repeat (first | with_reducible exact Below.refl _ _ | with_reducible assumption | with_reducible refine below_drewN ?_ _ | with_reducible refine Below.drew ?_ | with_reducible refine below_alloc0 ?_ | with_reducible refine below_alloc ?_ (by simp; try omega) | with_reducible refine below_set ?_ (by simp; try omega) | with_reducible refine below_chain ?_ (by assumption) | (with_reducible refine below_step ?_ (by assumption) (by simp; try omega))))⟩
        have := ownsRow_base HO.out (base' := w.heap.size) (by omega)
        simpa [HX.out.2] using this
    · have ha' : (x.answer.k != 0) = true := by simpa using ha
      rw [if_pos ha] at hat
      rw [hat]
      clear hat ha
      go_enter Try.func37, Try.ntmps37
      go_wp2_with fail
      refine (hnat _ (HH.out.1.now (by repeat (first | with_reducible exact Below.refl _ _ | with_reducible assumption | with_reducible refine below_drewN ?_ _ | with_reducible refine Below.drew ?_ | with_reducible refine below_alloc0 ?_ | with_reducible refine below_alloc ?_ (by simp; try omega) | with_reducible refine below_set ?_ (by simp; try omega) | with_reducible refine below_chain ?_ (by assumption) | (with_reducible refine below_step ?_ (by assumption) (by simp; try omega)))))).mono ?_; rintro e w1 ⟨rfl, hb1⟩; obtain ⟨hc1, hf1⟩ := bcell hb1; (try simp only [World.heap_drewN, World.cell?_drewN, World.frozen?_drewN] at hc1 hf1); have hz1 := hb1.size; (try simp at hz1); (try (have hy1 := Nat.lt_of_succ_le hz1)); (try (have hx1 := Nat.lt_of_succ_lt hy1)); (try (have hl1_w_0 : w.heap.size < w1.heap.size := by omega)); (try (have hm1_w_0 : w.heap.size ≤ w1.heap.size := by omega)); (try (have hl1_w_1 : w.heap.size + 1 < w1.heap.size := by omega)); (try (have hm1_w_1 : w.heap.size + 1 ≤ w1.heap.size := by omega)); (try (have hl1_w_2 : w.heap.size + 2 < w1.heap.size := by omega)); (try (have hm1_w_2 : w.heap.size + 2 ≤ w1.heap.size := by omega)); (try (have hl1_w_3 : w.heap.size + 3 < w1.heap.size := by omega)); (try (have hm1_w_3 : w.heap.size + 3 ≤ w1.heap.size := by omega)); (try (have hl1_w_4 : w.heap.size + 4 < w1.heap.size := by omega)); (try (have hm1_w_4 : w.heap.size + 4 ≤ w1.heap.size := by omega)); (try (have hl1_w_5 : w.heap.size + 5 < w1.heap.size := by omega)); (try (have hm1_w_5 : w.heap.size + 5 ≤ w1.heap.size := by omega)); (try (have hl1_w_6 : w.heap.size + 6 < w1.heap.size := by omega)); (try (have hm1_w_6 : w.heap.size + 6 ≤ w1.heap.size := by omega))
      go_wp2_with fail
      go_ret2
      exact NilC.own _ _ _ ⟨rfl, (by repeat (first | with_reducible exact Below.refl _ _ | with_reducible assumption | with_reducible refine below_drewN ?_ _ | with_reducible refine Below.drew ?_ | with_reducible refine below_alloc0 ?_ | with_reducible refine below_alloc ?_ (by simp; try omega) | with_reducible refine below_set ?_ (by simp; try omega) | with_reducible refine below_chain ?_ (by assumption) | (with_reducible refine below_step ?_ (by assumption) (by simp; try omega))))⟩
  · have h0' : ((ltrAt l i).2 != 0) = true := by simpa using h0
    rw [ltrAnswer_err h0]
    clear h0
    go_enter Try.func37, Try.ntmps37
    go_wp2_with fail
    refine (net_at A n c l i _ hn' (HH.out.1.now (by repeat (first | with_reducible exact Below.refl _ _ | with_reducible assumption | with_reducible refine below_drewN ?_ _ | with_reducible refine Below.drew ?_ | with_reducible refine below_alloc0 ?_ | with_reducible refine below_alloc ?_ (by simp; try omega) | with_reducible refine below_set ?_ (by simp; try omega) | with_reducible refine below_chain ?_ (by assumption) | (with_reducible refine below_step ?_ (by assumption) (by simp; try omega)))))).mono ?_; rintro e w1 ⟨rfl, hb1⟩; obtain ⟨hc1, hf1⟩ := bcell hb1; (try simp only [World.heap_drewN, World.cell?_drewN, World.frozen?_drewN] at hc1 hf1); have hz1 := hb1.size; (try simp at hz1); (try (have hy1 := Nat.lt_of_succ_le hz1)); (try (have hx1 := Nat.lt_of_succ_lt hy1)); (try (have hl1_w_0 : w.heap.size < w1.heap.size := by omega)); (try (have hm1_w_0 : w.heap.size ≤ w1.heap.size := by omega)); (try (have hl1_w_1 : w.heap.size + 1 < w1.heap.size := by omega)); (try (have hm1_w_1 : w.heap.size + 1 ≤ w1.heap.size := by omega)); (try (have hl1_w_2 : w.heap.size + 2 < w1.heap.size := by omega)); (try (have hm1_w_2 : w.heap.size + 2 ≤ w1.heap.size := by omega)); (try (have hl1_w_3 : w.heap.size + 3 < w1.heap.size := by omega)); (try (have hm1_w_3 : w.heap.size + 3 ≤ w1.heap.size := by omega)); (try (have hl1_w_4 : w.heap.size + 4 < w1.heap.size := by omega)); (try (have hm1_w_4 : w.heap.size + 4 ≤ w1.heap.size := by omega)); (try (have hl1_w_5 : w.heap.size + 5 < w1.heap.size := by omega)); (try (have hm1_w_5 : w.heap.size + 5 ≤ w1.heap.size := by omega)); (try (have hl1_w_6 : w.heap.size + 6 < w1.heap.size := by omega)); (try (have hm1_w_6 : w.heap.size + 6 ≤ w1.heap.size := by omega))
    go_wp2_with fail
    go_ret2
    exact NilC.own _ _ _ ⟨rfl, (by repeat (first | with_reducible exact Below.refl _ _ | with_reducible assumption | with_reducible refine below_drewN ?_ _ | with_reducible refine Below.drew ?_ | with_reducible refine below_alloc0 ?_ | with_reducible refine below_alloc ?_ (by simp; try omega) | with_reducible refine below_set ?_ (by simp; try omega) | with_reducible refine below_chain ?_ (by assumption) | (with_reducible refine below_step ?_ (by assumption) (by simp; try omega))))⟩
end Go.Proofs.Ytiplgdplfbeahaa
