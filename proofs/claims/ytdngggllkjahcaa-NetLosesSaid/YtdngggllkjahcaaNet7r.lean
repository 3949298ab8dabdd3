/- The references LettersLose and LettersTwice. -/
import Derived.Test.YtdngggllkjahcaaNet7
namespace Go.Proofs.Ytdngggllkjahcaa
open Go.RowKit

theorem Sl.of_block {α : Type} (enc : α → List Value) (wf : α → Prop) {size : Nat} (hsz : ∀ a, (enc a).length = size) {w : World} {g : Nat} {t : TypeId} {fr : Nat × Nat} {l : List α} (h : w.heap[g]? = some (.cells (l.flatMap enc).toArray t fr)) (hw : ∀ a ∈ l, wf a) :
    Sl w (old w) size (fun cs a => cs = enc a ∧ wf a) (some ⟨g, 0, none⟩) l.length l := by
  refine ⟨rfl, fun _ => ⟨g, 0, rfl, (Array.getElem?_eq_some_iff.1 h).1, fun i a hi => ⟨enc a, ⟨rfl, hw a (List.mem_of_getElem? hi)⟩, hsz a, fun j hj => ?_⟩⟩⟩
  rw [Nat.zero_add, cell_of_row w g (i * size + j) _ t fr h]
  simpa using flat_at enc size hsz l i j a hi hj
theorem around_two (l : List Ltr) (k : Nat) (x : Ltr) (hx : l[k]? = some x) : around l k [x, x] = insL l k x := by
  have hk : k < l.length := (List.getElem?_eq_some_iff.1 hx).1
  have hxe : l[k] = x := (List.getElem?_eq_some_iff.1 hx).2
  rw [around, insL, ← List.getElem_cons_drop hk, hxe]
  simp
set_option maxRecDepth 100000 in
set_option maxHeartbeats 4000000 in
theorem ref_LettersLose (A : Option Addr) (n c : Nat) (l : List Ltr) (i : Int) (w : World) (hn : inB 88 n) (hc : n ≤ c) (h : Sl w (old w) 8 RLtr A n l) :
    Calls Try.prog 6 #[.slice A n c, .int .i64 i] w (OwnRowC Ltr.cs 31 8 w (ltrLose l i).1 (ltrLose l i).2) := by
  have hn' := hn.l (by decide)
  have HH := Lib.hid (And.intro h hn)
  have hlen := h.len
  clear h hn
  by_cases h0 : (ltrAt l i).2 = 0
  · obtain ⟨hck, k, x, rfl, hk, hx, e⟩ := ltrAt_ok h0
    rw [hlen] at hk
    have h24 : n ≤ 24 := by rw [← hlen]; exact ltrCheck_le hck
    rw [show ltrLose l k = (l.eraseIdx k, 0) by rw [ltrLose, if_pos h0, Int.toNat_natCast]]
    have hnat := fun w h => ref_letter A n c l k w hn' h
    rw [e] at hnat
    clear h0 e hx hck hlen
    go_enter Try.func6, Try.ntmps6
    go_wp2_with fail
    refine (hnat _ (HH.out.1.now (by repeat (first | with_reducible exact Below.refl _ _ | with_reducible assumption | with_reducible refine below_drewN ?_ _ | with_reducible refine Below.drew ?_ | with_reducible refine below_alloc0 ?_ | with_reducible refine below_alloc ?_ (by simp; try omega) | with_reducible refine below_set ?_ (by simp; try omega) | with_reducible refine below_chain ?_ (by assumption) | (with_reducible refine below_step ?_ (by assumption) (by simp; try omega)))))).mono ?_; rintro e w1 ⟨rfl, hb1⟩; obtain ⟨hc1, hf1⟩ := bcell hb1; (try simp only [World.heap_drewN, World.cell?_drewN, World.frozen?_drewN] at hc1 hf1); have hz1 := hb1.size; (try simp at hz1); (try (have hy1 := Nat.lt_of_succ_le hz1)); (try (have hx1 := Nat.lt_of_succ_lt hy1)); (try (have hl1_w_0 : w.heap.size < w1.heap.size := by omega)); (try (have hm1_w_0 : w.heap.size ≤ w1.heap.size := by omega)); (try (have hl1_w_1 : w.heap.size + 1 < w1.heap.size := by omega)); (try (have hm1_w_1 : w.heap.size + 1 ≤ w1.heap.size := by omega)); (try (have hl1_w_2 : w.heap.size + 2 < w1.heap.size := by omega)); (try (have hm1_w_2 : w.heap.size + 2 ≤ w1.heap.size := by omega)); (try (have hl1_w_3 : w.heap.size + 3 < w1.heap.size := by omega)); (try (have hm1_w_3 : w.heap.size + 3 ≤ w1.heap.size := by omega)); (try (have hl1_w_4 : w.heap.size + 4 < w1.heap.size := by omega)); (try (have hm1_w_4 : w.heap.size + 4 ≤ w1.heap.size := by omega)); (try (have hl1_w_5 : w.heap.size + 5 < w1.heap.size := by omega)); (try (have hm1_w_5 : w.heap.size + 5 ≤ w1.heap.size := by omega)); (try (have hl1_w_6 : w.heap.size + 6 < w1.heap.size := by omega)); (try (have hm1_w_6 : w.heap.size + 6 ≤ w1.heap.size := by omega))
    go_wp2_with fail
    refine (ref_around A n c l k none 0 0 [] _ h24 hc hk (by decide) (HH.out.1.now (by repeat (first | with_reducible exact Below.refl _ _ | with_reducible assumption | with_reducible refine below_drewN ?_ _ | with_reducible refine Below.drew ?_ | with_reducible refine below_alloc0 ?_ | with_reducible refine below_alloc ?_ (by simp; try omega) | with_reducible refine below_set ?_ (by simp; try omega) | with_reducible refine below_chain ?_ (by assumption) | (with_reducible refine below_step ?_ (by assumption) (by simp; try omega))))) Sl.nil).mono ?_; rintro e w2 ⟨v2, rfl, ho2, hb2⟩
    rw [around_nil] at ho2
    go_wp2_with fail
    go_ret2
    exact ⟨_, rfl, ownsRow_base ho2 hb1.size, below_chain hb1 hb2⟩
  · have h0' : ((ltrAt l i).2 != 0) = true := by simpa using h0
    rw [show ltrLose l i = ([], (ltrAt l i).2) by rw [ltrLose, if_neg h0]]
    clear h0
    go_enter Try.func6, Try.ntmps6
    go_wp2_with fail
    refine (ref_letter A n c l i _ hn' (HH.out.1.now (by repeat (first | with_reducible exact Below.refl _ _ | with_reducible assumption | with_reducible refine below_drewN ?_ _ | with_reducible refine Below.drew ?_ | with_reducible refine below_alloc0 ?_ | with_reducible refine below_alloc ?_ (by simp; try omega) | with_reducible refine below_set ?_ (by simp; try omega) | with_reducible refine below_chain ?_ (by assumption) | (with_reducible refine below_step ?_ (by assumption) (by simp; try omega)))))).mono ?_; rintro e w1 ⟨rfl, hb1⟩; obtain ⟨hc1, hf1⟩ := bcell hb1; (try simp only [World.heap_drewN, World.cell?_drewN, World.frozen?_drewN] at hc1 hf1); have hz1 := hb1.size; (try simp at hz1); (try (have hy1 := Nat.lt_of_succ_le hz1)); (try (have hx1 := Nat.lt_of_succ_lt hy1)); (try (have hl1_w_0 : w.heap.size < w1.heap.size := by omega)); (try (have hm1_w_0 : w.heap.size ≤ w1.heap.size := by omega)); (try (have hl1_w_1 : w.heap.size + 1 < w1.heap.size := by omega)); (try (have hm1_w_1 : w.heap.size + 1 ≤ w1.heap.size := by omega)); (try (have hl1_w_2 : w.heap.size + 2 < w1.heap.size := by omega)); (try (have hm1_w_2 : w.heap.size + 2 ≤ w1.heap.size := by omega)); (try (have hl1_w_3 : w.heap.size + 3 < w1.heap.size := by omega)); (try (have hm1_w_3 : w.heap.size + 3 ≤ w1.heap.size := by omega)); (try (have hl1_w_4 : w.heap.size + 4 < w1.heap.size := by omega)); (try (have hm1_w_4 : w.heap.size + 4 ≤ w1.heap.size := by omega)); (try (have hl1_w_5 : w.heap.size + 5 < w1.heap.size := by omega)); (try (have hm1_w_5 : w.heap.size + 5 ≤ w1.heap.size := by omega)); (try (have hl1_w_6 : w.heap.size + 6 < w1.heap.size := by omega)); (try (have hm1_w_6 : w.heap.size + 6 ≤ w1.heap.size := by omega))
    go_wp2_with fail
    go_ret2
    exact NilC.own _ _ _ ⟨rfl, (by repeat (first | with_reducible exact Below.refl _ _ | with_reducible assumption | with_reducible refine below_drewN ?_ _ | with_reducible refine Below.drew ?_ | with_reducible refine below_alloc0 ?_ | with_reducible refine below_alloc ?_ (by simp; try omega) | with_reducible refine below_set ?_ (by simp; try omega) | with_reducible refine below_chain ?_ (by assumption) | (with_reducible refine below_step ?_ (by assumption) (by simp; try omega))))⟩
set_option maxRecDepth 100000 in
set_option maxHeartbeats 4000000 in
theorem ref_LettersTwice (A : Option Addr) (n c : Nat) (l : List Ltr) (i : Int) (w : World) (hn : inB 88 n) (hc : n ≤ c) (h : Sl w (old w) 8 RLtr A n l) :
    Calls Try.prog 7 #[.slice A n c, .int .i64 i] w (OwnRowC Ltr.cs 31 8 w (ltrTwice l i).1 (ltrTwice l i).2) := by
  have hn' := hn.l (by decide)
  have HH := Lib.hid (And.intro h hn)
  have hlen := h.len
  clear h hn
  by_cases h0 : (ltrAt l i).2 = 0
  · obtain ⟨hck, k, x, rfl, hk, hx, e⟩ := ltrAt_ok h0
    rw [hlen] at hk
    have h24 : n ≤ 24 := by rw [← hlen]; exact ltrCheck_le hck
    have hat : ltrTwice l k = if n = 24 then ([], 12) else (insL l k x, 0) := by rw [ltrTwice, if_pos h0, e, Int.toNat_natCast, hlen]
    have hnat := fun w h => ref_letter A n c l k w hn' h
    rw [e] at hnat
    have hxw := HH.out.1.wfLtr x (List.mem_of_getElem? hx)
    have HE := Lib.hid (And.intro hx hxw)
    clear h0 e hx hck hlen hxw
    by_cases hf : n = 24
    · have hf' : (23 : Int) < (n : Int) := by omega
      rw [if_pos hf] at hat
      rw [hat]
      have HF := Lib.hid hf
      clear hat hf
      go_enter Try.func7, Try.ntmps7
      go_wp2_with fail
      refine (hnat _ (HH.out.1.now (by repeat (first | with_reducible exact Below.refl _ _ | with_reducible assumption | with_reducible refine below_drewN ?_ _ | with_reducible refine Below.drew ?_ | with_reducible refine below_alloc0 ?_ | with_reducible refine below_alloc ?_ (by simp; try omega) | with_reducible refine below_set ?_ (by simp; try omega) | with_reducible refine below_chain ?_ (by assumption) | (with_reducible refine below_step ?_ (by assumption) (by simp; try omega)))))).mono ?_; rintro e w1 ⟨rfl, hb1⟩; obtain ⟨hc1, hf1⟩ := bcell hb1; (try simp only [World.heap_drewN, World.cell?_drewN, World.frozen?_drewN] at hc1 hf1); have hz1 := hb1.size; (try simp at hz1); (try (have hy1 := Nat.lt_of_succ_le hz1)); (try (have hx1 := Nat.lt_of_succ_lt hy1)); (try (have hl1_w_0 : w.heap.size < w1.heap.size := by omega)); (try (have hm1_w_0 : w.heap.size ≤ w1.heap.size := by omega)); (try (have hl1_w_1 : w.heap.size + 1 < w1.heap.size := by omega)); (try (have hm1_w_1 : w.heap.size + 1 ≤ w1.heap.size := by omega)); (try (have hl1_w_2 : w.heap.size + 2 < w1.heap.size := by omega)); (try (have hm1_w_2 : w.heap.size + 2 ≤ w1.heap.size := by omega)); (try (have hl1_w_3 : w.heap.size + 3 < w1.heap.size := by omega)); (try (have hm1_w_3 : w.heap.size + 3 ≤ w1.heap.size := by omega)); (try (have hl1_w_4 : w.heap.size + 4 < w1.heap.size := by omega)); (try (have hm1_w_4 : w.heap.size + 4 ≤ w1.heap.size := by omega)); (try (have hl1_w_5 : w.heap.size + 5 < w1.heap.size := by omega)); (try (have hm1_w_5 : w.heap.size + 5 ≤ w1.heap.size := by omega)); (try (have hl1_w_6 : w.heap.size + 6 < w1.heap.size := by omega)); (try (have hm1_w_6 : w.heap.size + 6 ≤ w1.heap.size := by omega))
      go_wp2_with fail
      go_ret2
      exact NilC.own _ _ _ ⟨rfl, (by repeat (first | with_reducible exact Below.refl _ _ | with_reducible assumption | with_reducible refine below_drewN ?_ _ | with_reducible refine Below.drew ?_ | with_reducible refine below_alloc0 ?_ | with_reducible refine below_alloc ?_ (by simp; try omega) | with_reducible refine below_set ?_ (by simp; try omega) | with_reducible refine below_chain ?_ (by assumption) | (with_reducible refine below_step ?_ (by assumption) (by simp; try omega))))⟩
    · have hf' : ¬ (23 : Int) < (n : Int) := by omega
      rw [if_neg hf] at hat
      rw [hat]
      clear hat
      go_enter Try.func7, Try.ntmps7
      go_wp2_with fail
      refine (hnat _ (HH.out.1.now (by repeat (first | with_reducible exact Below.refl _ _ | with_reducible assumption | with_reducible refine below_drewN ?_ _ | with_reducible refine Below.drew ?_ | with_reducible refine below_alloc0 ?_ | with_reducible refine below_alloc ?_ (by simp; try omega) | with_reducible refine below_set ?_ (by simp; try omega) | with_reducible refine below_chain ?_ (by assumption) | (with_reducible refine below_step ?_ (by assumption) (by simp; try omega)))))).mono ?_; rintro e w1 ⟨rfl, hb1⟩
      obtain ⟨b, o, y, hAe, hbl, hly, _, x0, x1, x2, x3, x4, x5, x6, x7⟩ := Ltr_at (HH.out.1.now hb1) hk
      rw [HE.out.1] at hly
      cases hly
      subst hAe
      have hbl' : b < w1.heap.size := hbl
      have hz1 := hb1.size
      clear hbl
      go_wp2_with fail
      go_region_law (go_simp; go_at_call 14; refine (ref_around _ n c l k _ 2 2 [x, x] _ h24 hc hk (by decide) (HH.out.1.now (by repeat (first | with_reducible exact Below.refl _ _ | with_reducible assumption | with_reducible refine below_drewN ?_ _ | with_reducible refine Below.drew ?_ | with_reducible refine below_alloc0 ?_ | with_reducible refine below_alloc ?_ (by simp; try omega) | with_reducible refine below_set ?_ (by simp; try omega) | with_reducible refine below_chain ?_ (by assumption) | (with_reducible refine below_step ?_ (by assumption) (by simp; try omega))))) (Sl.of_block Ltr.cs Ltr.wf lenLtr (l := [x, x]) (t := 31) (fr := (0, 0)) (by exact (heap_alloc_new w1 (.cells ([x, x].flatMap Ltr.cs).toArray 31))) (by intro a ha; simp at ha; subst ha; exact HE.out.2))).mono ?_; rintro e w2 ⟨v2, rfl, ho2, hb2⟩)
      all_goals
        go_wp2_with fail
        go_ret2
        rw [around_two l k x HE.out.1] at ho2
        have hb12 : Below w.heap.size w w2 := by
          refine below_step ?_ hb2 ?_
          · exact (by repeat (first | with_reducible exact Below.refl _ _ | with_reducible assumption | with_reducible refine below_drewN ?_ _ | with_reducible refine Below.drew ?_ | with_reducible refine below_alloc0 ?_ | with_reducible refine below_alloc ?_ (by simp; try omega) | with_reducible refine below_set ?_ (by simp; try omega) | with_reducible refine below_chain ?_ (by assumption) | (with_reducible refine below_step ?_ (by assumption) (by simp; try omega))))
          · (try simp [heap_drew]); omega
        exact ⟨_, rfl, ownsRow_base ho2 (by (try simp [heap_drew]); omega), hb12⟩
  · have h0' : ((ltrAt l i).2 != 0) = true := by simpa using h0
    rw [show ltrTwice l i = ([], (ltrAt l i).2) by rw [ltrTwice, if_neg h0]]
    clear h0
    go_enter Try.func7, Try.ntmps7
    go_wp2_with fail
    refine (ref_letter A n c l i _ hn' (HH.out.1.now (by repeat (first | with_reducible exact Below.refl _ _ | with_reducible assumption | with_reducible refine below_drewN ?_ _ | with_reducible refine Below.drew ?_ | with_reducible refine below_alloc0 ?_ | with_reducible refine below_alloc ?_ (by simp; try omega) | with_reducible refine below_set ?_ (by simp; try omega) | with_reducible refine below_chain ?_ (by assumption) | (with_reducible refine below_step ?_ (by assumption) (by simp; try omega)))))).mono ?_; rintro e w1 ⟨rfl, hb1⟩; obtain ⟨hc1, hf1⟩ := bcell hb1; (try simp only [World.heap_drewN, World.cell?_drewN, World.frozen?_drewN] at hc1 hf1); have hz1 := hb1.size; (try simp at hz1); (try (have hy1 := Nat.lt_of_succ_le hz1)); (try (have hx1 := Nat.lt_of_succ_lt hy1)); (try (have hl1_w_0 : w.heap.size < w1.heap.size := by omega)); (try (have hm1_w_0 : w.heap.size ≤ w1.heap.size := by omega)); (try (have hl1_w_1 : w.heap.size + 1 < w1.heap.size := by omega)); (try (have hm1_w_1 : w.heap.size + 1 ≤ w1.heap.size := by omega)); (try (have hl1_w_2 : w.heap.size + 2 < w1.heap.size := by omega)); (try (have hm1_w_2 : w.heap.size + 2 ≤ w1.heap.size := by omega)); (try (have hl1_w_3 : w.heap.size + 3 < w1.heap.size := by omega)); (try (have hm1_w_3 : w.heap.size + 3 ≤ w1.heap.size := by omega)); (try (have hl1_w_4 : w.heap.size + 4 < w1.heap.size := by omega)); (try (have hm1_w_4 : w.heap.size + 4 ≤ w1.heap.size := by omega)); (try (have hl1_w_5 : w.heap.size + 5 < w1.heap.size := by omega)); (try (have hm1_w_5 : w.heap.size + 5 ≤ w1.heap.size := by omega)); (try (have hl1_w_6 : w.heap.size + 6 < w1.heap.size := by omega)); (try (have hm1_w_6 : w.heap.size + 6 ≤ w1.heap.size := by omega))
    go_wp2_with fail
    go_ret2
    exact NilC.own _ _ _ ⟨rfl, (by repeat (first | with_reducible exact Below.refl _ _ | with_reducible assumption | with_reducible refine below_drewN ?_ _ | with_reducible refine Below.drew ?_ | with_reducible refine below_alloc0 ?_ | with_reducible refine below_alloc ?_ (by simp; try omega) | with_reducible refine below_set ?_ (by simp; try omega) | with_reducible refine below_chain ?_ (by assumption) | (with_reducible refine below_step ?_ (by assumption) (by simp; try omega))))⟩
end Go.Proofs.Ytdngggllkjahcaa
