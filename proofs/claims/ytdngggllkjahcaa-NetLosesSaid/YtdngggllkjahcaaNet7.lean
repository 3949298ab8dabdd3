/- net.Twice. -/
import Derived.Test.YtdngggllkjahcaaNet4
import Derived.Test.YtdngggllkjahcaaInsT
namespace Go.Proofs.Ytdngggllkjahcaa
open Go.RowKit

def ltrTwice (l : List Ltr) (i : Int) : List Ltr × Int := if (ltrAt l i).2 = 0 then if l.length = 24 then ([], 12) else (insL l i.toNat (ltrAt l i).1, 0) else ([], (ltrAt l i).2)
theorem alloc2_get (w : World) (o1 o2 : Obj) : ((w.alloc o1).drew.alloc o2).heap[w.heap.size + 1]? = some o2 := by
  have h := heap_alloc_new ((w.alloc o1).drew) o2
  have e : ((w.alloc o1).drew).heap.size = w.heap.size + 1 := by rw [heap_drew]; simp
  rw [e] at h
  exact h
def InsPost (base : Nat) (w : World) (m : Nat) (l : List Ltr) (e : Ending) (w' : World) : Prop := ∃ v, e = .returned v ∧ w'.ownsRow base 31 8 v m (l.flatMap Ltr.cs) ∧ Below base w w' ∧ w.heap.size ≤ w'.heap.size
theorem insert_Ltr (base g cap n i G : Nat) (l : List Ltr) (y : Ltr) (w : World) (hown : w.ownsRow base 31 8 (.slice (some ⟨g, 0, none⟩) n cap) n (l.flatMap Ltr.cs)) (hl : l.length = n) (hi : i < n) (hn : n ≤ 24)
    (hbase : base ≤ w.heap.size) (hG : w.heap[G]? = some (.cells y.cs.toArray 31 (0, 0))) (hGg : G ≠ g) :
    Calls Try.prog 12 #[.slice (some ⟨g, 0, none⟩) n cap, .int .i64 i, .slice (some ⟨G, 0, none⟩) 1 1] w (InsPost base w (n + 1) (insL l i y)) := by
  rcases Nat.lt_or_ge cap (n + 1) with h | h
  · exact insert_grow base g cap n i G l y w hown hl hi hn h hbase hG
  · exact insert_room base g cap n i G l y w hown hl hi hn h hbase hG hGg
set_option maxRecDepth 100000 in
set_option maxHeartbeats 4000000 in
theorem net_Twice (A : Option Addr) (n c : Nat) (l : List Ltr) (i : Int) (w : World) (hn : inB 88 n) (h : Sl w (old w) 8 RLtr A n l) :
    Calls Try.prog 5 #[.slice A n c, .int .i64 i] w (OwnRowC Ltr.cs 31 8 w (ltrTwice l i).1 (ltrTwice l i).2) := by
  have hn' := hn.l (by decide)
  have HH := Lib.hid (And.intro h hn)
  have hlen := h.len
  clear h hn
  by_cases h0 : (ltrAt l i).2 = 0
  · obtain ⟨hck, k, x, rfl, hk, hx, e⟩ := ltrAt_ok h0
    rw [hlen] at hk
    have h24 : n ≤ 24 := by rw [← hlen]; exact ltrCheck_le hck
    have hat : ltrTwice l k = if n = 24 then ([], 12) else (insL l k x, 0) := by rw [ltrTwice, if_pos h0, e, Int.toNat_natCast, hlen]
    have hnat := fun w h => net_at A n c l k w hn' h
    rw [e] at hnat
    have hii := insL_len (l := l) (i := k) x (by omega)
    rw [hlen] at hii
    have hiw : ∀ a ∈ insL l k x, a.wf := by
      intro a ha
      have hxw := HH.out.1.wfLtr x (List.mem_of_getElem? hx)
      rcases List.mem_append.1 ha with h | h
      · exact HH.out.1.wfLtr a (List.mem_of_mem_take h)
      · rcases List.mem_cons.1 h with h | h
        · subst h; exact hxw
        · exact HH.out.1.wfLtr a (List.mem_of_mem_drop h)
    have HE := Lib.hid (And.intro hlen (And.intro hii hiw))
    clear h0 e hx hck hlen hii hiw
    by_cases hf : n = 24
    · have hf' : ((n : Int) == 24) = true := by simp; omega
      rw [if_pos hf] at hat
      rw [hat]
      have HF := Lib.hid hf
      clear hat hf
      go_enter Try.func5, Try.ntmps5
      go_wp2_with fail
      refine (hnat _ (HH.out.1.now (by repeat (first | with_reducible exact Below.refl _ _ | with_reducible assumption | with_reducible refine below_drewN ?_ _ | with_reducible refine Below.drew ?_ | with_reducible refine below_alloc0 ?_ | with_reducible refine below_alloc ?_ (by simp; try omega) | with_reducible refine below_set ?_ (by simp; try omega) | with_reducible refine below_chain ?_ (by assumption) | (with_reducible refine below_step ?_ (by assumption) (by simp; try omega)))))).mono ?_; rintro e w1 ⟨rfl, hb1⟩; obtain ⟨hc1, hf1⟩ := bcell hb1; (try simp only [World.heap_drewN, World.cell?_drewN, World.frozen?_drewN] at hc1 hf1); have hz1 := hb1.size; (try simp at hz1); (try (have hy1 := Nat.lt_of_succ_le hz1)); (try (have hx1 := Nat.lt_of_succ_lt hy1)); (try (have hl1_w_0 : w.heap.size < w1.heap.size := by omega)); (try (have hm1_w_0 : w.heap.size ≤ w1.heap.size := by omega)); (try (have hl1_w_1 : w.heap.size + 1 < w1.heap.size := by omega)); (try (have hm1_w_1 : w.heap.size + 1 ≤ w1.heap.size := by omega)); (try (have hl1_w_2 : w.heap.size + 2 < w1.heap.size := by omega)); (try (have hm1_w_2 : w.heap.size + 2 ≤ w1.heap.size := by omega)); (try (have hl1_w_3 : w.heap.size + 3 < w1.heap.size := by omega)); (try (have hm1_w_3 : w.heap.size + 3 ≤ w1.heap.size := by omega)); (try (have hl1_w_4 : w.heap.size + 4 < w1.heap.size := by omega)); (try (have hm1_w_4 : w.heap.size + 4 ≤ w1.heap.size := by omega)); (try (have hl1_w_5 : w.heap.size + 5 < w1.heap.size := by omega)); (try (have hm1_w_5 : w.heap.size + 5 ≤ w1.heap.size := by omega)); (try (have hl1_w_6 : w.heap.size + 6 < w1.heap.size := by omega)); (try (have hm1_w_6 : w.heap.size + 6 ≤ w1.heap.size := by omega))
      go_wp2_with fail
      go_ret2
      exact NilC.own _ _ _ ⟨rfl, (by repeat (first | with_reducible exact Below.refl _ _ | with_reducible assumption | with_reducible refine below_drewN ?_ _ | with_reducible refine Below.drew ?_ | with_reducible refine below_alloc0 ?_ | with_reducible refine below_alloc ?_ (by simp; try omega) | with_reducible refine below_set ?_ (by simp; try omega) | with_reducible refine below_chain ?_ (by assumption) | (with_reducible refine below_step ?_ (by assumption) (by simp; try omega))))⟩
    · have hf' : ((n : Int) == 24) = false := by simp; omega
      rw [if_neg hf] at hat
      rw [hat]
      clear hat
      go_enter Try.func5, Try.ntmps5
      go_wp2_with fail
      refine (hnat _ (HH.out.1.now (by repeat (first | with_reducible exact Below.refl _ _ | with_reducible assumption | with_reducible refine below_drewN ?_ _ | with_reducible refine Below.drew ?_ | with_reducible refine below_alloc0 ?_ | with_reducible refine below_alloc ?_ (by simp; try omega) | with_reducible refine below_set ?_ (by simp; try omega) | with_reducible refine below_chain ?_ (by assumption) | (with_reducible refine below_step ?_ (by assumption) (by simp; try omega)))))).mono ?_; rintro e w1 ⟨rfl, hb1⟩; obtain ⟨hc1, hf1⟩ := bcell hb1; (try simp only [World.heap_drewN, World.cell?_drewN, World.frozen?_drewN] at hc1 hf1); have hz1 := hb1.size; (try simp at hz1); (try (have hy1 := Nat.lt_of_succ_le hz1)); (try (have hx1 := Nat.lt_of_succ_lt hy1)); (try (have hl1_w_0 : w.heap.size < w1.heap.size := by omega)); (try (have hm1_w_0 : w.heap.size ≤ w1.heap.size := by omega)); (try (have hl1_w_1 : w.heap.size + 1 < w1.heap.size := by omega)); (try (have hm1_w_1 : w.heap.size + 1 ≤ w1.heap.size := by omega)); (try (have hl1_w_2 : w.heap.size + 2 < w1.heap.size := by omega)); (try (have hm1_w_2 : w.heap.size + 2 ≤ w1.heap.size := by omega)); (try (have hl1_w_3 : w.heap.size + 3 < w1.heap.size := by omega)); (try (have hm1_w_3 : w.heap.size + 3 ≤ w1.heap.size := by omega)); (try (have hl1_w_4 : w.heap.size + 4 < w1.heap.size := by omega)); (try (have hm1_w_4 : w.heap.size + 4 ≤ w1.heap.size := by omega)); (try (have hl1_w_5 : w.heap.size + 5 < w1.heap.size := by omega)); (try (have hm1_w_5 : w.heap.size + 5 ≤ w1.heap.size := by omega)); (try (have hl1_w_6 : w.heap.size + 6 < w1.heap.size := by omega)); (try (have hm1_w_6 : w.heap.size + 6 ≤ w1.heap.size := by omega))
      go_wp2_with fail
      go_region_law (first
        | (go_simp; go_at_call 10; refine (clone_Ltr A n c l _ HH.out.2 (HH.out.1.now (by repeat (first | with_reducible exact Below.refl _ _ | with_reducible assumption | with_reducible refine below_drewN ?_ _ | with_reducible refine Below.drew ?_ | with_reducible refine below_alloc0 ?_ | with_reducible refine below_alloc ?_ (by simp; try omega) | with_reducible refine below_set ?_ (by simp; try omega) | with_reducible refine below_chain ?_ (by assumption) | (with_reducible refine below_step ?_ (by assumption) (by simp; try omega)))))).mono ?_; rintro e w3 ⟨v3, rfl, ho3, hb3⟩; rw [HE.out.1] at ho3; obtain ⟨g, cap, rfl, hg1, hg2⟩ := ho3.form (by omega); obtain ⟨hc3, hf3⟩ := bcell hb3; (try simp only [World.heap_drewN, World.cell?_drewN, World.frozen?_drewN] at hc3 hf3); have hz3 := hb3.size; (try simp at hz3); (try (have hy3 := Nat.lt_of_succ_le hz3)); (try (have hx3 := Nat.lt_of_succ_lt hy3)); (try (have hl3_w_0 : w.heap.size < w3.heap.size := by omega)); (try (have hm3_w_0 : w.heap.size ≤ w3.heap.size := by omega)); (try (have hl3_w_1 : w.heap.size + 1 < w3.heap.size := by omega)); (try (have hm3_w_1 : w.heap.size + 1 ≤ w3.heap.size := by omega)); (try (have hl3_w_2 : w.heap.size + 2 < w3.heap.size := by omega)); (try (have hm3_w_2 : w.heap.size + 2 ≤ w3.heap.size := by omega)); (try (have hl3_w_3 : w.heap.size + 3 < w3.heap.size := by omega)); (try (have hm3_w_3 : w.heap.size + 3 ≤ w3.heap.size := by omega)); (try (have hl3_w_4 : w.heap.size + 4 < w3.heap.size := by omega)); (try (have hm3_w_4 : w.heap.size + 4 ≤ w3.heap.size := by omega)); (try (have hl3_w_5 : w.heap.size + 5 < w3.heap.size := by omega)); (try (have hm3_w_5 : w.heap.size + 5 ≤ w3.heap.size := by omega)); (try (have hl3_w_6 : w.heap.size + 6 < w3.heap.size := by omega)); (try (have hm3_w_6 : w.heap.size + 6 ≤ w3.heap.size := by omega)); (try (have hl3_w1_0 : w1.heap.size < w3.heap.size := by omega)); (try (have hm3_w1_0 : w1.heap.size ≤ w3.heap.size := by omega)); (try (have hl3_w1_1 : w1.heap.size + 1 < w3.heap.size := by omega)); (try (have hm3_w1_1 : w1.heap.size + 1 ≤ w3.heap.size := by omega)); (try (have hl3_w1_2 : w1.heap.size + 2 < w3.heap.size := by omega)); (try (have hm3_w1_2 : w1.heap.size + 2 ≤ w3.heap.size := by omega)); (try (have hl3_w1_3 : w1.heap.size + 3 < w3.heap.size := by omega)); (try (have hm3_w1_3 : w1.heap.size + 3 ≤ w3.heap.size := by omega)); (try (have hl3_w1_4 : w1.heap.size + 4 < w3.heap.size := by omega)); (try (have hm3_w1_4 : w1.heap.size + 4 ≤ w3.heap.size := by omega)); (try (have hl3_w1_5 : w1.heap.size + 5 < w3.heap.size := by omega)); (try (have hm3_w1_5 : w1.heap.size + 5 ≤ w3.heap.size := by omega)); (try (have hl3_w1_6 : w1.heap.size + 6 < w3.heap.size := by omega)); (try (have hm3_w1_6 : w1.heap.size + 6 ≤ w3.heap.size := by omega)); (try simp only [heap_drew, World.cell?_drew] at hc3 hz3))
        | (go_simp; go_at_call 10; refine (clone_Ltr A4 (n + 1) c4 (insL l k x) _ (by unfold inB; omega) hs4).mono ?_; rintro e w5 ⟨v5, rfl, ho5, hb5⟩)
        | (go_simp; go_at_call 12; refine (insert_Ltr _ g cap n k _ l x _ (by first | exact ho3 | exact ho3.alloc _) HE.out.1 hk h24 (by have := hb3.size; (try simp [heap_drew] at this ⊢); omega) (by first | exact heap_alloc_new _ _ | exact (hb3.block (w1.heap.size + 1) (by simp [heap_drew])).trans (alloc2_get _ _ _)) (by first | omega | (simp [heap_drew] at hg1; omega))).mono ?_; rintro e w4 ⟨v4, rfl, ho4, hb4, hz4⟩; obtain ⟨A4, c4, rfl, _, hs4⟩ := ownLtr ho4 HE.out.2.1 HE.out.2.2))
      all_goals
        go_wp2_with fail
        go_ret2
        have hb13 : Below w.heap.size w w3 := (by repeat (first | with_reducible exact Below.refl _ _ | with_reducible assumption | with_reducible refine below_drewN ?_ _ | with_reducible refine Below.drew ?_ | with_reducible refine below_alloc0 ?_ | with_reducible refine below_alloc ?_ (by simp; try omega) | with_reducible refine below_set ?_ (by simp; try omega) | with_reducible refine below_chain ?_ (by assumption) | (with_reducible refine below_step ?_ (by assumption) (by simp; try omega))))
        have hw13 := hb13.size
        have hb34 : Below w.heap.size w w4 := by
          refine below_step ?_ hb4 ?_
          · exact (by repeat (first | with_reducible exact Below.refl _ _ | with_reducible assumption | with_reducible refine below_drewN ?_ _ | with_reducible refine Below.drew ?_ | with_reducible refine below_alloc0 ?_ | with_reducible refine below_alloc ?_ (by simp; try omega) | with_reducible refine below_set ?_ (by simp; try omega) | with_reducible refine below_chain ?_ (by assumption) | (with_reducible refine below_step ?_ (by assumption) (by simp; try omega))))
          · (try simp [heap_drew]); omega
        refine ⟨_, rfl, ownsRow_base ho5 hb34.size, below_chain hb34 hb5⟩
  · have h0' : ((ltrAt l i).2 != 0) = true := by simpa using h0
    rw [show ltrTwice l i = ([], (ltrAt l i).2) by rw [ltrTwice, if_neg h0]]
    clear h0
    go_enter Try.func5, Try.ntmps5
    go_wp2_with fail
    refine (net_at A n c l i _ hn' (HH.out.1.now (by repeat (first | with_reducible exact Below.refl _ _ | with_reducible assumption | with_reducible refine below_drewN ?_ _ | with_reducible refine Below.drew ?_ | with_reducible refine below_alloc0 ?_ | with_reducible refine below_alloc ?_ (by simp; try omega) | with_reducible refine below_set ?_ (by simp; try omega) | with_reducible refine below_chain ?_ (by assumption) | (with_reducible refine below_step ?_ (by assumption) (by simp; try omega)))))).mono ?_; rintro e w1 ⟨rfl, hb1⟩; obtain ⟨hc1, hf1⟩ := bcell hb1; (try simp only [World.heap_drewN, World.cell?_drewN, World.frozen?_drewN] at hc1 hf1); have hz1 := hb1.size; (try simp at hz1); (try (have hy1 := Nat.lt_of_succ_le hz1)); (try (have hx1 := Nat.lt_of_succ_lt hy1)); (try (have hl1_w_0 : w.heap.size < w1.heap.size := by omega)); (try (have hm1_w_0 : w.heap.size ≤ w1.heap.size := by omega)); (try (have hl1_w_1 : w.heap.size + 1 < w1.heap.size := by omega)); (try (have hm1_w_1 : w.heap.size + 1 ≤ w1.heap.size := by omega)); (try (have hl1_w_2 : w.heap.size + 2 < w1.heap.size := by omega)); (try (have hm1_w_2 : w.heap.size + 2 ≤ w1.heap.size := by omega)); (try (have hl1_w_3 : w.heap.size + 3 < w1.heap.size := by omega)); (try (have hm1_w_3 : w.heap.size + 3 ≤ w1.heap.size := by omega)); (try (have hl1_w_4 : w.heap.size + 4 < w1.heap.size := by omega)); (try (have hm1_w_4 : w.heap.size + 4 ≤ w1.heap.size := by omega)); (try (have hl1_w_5 : w.heap.size + 5 < w1.heap.size := by omega)); (try (have hm1_w_5 : w.heap.size + 5 ≤ w1.heap.size := by omega)); (try (have hl1_w_6 : w.heap.size + 6 < w1.heap.size := by omega)); (try (have hm1_w_6 : w.heap.size + 6 ≤ w1.heap.size := by omega))
    go_wp2_with fail
    go_ret2
    exact NilC.own _ _ _ ⟨rfl, (by repeat (first | with_reducible exact Below.refl _ _ | with_reducible assumption | with_reducible refine below_drewN ?_ _ | with_reducible refine Below.drew ?_ | with_reducible refine below_alloc0 ?_ | with_reducible refine below_alloc ?_ (by simp; try omega) | with_reducible refine below_set ?_ (by simp; try omega) | with_reducible refine below_chain ?_ (by assumption) | (with_reducible refine below_step ?_ (by assumption) (by simp; try omega))))⟩
end Go.Proofs.Ytdngggllkjahcaa
