/- net.Lose and net.Come, the reference LettersCome. -/
import Derived.Test.YtdngggllkjahcaaNet2r
import Derived.Test.YtdngggllkjahcaaNet3
namespace Go.Proofs.Ytdngggllkjahcaa
open Go.RowKit

def ltrLose (l : List Ltr) (i : Int) : List Ltr × Int := if (ltrAt l i).2 = 0 then (l.eraseIdx i.toNat, 0) else ([], (ltrAt l i).2)
def ltrCome (l : List Ltr) (i : Int) : Ltr × List Ltr × Int := if (ltrAt l i).2 = 0 then if (ltrAt l i).1.answer.k = 0 then (noLtr, [], 2) else ((ltrAt l i).1, l.eraseIdx i.toNat, 0) else (noLtr, [], (ltrAt l i).2)
def RetLRC (w : World) (x : Ltr) (l : List Ltr) (c : Int) (E : Ending) (w' : World) : Prop :=
  ∃ v, E = .returned (.tuple #[.agg #[.string x.field, .int .i64 x.id, .int .i64 x.key.k, .int .i64 x.key.n, .string x.key.s, .int .i64 x.answer.k, .int .i64 x.answer.n, .string x.answer.s], v, .int .i64 c]) ∧ w'.ownsRow w.heap.size 31 8 v l.length (l.flatMap Ltr.cs) ∧ Below w.heap.size w w'
theorem ownsRow_set {w : World} {base : Nat} {e : TypeId} {size : Nat} {v : Value} {n : Nat} {xs : List Value} (h : w.ownsRow base e size v n xs) (p : Addr) (u : Value) (hp : p.block < base) : (w.setCell p u).ownsRow base e size v n xs := by
  refine ⟨h.1, ?_⟩
  rcases h.2 with hn | ⟨g, cap, cur, rfl, hbg, hgg, rest⟩
  · exact .inl hn
  · refine .inr ⟨g, cap, cur, rfl, hbg, ?_, rest⟩
    rw [heap_setCell_other w p g u (by omega)]
    exact hgg
theorem around_nil (l : List Ltr) (k : Nat) : around l k [] = l.eraseIdx k := by rw [around, List.eraseIdx_eq_take_drop_succ, List.append_nil]
set_option maxRecDepth 100000 in
set_option maxHeartbeats 4000000 in
theorem net_Lose (A : Option Addr) (n c : Nat) (l : List Ltr) (i : Int) (w : World) (hn : inB 88 n) (h : Sl w (old w) 8 RLtr A n l) :
    Calls Try.prog 4 #[.slice A n c, .int .i64 i] w (OwnRowC Ltr.cs 31 8 w (ltrLose l i).1 (ltrLose l i).2) := by
  have hn' := hn.l (by decide)
  have HH := Lib.hid (And.intro h hn)
  have hlen := h.len
  clear h hn
  by_cases h0 : (ltrAt l i).2 = 0
  · obtain ⟨hck, k, x, rfl, hk, hx, e⟩ := ltrAt_ok h0
    rw [hlen] at hk
    have h24 : n ≤ 24 := by rw [← hlen]; exact ltrCheck_le hck
    have hat : ltrLose l k = (l.eraseIdx k, 0) := by rw [ltrLose, if_pos h0, Int.toNat_natCast]
    rw [hat]
    have hnat := fun w h => net_at A n c l k w hn' h
    rw [e] at hnat
    have hee : (l.eraseIdx k).length = n - 1 := by rw [List.length_eraseIdx, hlen, if_pos hk]
    have HE := Lib.hid (And.intro hlen hee)
    clear h0 e hx hck hlen hee hat
    go_enter Try.func4, Try.ntmps4
    go_wp2_with fail
    refine (hnat _ (HH.out.1.now (by repeat (first | with_reducible exact Below.refl _ _ | with_reducible assumption | with_reducible refine below_drewN ?_ _ | with_reducible refine Below.drew ?_ | with_reducible refine below_alloc0 ?_ | with_reducible refine below_alloc ?_ (by simp; try omega) | with_reducible refine below_set ?_ (by simp; try omega) | with_reducible refine below_chain ?_ (by assumption) | (with_reducible refine below_step ?_ (by assumption) (by simp; try omega)))))).mono ?_; rintro e w1 ⟨rfl, hb1⟩; obtain ⟨hc1, hf1⟩ := bcell hb1; (try simp only [World.heap_drewN, World.cell?_drewN, World.frozen?_drewN] at hc1 hf1); have hz1 := hb1.size; (try simp at hz1); (try (have hy1 := Nat.lt_of_succ_le hz1)); (try (have hx1 := Nat.lt_of_succ_lt hy1)); (try (have hl1_w_0 : w.heap.size < w1.heap.size := by omega)); (try (have hm1_w_0 : w.heap.size ≤ w1.heap.size := by omega)); (try (have hl1_w_1 : w.heap.size + 1 < w1.heap.size := by omega)); (try (have hm1_w_1 : w.heap.size + 1 ≤ w1.heap.size := by omega)); (try (have hl1_w_2 : w.heap.size + 2 < w1.heap.size := by omega)); (try (have hm1_w_2 : w.heap.size + 2 ≤ w1.heap.size := by omega)); (try (have hl1_w_3 : w.heap.size + 3 < w1.heap.size := by omega)); (try (have hm1_w_3 : w.heap.size + 3 ≤ w1.heap.size := by omega)); (try (have hl1_w_4 : w.heap.size + 4 < w1.heap.size := by omega)); (try (have hm1_w_4 : w.heap.size + 4 ≤ w1.heap.size := by omega)); (try (have hl1_w_5 : w.heap.size + 5 < w1.heap.size := by omega)); (try (have hm1_w_5 : w.heap.size + 5 ≤ w1.heap.size := by omega)); (try (have hl1_w_6 : w.heap.size + 6 < w1.heap.size := by omega)); (try (have hm1_w_6 : w.heap.size + 6 ≤ w1.heap.size := by omega))
    go_wp2_with fail
    refine (clone_Ltr A n c l _ HH.out.2 (HH.out.1.now (by repeat (first | with_reducible exact Below.refl _ _ | with_reducible assumption | with_reducible refine below_drewN ?_ _ | with_reducible refine Below.drew ?_ | with_reducible refine below_alloc0 ?_ | with_reducible refine below_alloc ?_ (by simp; try omega) | with_reducible refine below_set ?_ (by simp; try omega) | with_reducible refine below_chain ?_ (by assumption) | (with_reducible refine below_step ?_ (by assumption) (by simp; try omega)))))).mono ?_; rintro e w3 ⟨v3, rfl, ho3, hb3⟩
    rw [HE.out.1] at ho3
    obtain ⟨g, cap, rfl, hg1, hg2⟩ := ho3.form (by omega)
    have hd := delete_Ltr _ g cap n k (k + 1) l w3 ho3 hk HE.out.1 rfl
    rw [Int.natCast_add, Int.natCast_one] at hd
    clear ho3
    go_wp2_with fail
    refine hd.mono ?_; rintro e w4 ⟨rfl, ho4, hg4⟩
    clear hd
    have hb04 : Below w.heap.size w w4 := ((by repeat (first | with_reducible exact Below.refl _ _ | with_reducible assumption | with_reducible refine below_drewN ?_ _ | with_reducible refine Below.drew ?_ | with_reducible refine below_alloc0 ?_ | with_reducible refine below_alloc ?_ (by simp; try omega) | with_reducible refine below_set ?_ (by simp; try omega) | with_reducible refine below_chain ?_ (by assumption) | (with_reducible refine below_step ?_ (by assumption) (by simp; try omega)))) : Below w.heap.size w w3).grown hg4 (by have := hb3.size; simp at this; omega) (fun k' hk' => by cases hk'; simp at hg1; omega)
    obtain ⟨A4, c4, e4, hc4, hs4⟩ := ownLtr ho4 HE.out.2 (fun a ha => HH.out.1.wfLtr a (List.mem_of_mem_eraseIdx ha))
    cases e4
    have HS := Lib.hid hs4
    clear ho4 hs4
    go_wp2_with fail
    refine (clone_Ltr _ (n - 1) cap (l.eraseIdx k) _ (by unfold inB; omega) HS.out).mono ?_; rintro e w5 ⟨v5, rfl, ho5, hb5⟩
    go_wp2_with fail
    go_ret2
    refine ⟨_, rfl, ownsRow_base ho5 hb04.size, below_chain hb04 hb5⟩
  · have h0' : ((ltrAt l i).2 != 0) = true := by simpa using h0
    rw [show ltrLose l i = ([], (ltrAt l i).2) by rw [ltrLose, if_neg h0]]
    clear h0
    go_enter Try.func4, Try.ntmps4
    go_wp2_with fail
    refine (net_at A n c l i _ hn' (HH.out.1.now (by repeat (first | with_reducible exact Below.refl _ _ | with_reducible assumption | with_reducible refine below_drewN ?_ _ | with_reducible refine Below.drew ?_ | with_reducible refine below_alloc0 ?_ | with_reducible refine below_alloc ?_ (by simp; try omega) | with_reducible refine below_set ?_ (by simp; try omega) | with_reducible refine below_chain ?_ (by assumption) | (with_reducible refine below_step ?_ (by assumption) (by simp; try omega)))))).mono ?_; rintro e w1 ⟨rfl, hb1⟩; obtain ⟨hc1, hf1⟩ := bcell hb1; (try simp only [World.heap_drewN, World.cell?_drewN, World.frozen?_drewN] at hc1 hf1); have hz1 := hb1.size; (try simp at hz1); (try (have hy1 := Nat.lt_of_succ_le hz1)); (try (have hx1 := Nat.lt_of_succ_lt hy1)); (try (have hl1_w_0 : w.heap.size < w1.heap.size := by omega)); (try (have hm1_w_0 : w.heap.size ≤ w1.heap.size := by omega)); (try (have hl1_w_1 : w.heap.size + 1 < w1.heap.size := by omega)); (try (have hm1_w_1 : w.heap.size + 1 ≤ w1.heap.size := by omega)); (try (have hl1_w_2 : w.heap.size + 2 < w1.heap.size := by omega)); (try (have hm1_w_2 : w.heap.size + 2 ≤ w1.heap.size := by omega)); (try (have hl1_w_3 : w.heap.size + 3 < w1.heap.size := by omega)); (try (have hm1_w_3 : w.heap.size + 3 ≤ w1.heap.size := by omega)); (try (have hl1_w_4 : w.heap.size + 4 < w1.heap.size := by omega)); (try (have hm1_w_4 : w.heap.size + 4 ≤ w1.heap.size := by omega)); (try (have hl1_w_5 : w.heap.size + 5 < w1.heap.size := by omega)); (try (have hm1_w_5 : w.heap.size + 5 ≤ w1.heap.size := by omega)); (try (have hl1_w_6 : w.heap.size + 6 < w1.heap.size := by omega)); (try (have hm1_w_6 : w.heap.size + 6 ≤ w1.heap.size := by omega))
    go_wp2_with fail
    go_ret2
    exact NilC.own _ _ _ ⟨rfl, (by repeat (first | with_reducible exact Below.refl _ _ | with_reducible assumption | with_reducible refine below_drewN ?_ _ | with_reducible refine Below.drew ?_ | with_reducible refine below_alloc0 ?_ | with_reducible refine below_alloc ?_ (by simp; try omega) | with_reducible refine below_set ?_ (by simp; try omega) | with_reducible refine below_chain ?_ (by assumption) | (with_reducible refine below_step ?_ (by assumption) (by simp; try omega))))⟩
end Go.Proofs.Ytdngggllkjahcaa
