/- The reference LettersCome. -/
import Derived.Test.YtiplgdplfbeahaaNet4
import Derived.Deep.DeepCutAuto
namespace Go.Proofs.Ytiplgdplfbeahaa
open Go.RowKit

set_option maxRecDepth 100000 in
set_option maxHeartbeats 4000000 in
theorem ref_LettersCome (A : Option Addr) (n c : Nat) (l : List Ltr) (i : Int) (w : World) (hn : inB 88 n) (hc : n ≤ c) (h : Sl w (old w) 8 RLtr A n l) :
    Calls Try.prog 51 #[.slice A n c, .int .i64 i] w (RetLRC w (ltrCome l i).1 (ltrCome l i).2.1 (ltrCome l i).2.2) := by
  have hn' := hn.l (by decide)
  have HH := Lib.hid (And.intro h hn)
  have hlen := h.len
  clear h hn
  by_cases h0 : (ltrAt l i).2 = 0
  · obtain ⟨hck, k, x, rfl, hk, hx, e⟩ := ltrAt_ok h0
    have hok := ltrCheck_ok hck hx
    rw [hlen] at hk
    have h24 : n ≤ 24 := by rw [← hlen]; exact ltrCheck_le hck
    have hat : ltrCome l k = if x.answer.k = 0 then (noLtr, [], 2) else (x, l.eraseIdx k, 0) := by rw [ltrCome, if_pos h0, e, Int.toNat_natCast]
    have hnat := fun w h => ref_letter A n c l k w hn' h
    rw [e] at hnat
    have HX := Lib.hid hx
    clear h0 e hx hck hlen
    have heq := fun w => run_eql_Val w x.answer.k x.answer.n 0 0 x.answer.s ⟨#[]⟩
    rcases hok with ⟨ha, hz⟩ | ⟨ha, hz⟩
    · have hq : valEq ⟨x.answer.k, x.answer.n, x.answer.s⟩ ⟨0, 0, ⟨#[]⟩⟩ = true := (valEq_iff _ _).2 hz
      rw [if_pos ha] at hat
      rw [hat]
      clear ha hat hz
      go_enter Try.func51, Try.ntmps51
      go_wp2_with fail
      refine (hnat _ (HH.out.1.now (by repeat (first | with_reducible exact Below.refl _ _ | with_reducible assumption | with_reducible refine below_drewN ?_ _ | with_reducible refine Below.drew ?_ | with_reducible refine below_alloc0 ?_ | with_reducible refine below_alloc ?_ (by simp; try omega) | with_reducible refine below_set ?_ (by simp; try omega) | with_reducible refine below_chain ?_ (by assumption) | (with_reducible refine below_step ?_ (by assumption) (by simp; try omega)))))).mono ?_; rintro e w1 ⟨rfl, hb1⟩
      obtain ⟨b, o, y, hAe, hbl, hly, _, x0, x1, x2, x3, x4, x5, x6, x7⟩ := Ltr_at ((HH.out.1.now ((Below.refl w.heap.size w).alloc (Nat.le_refl _) _)).now hb1) hk
      rw [HX.out] at hly
      cases hly
      subst hAe
      have hbl' : b < w1.heap.size := hbl
      clear hbl
      obtain ⟨hc1, hf1⟩ := bcell hb1; (try simp only [World.heap_drewN, World.cell?_drewN, World.frozen?_drewN] at hc1 hf1); have hz1 := hb1.size; (try simp at hz1); (try (have hy1 := Nat.lt_of_succ_le hz1)); (try (have hx1 := Nat.lt_of_succ_lt hy1)); (try (have hl1_w_0 : w.heap.size < w1.heap.size := by omega)); (try (have hm1_w_0 : w.heap.size ≤ w1.heap.size := by omega)); (try (have hl1_w_1 : w.heap.size + 1 < w1.heap.size := by omega)); (try (have hm1_w_1 : w.heap.size + 1 ≤ w1.heap.size := by omega)); (try (have hl1_w_2 : w.heap.size + 2 < w1.heap.size := by omega)); (try (have hm1_w_2 : w.heap.size + 2 ≤ w1.heap.size := by omega)); (try (have hl1_w_3 : w.heap.size + 3 < w1.heap.size := by omega)); (try (have hm1_w_3 : w.heap.size + 3 ≤ w1.heap.size := by omega)); (try (have hl1_w_4 : w.heap.size + 4 < w1.heap.size := by omega)); (try (have hm1_w_4 : w.heap.size + 4 ≤ w1.heap.size := by omega)); (try (have hl1_w_5 : w.heap.size + 5 < w1.heap.size := by omega)); (try (have hm1_w_5 : w.heap.size + 5 ≤ w1.heap.size := by omega)); (try (have hl1_w_6 : w.heap.size + 6 < w1.heap.size := by omega)); (try (have hm1_w_6 : w.heap.size + 6 ≤ w1.heap.size := by omega))
      go_wp2_with fail
      refine bodyPost_ret (v := .tuple #[.agg #[.string ⟨#[]⟩, .int .i64 0, .int .i64 0, .int .i64 0, .string ⟨#[]⟩, .int .i64 0, .int .i64 0, .string ⟨#[]⟩], .slice none 0 0, .int .i64 2]) (by first | (simp [results, Try.results51, go_sem, hc1]; done) | (simp [results, Try.results51, go_sem, *]; done)) rfl ?_
      exact ⟨_, rfl, by simpa using World.ownsRow_nil _ _ _ _, (by repeat (first | with_reducible exact Below.refl _ _ | with_reducible assumption | with_reducible refine below_drewN ?_ _ | with_reducible refine Below.drew ?_ | with_reducible refine below_alloc0 ?_ | with_reducible refine below_alloc ?_ (by simp; try omega) | with_reducible refine below_set ?_ (by simp; try omega) | with_reducible refine below_chain ?_ (by assumption) | (with_reducible refine below_step ?_ (by assumption) (by simp; try omega))))⟩
    · have hq : valEq ⟨x.answer.k, x.answer.n, x.answer.s⟩ ⟨0, 0, ⟨#[]⟩⟩ = false := by
        cases hq : valEq ⟨x.answer.k, x.answer.n, x.answer.s⟩ ⟨0, 0, ⟨#[]⟩⟩
        · rfl
        · exact absurd ((valEq_iff _ _).1 hq) hz
      rw [if_neg ha] at hat
      rw [hat]
      clear ha hat hz
      go_enter Try.func51, Try.ntmps51
      go_wp2_with fail
      refine (hnat _ (HH.out.1.now (by repeat (first | with_reducible exact Below.refl _ _ | with_reducible assumption | with_reducible refine below_drewN ?_ _ | with_reducible refine Below.drew ?_ | with_reducible refine below_alloc0 ?_ | with_reducible refine below_alloc ?_ (by simp; try omega) | with_reducible refine below_set ?_ (by simp; try omega) | with_reducible refine below_chain ?_ (by assumption) | (with_reducible refine below_step ?_ (by assumption) (by simp; try omega)))))).mono ?_; rintro e w1 ⟨rfl, hb1⟩
      have hSl1 := (HH.out.1.now ((Below.refl w.heap.size w).alloc (Nat.le_refl _) _)).now hb1
      obtain ⟨b, o, y, hAe, hbl, hly, _, x0, x1, x2, x3, x4, x5, x6, x7⟩ := Ltr_at hSl1 hk
      rw [HX.out] at hly
      cases hly
      subst hAe
      have hbl' : b < w1.heap.size := hbl
      have HS1 := Lib.hid hSl1
      clear hbl hSl1
      obtain ⟨hc1, hf1⟩ := bcell hb1; (try simp only [World.heap_drewN, World.cell?_drewN, World.frozen?_drewN] at hc1 hf1); have hz1 := hb1.size; (try simp at hz1); (try (have hy1 := Nat.lt_of_succ_le hz1)); (try (have hx1 := Nat.lt_of_succ_lt hy1)); (try (have hl1_w_0 : w.heap.size < w1.heap.size := by omega)); (try (have hm1_w_0 : w.heap.size ≤ w1.heap.size := by omega)); (try (have hl1_w_1 : w.heap.size + 1 < w1.heap.size := by omega)); (try (have hm1_w_1 : w.heap.size + 1 ≤ w1.heap.size := by omega)); (try (have hl1_w_2 : w.heap.size + 2 < w1.heap.size := by omega)); (try (have hm1_w_2 : w.heap.size + 2 ≤ w1.heap.size := by omega)); (try (have hl1_w_3 : w.heap.size + 3 < w1.heap.size := by omega)); (try (have hm1_w_3 : w.heap.size + 3 ≤ w1.heap.size := by omega)); (try (have hl1_w_4 : w.heap.size + 4 < w1.heap.size := by omega)); (try (have hm1_w_4 : w.heap.size + 4 ≤ w1.heap.size := by omega)); (try (have hl1_w_5 : w.heap.size + 5 < w1.heap.size := by omega)); (try (have hm1_w_5 : w.heap.size + 5 ≤ w1.heap.size := by omega)); (try (have hl1_w_6 : w.heap.size + 6 < w1.heap.size := by omega)); (try (have hm1_w_6 : w.heap.size + 6 ≤ w1.heap.size := by omega))
      go_upto_region 6 with fail
      have z0 : w1.cell? ⟨w.heap.size, 0, none⟩ = some (.string ⟨#[]⟩) := by go_simp
      have z1 : w1.cell? ⟨w.heap.size, 1, none⟩ = some (.int .i64 0) := by go_simp
      have z2 : w1.cell? ⟨w.heap.size, 2, none⟩ = some (.int .i64 0) := by go_simp
      have z3 : w1.cell? ⟨w.heap.size, 3, none⟩ = some (.int .i64 0) := by go_simp
      have z4 : w1.cell? ⟨w.heap.size, 4, none⟩ = some (.string ⟨#[]⟩) := by go_simp
      have z5 : w1.cell? ⟨w.heap.size, 5, none⟩ = some (.int .i64 0) := by go_simp
      have z6 : w1.cell? ⟨w.heap.size, 6, none⟩ = some (.int .i64 0) := by go_simp
      have z7 : w1.cell? ⟨w.heap.size, 7, none⟩ = some (.string ⟨#[]⟩) := by go_simp
      have hlt1 : w.heap.size < w1.heap.size := by omega
      have g0 : w1.frozen? ⟨w.heap.size, 0, none⟩ = false := by go_simp
      have g1 : w1.frozen? ⟨w.heap.size, 1, none⟩ = false := by go_simp
      have g2 : w1.frozen? ⟨w.heap.size, 2, none⟩ = false := by go_simp
      have g3 : w1.frozen? ⟨w.heap.size, 3, none⟩ = false := by go_simp
      have g4 : w1.frozen? ⟨w.heap.size, 4, none⟩ = false := by go_simp
      have g5 : w1.frozen? ⟨w.heap.size, 5, none⟩ = false := by go_simp
      have g6 : w1.frozen? ⟨w.heap.size, 6, none⟩ = false := by go_simp
      have g7 : w1.frozen? ⟨w.heap.size, 7, none⟩ = false := by go_simp
      go_region_law (go_simp; go_at_call 87; refine (ref_around _ n c l k none 0 0 [] _ h24 hc hk (by decide) (HS1.out.now (by repeat (first | with_reducible exact Below.refl _ _ | with_reducible assumption | with_reducible refine below_drewN ?_ _ | with_reducible refine Below.drew ?_ | with_reducible refine below_alloc0 ?_ | with_reducible refine below_alloc ?_ (by simp; try omega) | with_reducible refine below_set ?_ (by simp; try omega) | with_reducible refine below_chain ?_ (by assumption) | (with_reducible refine below_step ?_ (by assumption) (by simp; try omega))))) Sl.nil).mono ?_; rintro e w2 ⟨v2, rfl, ho2, hb2⟩; have hb2' := hb2; (try simp only [heap_drew] at ho2 hb2'); obtain ⟨hc2, hf2⟩ := bcell hb2; (try simp only [World.heap_drewN, World.cell?_drewN, World.frozen?_drewN] at hc2 hf2); have hz2 := hb2.size; (try simp at hz2); (try (have hy2 := Nat.lt_of_succ_le hz2)); (try (have hx2 := Nat.lt_of_succ_lt hy2)); (try (have hl2_w_0 : w.heap.size < w2.heap.size := by omega)); (try (have hm2_w_0 : w.heap.size ≤ w2.heap.size := by omega)); (try (have hl2_w_1 : w.heap.size + 1 < w2.heap.size := by omega)); (try (have hm2_w_1 : w.heap.size + 1 ≤ w2.heap.size := by omega)); (try (have hl2_w_2 : w.heap.size + 2 < w2.heap.size := by omega)); (try (have hm2_w_2 : w.heap.size + 2 ≤ w2.heap.size := by omega)); (try (have hl2_w_3 : w.heap.size + 3 < w2.heap.size := by omega)); (try (have hm2_w_3 : w.heap.size + 3 ≤ w2.heap.size := by omega)); (try (have hl2_w_4 : w.heap.size + 4 < w2.heap.size := by omega)); (try (have hm2_w_4 : w.heap.size + 4 ≤ w2.heap.size := by omega)); (try (have hl2_w_5 : w.heap.size + 5 < w2.heap.size := by omega)); (try (have hm2_w_5 : w.heap.size + 5 ≤ w2.heap.size := by omega)); (try (have hl2_w_6 : w.heap.size + 6 < w2.heap.size := by omega)); (try (have hm2_w_6 : w.heap.size + 6 ≤ w2.heap.size := by omega)); (try (have hl2_w1_0 : w1.heap.size < w2.heap.size := by omega)); (try (have hm2_w1_0 : w1.heap.size ≤ w2.heap.size := by omega)); (try (have hl2_w1_1 : w1.heap.size + 1 < w2.heap.size := by omega)); (try (have hm2_w1_1 : w1.heap.size + 1 ≤ w2.heap.size := by omega)); (try (have hl2_w1_2 : w1.heap.size + 2 < w2.heap.size := by omega)); (try (have hm2_w1_2 : w1.heap.size + 2 ≤ w2.heap.size := by omega)); (try (have hl2_w1_3 : w1.heap.size + 3 < w2.heap.size := by omega)); (try (have hm2_w1_3 : w1.heap.size + 3 ≤ w2.heap.size := by omega)); (try (have hl2_w1_4 : w1.heap.size + 4 < w2.heap.size := by omega)); (try (have hm2_w1_4 : w1.heap.size + 4 ≤ w2.heap.size := by omega)); (try (have hl2_w1_5 : w1.heap.size + 5 < w2.heap.size := by omega)); (try (have hm2_w1_5 : w1.heap.size + 5 ≤ w2.heap.size := by omega)); (try (have hl2_w1_6 : w1.heap.size + 6 < w2.heap.size := by omega)); (try (have hm2_w1_6 : w1.heap.size + 6 ≤ w2.heap.size := by omega)); (try simp only [heap_drew, World.cell?_drew] at hc2 hz2); have q0 := (hb2'.cell (p := ⟨w.heap.size, 0, none⟩) hlt1).trans z0; have f0 := (hb2'.frozen (p := ⟨w.heap.size, 0, none⟩) hlt1).trans g0; have q1 := (hb2'.cell (p := ⟨w.heap.size, 1, none⟩) hlt1).trans z1; have f1 := (hb2'.frozen (p := ⟨w.heap.size, 1, none⟩) hlt1).trans g1; have q2 := (hb2'.cell (p := ⟨w.heap.size, 2, none⟩) hlt1).trans z2; have f2 := (hb2'.frozen (p := ⟨w.heap.size, 2, none⟩) hlt1).trans g2; have q3 := (hb2'.cell (p := ⟨w.heap.size, 3, none⟩) hlt1).trans z3; have f3 := (hb2'.frozen (p := ⟨w.heap.size, 3, none⟩) hlt1).trans g3; have q4 := (hb2'.cell (p := ⟨w.heap.size, 4, none⟩) hlt1).trans z4; have f4 := (hb2'.frozen (p := ⟨w.heap.size, 4, none⟩) hlt1).trans g4; have q5 := (hb2'.cell (p := ⟨w.heap.size, 5, none⟩) hlt1).trans z5; have f5 := (hb2'.frozen (p := ⟨w.heap.size, 5, none⟩) hlt1).trans g5; have q6 := (hb2'.cell (p := ⟨w.heap.size, 6, none⟩) hlt1).trans z6; have f6 := (hb2'.frozen (p := ⟨w.heap.size, 6, none⟩) hlt1).trans g6; have q7 := (hb2'.cell (p := ⟨w.heap.size, 7, none⟩) hlt1).trans z7; have f7 := (hb2'.frozen (p := ⟨w.heap.size, 7, none⟩) hlt1).trans g7)
      all_goals
        go_wp2_with fail
        refine bodyPost_ret (v := .tuple #[.agg #[.string x.field, .int .i64 x.id, .int .i64 x.key.k, .int .i64 x.key.n, .string x.key.s, .int .i64 x.answer.k, .int .i64 x.answer.n, .string x.answer.s], v2, .int .i64 0]) (by first | (simp [results, Try.results51, go_sem, hc1, hc2, hlt1, z0, z1, z2, z3, z4, z5, z6, z7]; done) | (simp [results, Try.results51, go_sem, *]; done)) rfl ?_
        rw [around_nil] at ho2
        refine ⟨_, rfl, ?_, (by repeat (first | with_reducible exact Below.refl _ _ | with_reducible assumption | with_reducible refine below_drewN ?_ _ | with_reducible refine Below.drew ?_ | with_reducible refine below_alloc0 ?_ | with_reducible refine below_alloc ?_ (by simp; try omega) | with_reducible refine below_set ?_ (by simp; try omega) | with_reducible refine below_chain ?_ (by assumption) | (with_reducible refine below_step ?_ (by assumption) (by simp; try omega))))⟩
        refine ownsRow_base ?_ (show w.heap.size ≤ w1.heap.size by omega)
        iterate 8 refine ownsRow_set ?_ _ _ (by simp; omega)
        exact ho2
  · have h0' : ((ltrAt l i).2 != 0) = true := by simpa using h0
    rw [show ltrCome l i = (noLtr, [], (ltrAt l i).2) by rw [ltrCome, if_neg h0]]
    clear h0
    go_enter Try.func51, Try.ntmps51
    go_wp2_with fail
    refine (ref_letter A n c l i _ hn' (HH.out.1.now (by repeat (first | with_reducible exact Below.refl _ _ | with_reducible assumption | with_reducible refine below_drewN ?_ _ | with_reducible refine Below.drew ?_ | with_reducible refine below_alloc0 ?_ | with_reducible refine below_alloc ?_ (by simp; try omega) | with_reducible refine below_set ?_ (by simp; try omega) | with_reducible refine below_chain ?_ (by assumption) | (with_reducible refine below_step ?_ (by assumption) (by simp; try omega)))))).mono ?_; rintro e w1 ⟨rfl, hb1⟩; obtain ⟨hc1, hf1⟩ := bcell hb1; (try simp only [World.heap_drewN, World.cell?_drewN, World.frozen?_drewN] at hc1 hf1); have hz1 := hb1.size; (try simp at hz1); (try (have hy1 := Nat.lt_of_succ_le hz1)); (try (have hx1 := Nat.lt_of_succ_lt hy1)); (try (have hl1_w_0 : w.heap.size < w1.heap.size := by omega)); (try (have hm1_w_0 : w.heap.size ≤ w1.heap.size := by omega)); (try (have hl1_w_1 : w.heap.size + 1 < w1.heap.size := by omega)); (try (have hm1_w_1 : w.heap.size + 1 ≤ w1.heap.size := by omega)); (try (have hl1_w_2 : w.heap.size + 2 < w1.heap.size := by omega)); (try (have hm1_w_2 : w.heap.size + 2 ≤ w1.heap.size := by omega)); (try (have hl1_w_3 : w.heap.size + 3 < w1.heap.size := by omega)); (try (have hm1_w_3 : w.heap.size + 3 ≤ w1.heap.size := by omega)); (try (have hl1_w_4 : w.heap.size + 4 < w1.heap.size := by omega)); (try (have hm1_w_4 : w.heap.size + 4 ≤ w1.heap.size := by omega)); (try (have hl1_w_5 : w.heap.size + 5 < w1.heap.size := by omega)); (try (have hm1_w_5 : w.heap.size + 5 ≤ w1.heap.size := by omega)); (try (have hl1_w_6 : w.heap.size + 6 < w1.heap.size := by omega)); (try (have hm1_w_6 : w.heap.size + 6 ≤ w1.heap.size := by omega))
    go_wp2_with fail
    refine bodyPost_ret (v := .tuple #[.agg #[.string ⟨#[]⟩, .int .i64 0, .int .i64 0, .int .i64 0, .string ⟨#[]⟩, .int .i64 0, .int .i64 0, .string ⟨#[]⟩], .slice none 0 0, .int .i64 (ltrAt l i).2]) (by first | (simp [results, Try.results51, go_sem, hc1]; done) | (simp [results, Try.results51, go_sem, *]; done)) rfl ?_
    exact ⟨_, rfl, by simpa using World.ownsRow_nil _ _ _ _, (by repeat (first | with_reducible exact Below.refl _ _ | with_reducible assumption | with_reducible refine below_drewN ?_ _ | with_reducible refine Below.drew ?_ | with_reducible refine below_alloc0 ?_ | with_reducible refine below_alloc ?_ (by simp; try omega) | with_reducible refine below_set ?_ (by simp; try omega) | with_reducible refine below_chain ?_ (by assumption) | (with_reducible refine below_step ?_ (by assumption) (by simp; try omega))))⟩
end Go.Proofs.Ytiplgdplfbeahaa
