/- The reference TimersAdd. -/
import Derived.Test.YtiplgdplfbeahaaTim3
import Derived.Test.YtiplgdplfbeahaaTim2r
namespace Go.Proofs.Ytiplgdplfbeahaa
open Go.RowKit

def insK (t : Tmr) (l : List Tmr) : List Tmr := if l.any (late t) then tmrIns l t else l
theorem firstAt_append {α : Type} (p : α → Bool) : ∀ (l m : List α), l.any p = true → firstAt p (l ++ m) = firstAt p l
  | [], m, h => by simp at h
  | a :: l, m, h => by
    cases ha : p a
    · rw [List.any_cons, ha, Bool.false_or] at h
      simp [firstAt, ha, firstAt_append p l m h]
    · simp [firstAt, ha]
theorem firstAt_lt' {α : Type} (p : α → Bool) (l : List α) (h : l.any p = true) : firstAt p l < l.length := by
  obtain ⟨a, _, _, h3⟩ := find_at p l h
  exact h3
theorem insK_a {t : Tmr} {l : List Tmr} {k : Nat} {x : Tmr} (hl : l[k]? = some x) (h : (l.take k).any (late t) = true) :
    (l.take (k + 1)).any (late t) = true ∧ insK t (l.take (k + 1)) = insK t (l.take k) ++ [x] := by
  have e : l.take (k + 1) = l.take k ++ [x] := by rw [List.take_add_one, hl]; rfl
  have h1 : (l.take k ++ [x]).any (late t) = true := by rw [List.any_append, h]; rfl
  rw [e]
  refine ⟨h1, ?_⟩
  rw [insK, insK, if_pos h1, if_pos h, tmrIns, tmrIns, insAt, insAt, firstAt_append _ _ _ h]
  have hlt := firstAt_lt' _ _ h
  rw [List.take_append_of_le_length (by omega), List.drop_append_of_le_length (by omega)]
  simp
theorem insK_b {t : Tmr} {l : List Tmr} {k : Nat} {x : Tmr} (hl : l[k]? = some x) (h : (l.take k).any (late t) = false) (hx : sooner x t = false) :
    (l.take (k + 1)).any (late t) = true ∧ insK t (l.take (k + 1)) = insK t (l.take k) ++ [t] ++ [x] := by
  have e : l.take (k + 1) = l.take k ++ [x] := by rw [List.take_add_one, hl]; rfl
  have hlx : late t x = true := by rw [late, hx]; rfl
  have h1 : (l.take k ++ [x]).any (late t) = true := by rw [List.any_append]; simp [hlx]
  rw [e]
  refine ⟨h1, ?_⟩
  have hlen : (l.take k).length = k := by
    have := (List.getElem?_eq_some_iff.1 hl).1
    rw [List.length_take]; omega
  have hat : insAt (l.take k ++ [x]) t = k := firstAt_hit _ _ k x (by rw [List.getElem?_append_right (by omega), hlen]; simp) hlx (by rw [List.take_append_of_le_length (by omega), List.take_of_length_le (by omega)]; exact h)
  rw [insK, insK, if_pos h1, h, if_neg (by simp), tmrIns, hat]
  rw [List.take_append_of_le_length (by omega), List.take_of_length_le (by omega), List.drop_append_of_le_length (by omega), List.drop_of_length_le (by omega)]
  simp
theorem insK_c {t : Tmr} {l : List Tmr} {k : Nat} {x : Tmr} (hl : l[k]? = some x) (h : (l.take k).any (late t) = false) (hx : sooner x t = true) :
    (l.take (k + 1)).any (late t) = false ∧ insK t (l.take (k + 1)) = insK t (l.take k) ++ [x] := by
  have e : l.take (k + 1) = l.take k ++ [x] := by rw [List.take_add_one, hl]; rfl
  have hlx : late t x = false := by rw [late, hx]; rfl
  have h1 : (l.take k ++ [x]).any (late t) = false := by rw [List.any_append, h]; simp [hlx]
  rw [e]
  refine ⟨h1, ?_⟩
  rw [insK, insK, h1, h]
  simp
theorem insK_end {t : Tmr} {l : List Tmr} : (l.any (late t) = true ∧ tmrIns l t = insK t l) ∨ (l.any (late t) = false ∧ tmrIns l t = insK t l ++ [t]) := by
  cases h : l.any (late t)
  · right
    refine ⟨rfl, ?_⟩
    rw [insK, h, if_neg (by simp), tmrIns, insAt, firstAt_none _ _ h, List.take_of_length_le (Nat.le_refl _), List.drop_of_length_le (Nat.le_refl _)]
  · left
    exact ⟨rfl, by rw [insK, h, if_pos rfl]⟩
theorem insK_len (t : Tmr) (l : List Tmr) : (insK t l).length ≤ l.length + 1 := by
  unfold insK
  split
  · rw [tmrIns_len]; omega
  · omega
set_option maxRecDepth 100000 in
set_option maxHeartbeats 1000000 in
theorem ref_TimersAdd_bad (A : Option Addr) (n c : Nat) (l : List Tmr) (t : Tmr) (w : World) (hn : inL n) (h : Sl w (old w) 2 RTmr A n l) (hb : tmrCheck l ≠ 0) :
    Calls Try.prog 35 #[.slice A n c, .agg #[.int .i64 t.id, .int .i64 t.at_]] w (NilC w (tmrCheck l)) := by
  have hb' : (tmrCheck l != 0) = true := by simpa using hb
  have HH := Lib.hid h
  clear h hb
  go_enter Try.func35, Try.ntmps35
  go_wp2_with (refine (ref_TimersFault A n c l _ hn (HH.out.now (by repeat (first | with_reducible exact Below.refl _ _ | with_reducible assumption | with_reducible refine below_drewN ?_ _ | with_reducible refine Below.drew ?_ | with_reducible refine below_alloc0 ?_ | with_reducible refine below_alloc ?_ (by simp; try omega) | with_reducible refine below_set ?_ (by simp; try omega) | with_reducible refine below_chain ?_ (by assumption) | (with_reducible refine below_step ?_ (by assumption) (by simp; try omega)))))).mono ?_; rintro e w1 ⟨rfl, hb1⟩; obtain ⟨hc1, hf1⟩ := bcell hb1; (try simp only [World.heap_drewN, World.cell?_drewN, World.frozen?_drewN] at hc1 hf1); have hz1 := hb1.size; (try simp at hz1); (try (have hy1 := Nat.lt_of_succ_le hz1)); (try (have hx1 := Nat.lt_of_succ_lt hy1)); (try (have hl1_w_0 : w.heap.size < w1.heap.size := by omega)); (try (have hm1_w_0 : w.heap.size ≤ w1.heap.size := by omega)); (try (have hl1_w_1 : w.heap.size + 1 < w1.heap.size := by omega)); (try (have hm1_w_1 : w.heap.size + 1 ≤ w1.heap.size := by omega)); (try (have hl1_w_2 : w.heap.size + 2 < w1.heap.size := by omega)); (try (have hm1_w_2 : w.heap.size + 2 ≤ w1.heap.size := by omega)); (try (have hl1_w_3 : w.heap.size + 3 < w1.heap.size := by omega)); (try (have hm1_w_3 : w.heap.size + 3 ≤ w1.heap.size := by omega)); (try (have hl1_w_4 : w.heap.size + 4 < w1.heap.size := by omega)); (try (have hm1_w_4 : w.heap.size + 4 ≤ w1.heap.size := by omega)); (try (have hl1_w_5 : w.heap.size + 5 < w1.heap.size := by omega)); (try (have hm1_w_5 : w.heap.size + 5 ≤ w1.heap.size := by omega)); (try (have hl1_w_6 : w.heap.size + 6 < w1.heap.size := by omega)); (try (have hm1_w_6 : w.heap.size + 6 ≤ w1.heap.size := by omega)))
  go_ret2
  exact ⟨rfl, (by repeat (first | with_reducible exact Below.refl _ _ | with_reducible assumption | with_reducible refine below_drewN ?_ _ | with_reducible refine Below.drew ?_ | with_reducible refine below_alloc0 ?_ | with_reducible refine below_alloc ?_ (by simp; try omega) | with_reducible refine below_set ?_ (by simp; try omega) | with_reducible refine below_chain ?_ (by assumption) | (with_reducible refine below_step ?_ (by assumption) (by simp; try omega))))⟩
set_option maxRecDepth 100000 in
set_option maxHeartbeats 4000000 in
theorem ref_TimersAdd_more (A : Option Addr) (n c : Nat) (l : List Tmr) (t : Tmr) (w : World) (hn : inB 16 n) (h : Sl w (old w) 2 RTmr A n l) (ht : t.wf) (hb : tmrCheck l = 0) :
    Calls Try.prog 35 #[.slice A n c, .agg #[.int .i64 t.id, .int .i64 t.at_]] w (if tmrCheck (tmrIns l t) = 0 then OwnRowC Tmr.cs 55 2 w (tmrIns l t) 0 else NilC w (tmrCheck (tmrIns l t))) := by
  have hb' : (tmrCheck l != 0) = false := by simpa using hb
  have hn' := hn.l (by decide)
  have h20 : n ≤ 20 := by rw [← h.len]; exact tmrCheck_le hb
  obtain ⟨i0, hi0, iz0, iz1, iz2⟩ := info_parts Try.infoTmr
  have HH := Lib.hid (And.intro h (And.intro hb hn))
  clear h hb hn
  go_enter Try.func35, Try.ntmps35
  go_wp2_with fail
  refine (ref_TimersFault A n c l _ hn' (HH.out.1.now (by repeat (first | with_reducible exact Below.refl _ _ | with_reducible assumption | with_reducible refine below_drewN ?_ _ | with_reducible refine Below.drew ?_ | with_reducible refine below_alloc0 ?_ | with_reducible refine below_alloc ?_ (by simp; try omega) | with_reducible refine below_set ?_ (by simp; try omega) | with_reducible refine below_chain ?_ (by assumption) | (with_reducible refine below_step ?_ (by assumption) (by simp; try omega)))))).mono ?_; rintro e w1 ⟨rfl, hb1⟩; obtain ⟨hc1, hf1⟩ := bcell hb1; (try simp only [World.heap_drewN, World.cell?_drewN, World.frozen?_drewN] at hc1 hf1); have hz1 := hb1.size; (try simp at hz1); (try (have hy1 := Nat.lt_of_succ_le hz1)); (try (have hx1 := Nat.lt_of_succ_lt hy1)); (try (have hl1_w_0 : w.heap.size < w1.heap.size := by omega)); (try (have hm1_w_0 : w.heap.size ≤ w1.heap.size := by omega)); (try (have hl1_w_1 : w.heap.size + 1 < w1.heap.size := by omega)); (try (have hm1_w_1 : w.heap.size + 1 ≤ w1.heap.size := by omega)); (try (have hl1_w_2 : w.heap.size + 2 < w1.heap.size := by omega)); (try (have hm1_w_2 : w.heap.size + 2 ≤ w1.heap.size := by omega)); (try (have hl1_w_3 : w.heap.size + 3 < w1.heap.size := by omega)); (try (have hm1_w_3 : w.heap.size + 3 ≤ w1.heap.size := by omega)); (try (have hl1_w_4 : w.heap.size + 4 < w1.heap.size := by omega)); (try (have hm1_w_4 : w.heap.size + 4 ≤ w1.heap.size := by omega)); (try (have hl1_w_5 : w.heap.size + 5 < w1.heap.size := by omega)); (try (have hm1_w_5 : w.heap.size + 5 ≤ w1.heap.size := by omega)); (try (have hl1_w_6 : w.heap.size + 6 < w1.heap.size := by omega)); (try (have hm1_w_6 : w.heap.size + 6 ≤ w1.heap.size := by omega))
  go_wp2_with fail
  go_loopw [7, 8, 19] (fun out dn i wr => ∃ k : Nat, k ≤ n ∧ i = .int .i64 k ∧ dn = .bool ((l.take k).any (late t)) ∧ wr.ownsRow w1.heap.size 55 2 out (insK t (l.take k)).length ((insK t (l.take k)).flatMap Tmr.cs) ∧ Below w1.heap.size w1 wr) (fun _ _ i _ => n - (intOf i).toNat)
  case atStart => exact ⟨0, by omega, rfl, by simp, by simpa [insK] using World.ownsRow_nil _ _ _ _, Below.refl _ _⟩
  case round =>
    obtain ⟨k, hk, rfl, rfl, hown, hbr⟩ := hrel
    have hbw : Below w.heap.size w wr := below_step ((by repeat (first | with_reducible exact Below.refl _ _ | with_reducible assumption | with_reducible refine below_drewN ?_ _ | with_reducible refine Below.drew ?_ | with_reducible refine below_alloc0 ?_ | with_reducible refine below_alloc ?_ (by simp; try omega) | with_reducible refine below_set ?_ (by simp; try omega) | with_reducible refine below_chain ?_ (by assumption) | (with_reducible refine below_step ?_ (by assumption) (by simp; try omega)))) : Below w.heap.size w w1) hbr hm1_w_0
    obtain ⟨hcr, hfr⟩ := bcell hbr; (try simp only [World.heap_drewN, World.cell?_drewN, World.frozen?_drewN] at hcr hfr); have hzr := hbr.size; (try simp at hzr); (try (have hyr := Nat.lt_of_succ_le hzr)); (try (have hxr := Nat.lt_of_succ_lt hyr)); (try (have hlr_w_0 : w.heap.size < wr.heap.size := by omega)); (try (have hmr_w_0 : w.heap.size ≤ wr.heap.size := by omega)); (try (have hlr_w_1 : w.heap.size + 1 < wr.heap.size := by omega)); (try (have hmr_w_1 : w.heap.size + 1 ≤ wr.heap.size := by omega)); (try (have hlr_w_2 : w.heap.size + 2 < wr.heap.size := by omega)); (try (have hmr_w_2 : w.heap.size + 2 ≤ wr.heap.size := by omega)); (try (have hlr_w_3 : w.heap.size + 3 < wr.heap.size := by omega)); (try (have hmr_w_3 : w.heap.size + 3 ≤ wr.heap.size := by omega)); (try (have hlr_w_4 : w.heap.size + 4 < wr.heap.size := by omega)); (try (have hmr_w_4 : w.heap.size + 4 ≤ wr.heap.size := by omega)); (try (have hlr_w_5 : w.heap.size + 5 < wr.heap.size := by omega)); (try (have hmr_w_5 : w.heap.size + 5 ≤ wr.heap.size := by omega)); (try (have hlr_w_6 : w.heap.size + 6 < wr.heap.size := by omega)); (try (have hmr_w_6 : w.heap.size + 6 ≤ wr.heap.size := by omega)); (try (have hlr_w1_0 : w1.heap.size < wr.heap.size := by omega)); (try (have hmr_w1_0 : w1.heap.size ≤ wr.heap.size := by omega)); (try (have hlr_w1_1 : w1.heap.size + 1 < wr.heap.size := by omega)); (try (have hmr_w1_1 : w1.heap.size + 1 ≤ wr.heap.size := by omega)); (try (have hlr_w1_2 : w1.heap.size + 2 < wr.heap.size := by omega)); (try (have hmr_w1_2 : w1.heap.size + 2 ≤ wr.heap.size := by omega)); (try (have hlr_w1_3 : w1.heap.size + 3 < wr.heap.size := by omega)); (try (have hmr_w1_3 : w1.heap.size + 3 ≤ wr.heap.size := by omega)); (try (have hlr_w1_4 : w1.heap.size + 4 < wr.heap.size := by omega)); (try (have hmr_w1_4 : w1.heap.size + 4 ≤ wr.heap.size := by omega)); (try (have hlr_w1_5 : w1.heap.size + 5 < wr.heap.size := by omega)); (try (have hmr_w1_5 : w1.heap.size + 5 ≤ wr.heap.size := by omega)); (try (have hlr_w1_6 : w1.heap.size + 6 < wr.heap.size := by omega)); (try (have hmr_w1_6 : w1.heap.size + 6 ≤ wr.heap.size := by omega))
    have hil : (insK t (l.take k)).length ≤ k + 1 := Nat.le_trans (insK_len _ _) (by rw [List.length_take]; omega)
    by_cases hlt : k < n
    · obtain ⟨b, o, x, rfl, hbl, hl, _, x0, x1⟩ := Tmr_at (HH.out.1.now hbw) hlt
      have hbl' : b < wr.heap.size := hbl
      clear hbl
      have hlt' := hown.lt
      have HO := Lib.hid hown
      clear hown
      cases hany : (l.take k).any (late t)
      · cases hsn : sooner x t
        · have HN := Lib.hid (insK_b hl hany hsn)
          clear hl hany
          go_wp2_with (first | (go_at_call 82; refine (ref_sooner x t _).mono ?_; rintro e w2 ⟨rfl, hb2⟩; obtain ⟨hc2, hf2⟩ := bcell hb2; (try simp only [World.heap_drewN, World.cell?_drewN, World.frozen?_drewN] at hc2 hf2); have hz2 := hb2.size; (try simp at hz2); (try (have hy2 := Nat.lt_of_succ_le hz2)); (try (have hx2 := Nat.lt_of_succ_lt hy2)); (try (have hl2_w_0 : w.heap.size < w2.heap.size := by omega)); (try (have hm2_w_0 : w.heap.size ≤ w2.heap.size := by omega)); (try (have hl2_w_1 : w.heap.size + 1 < w2.heap.size := by omega)); (try (have hm2_w_1 : w.heap.size + 1 ≤ w2.heap.size := by omega)); (try (have hl2_w_2 : w.heap.size + 2 < w2.heap.size := by omega)); (try (have hm2_w_2 : w.heap.size + 2 ≤ w2.heap.size := by omega)); (try (have hl2_w_3 : w.heap.size + 3 < w2.heap.size := by omega)); (try (have hm2_w_3 : w.heap.size + 3 ≤ w2.heap.size := by omega)); (try (have hl2_w_4 : w.heap.size + 4 < w2.heap.size := by omega)); (try (have hm2_w_4 : w.heap.size + 4 ≤ w2.heap.size := by omega)); (try (have hl2_w_5 : w.heap.size + 5 < w2.heap.size := by omega)); (try (have hm2_w_5 : w.heap.size + 5 ≤ w2.heap.size := by omega)); (try (have hl2_w_6 : w.heap.size + 6 < w2.heap.size := by omega)); (try (have hm2_w_6 : w.heap.size + 6 ≤ w2.heap.size := by omega)); (try (have hl2_w1_0 : w1.heap.size < w2.heap.size := by omega)); (try (have hm2_w1_0 : w1.heap.size ≤ w2.heap.size := by omega)); (try (have hl2_w1_1 : w1.heap.size + 1 < w2.heap.size := by omega)); (try (have hm2_w1_1 : w1.heap.size + 1 ≤ w2.heap.size := by omega)); (try (have hl2_w1_2 : w1.heap.size + 2 < w2.heap.size := by omega)); (try (have hm2_w1_2 : w1.heap.size + 2 ≤ w2.heap.size := by omega)); (try (have hl2_w1_3 : w1.heap.size + 3 < w2.heap.size := by omega)); (try (have hm2_w1_3 : w1.heap.size + 3 ≤ w2.heap.size := by omega)); (try (have hl2_w1_4 : w1.heap.size + 4 < w2.heap.size := by omega)); (try (have hm2_w1_4 : w1.heap.size + 4 ≤ w2.heap.size := by omega)); (try (have hl2_w1_5 : w1.heap.size + 5 < w2.heap.size := by omega)); (try (have hm2_w1_5 : w1.heap.size + 5 ≤ w2.heap.size := by omega)); (try (have hl2_w1_6 : w1.heap.size + 6 < w2.heap.size := by omega)); (try (have hm2_w1_6 : w1.heap.size + 6 ≤ w2.heap.size := by omega)); (try (have hl2_wr_0 : wr.heap.size < w2.heap.size := by omega)); (try (have hm2_wr_0 : wr.heap.size ≤ w2.heap.size := by omega)); (try (have hl2_wr_1 : wr.heap.size + 1 < w2.heap.size := by omega)); (try (have hm2_wr_1 : wr.heap.size + 1 ≤ w2.heap.size := by omega)); (try (have hl2_wr_2 : wr.heap.size + 2 < w2.heap.size := by omega)); (try (have hm2_wr_2 : wr.heap.size + 2 ≤ w2.heap.size := by omega)); (try (have hl2_wr_3 : wr.heap.size + 3 < w2.heap.size := by omega)); (try (have hm2_wr_3 : wr.heap.size + 3 ≤ w2.heap.size := by omega)); (try (have hl2_wr_4 : wr.heap.size + 4 < w2.heap.size := by omega)); (try (have hm2_wr_4 : wr.heap.size + 4 ≤ w2.heap.size := by omega)); (try (have hl2_wr_5 : wr.heap.size + 5 < w2.heap.size := by omega)); (try (have hm2_wr_5 : wr.heap.size + 5 ≤ w2.heap.size := by omega)); (try (have hl2_wr_6 : wr.heap.size + 6 < w2.heap.size := by omega)); (try (have hm2_wr_6 : wr.heap.size + 6 ≤ w2.heap.size := by omega))) | (at_builtin; refine wpList_append1 rfl (.tmp 31) (.tmp 33) 53 rfl w1.heap.size 55 i0 (.agg #[.int .i64 0, .int .i64 0]) 2 16 Try.underlying53 hi0 iz0 iz1 iz2 rfl (by decide) _ _ _ rfl (ownsRow_keep (HO.out.alloc _) hb2) [.int .i64 t.id, .int .i64 t.at_] 55 rfl _ rfl (by simp) rfl (by simp [Value.oneCell']) (by omega) (by unfold maxLen; omega) (by (try simp); omega) ?_; intro v' w3 hown3 hb3 hz3 hk3; have kx0 := (World.cell?_of_block (w := w2) (a := ⟨wr.heap.size, 0, none⟩) (hk3 wr.heap.size (by omega) (fun e => absurd (hlt' _ e.symm).2 (by omega)))).trans ((hc2 wr.heap.size 0 (by simp)).trans (by go_simp) : _ = some (.int .i64 x.id)); have kx1 := (World.cell?_of_block (w := w2) (a := ⟨wr.heap.size, 1, none⟩) (hk3 wr.heap.size (by omega) (fun e => absurd (hlt' _ e.symm).2 (by omega)))).trans ((hc2 wr.heap.size 1 (by simp)).trans (by go_simp) : _ = some (.int .i64 x.at_))) | (at_builtin; refine wpList_append1 rfl (.tmp 35) (.tmp 37) 53 rfl w1.heap.size 55 i0 (.agg #[.int .i64 0, .int .i64 0]) 2 16 Try.underlying53 hi0 iz0 iz1 iz2 rfl (by decide) _ _ _ rfl (hown3) [.int .i64 x.id, .int .i64 x.at_] 55 rfl _ rfl (by simp) rfl (by simp [Value.oneCell']) (by omega) (by unfold maxLen; omega) (by (try simp); omega) ?_; intro v'' w4 hown4 hb4 hz4 _))
          go_roundw
          case rel =>
            refine ⟨k + 1, by omega, by go_num, by rw [HN.out.1], ?_, ?_⟩
            · rw [HN.out.2, List.length_append, List.length_append, List.flatMap_append, List.flatMap_append]
              exact hown4
            · exact Below.trans (Below.trans ((by repeat (first | with_reducible exact Below.refl _ _ | with_reducible assumption | with_reducible refine below_drewN ?_ _ | with_reducible refine Below.drew ?_ | with_reducible refine below_alloc0 ?_ | with_reducible refine below_alloc ?_ (by simp; try omega) | with_reducible refine below_set ?_ (by simp; try omega) | with_reducible refine below_chain ?_ (by assumption) | (with_reducible refine below_step ?_ (by assumption) (by simp; try omega))))) hb3) (below_step (Below.refl _ _) hb4 (Nat.le_refl _))
          case measure => simp [intOf]; omega
        · have HN := Lib.hid (insK_c hl hany hsn)
          clear hl hany
          go_wp2_with (first | (go_at_call 82; refine (ref_sooner x t _).mono ?_; rintro e w2 ⟨rfl, hb2⟩; obtain ⟨hc2, hf2⟩ := bcell hb2; (try simp only [World.heap_drewN, World.cell?_drewN, World.frozen?_drewN] at hc2 hf2); have hz2 := hb2.size; (try simp at hz2); (try (have hy2 := Nat.lt_of_succ_le hz2)); (try (have hx2 := Nat.lt_of_succ_lt hy2)); (try (have hl2_w_0 : w.heap.size < w2.heap.size := by omega)); (try (have hm2_w_0 : w.heap.size ≤ w2.heap.size := by omega)); (try (have hl2_w_1 : w.heap.size + 1 < w2.heap.size := by omega)); (try (have hm2_w_1 : w.heap.size + 1 ≤ w2.heap.size := by omega)); (try (have hl2_w_2 : w.heap.size + 2 < w2.heap.size := by omega)); (try (have hm2_w_2 : w.heap.size + 2 ≤ w2.heap.size := by omega)); (try (have hl2_w_3 : w.heap.size + 3 < w2.heap.size := by omega)); (try (have hm2_w_3 : w.heap.size + 3 ≤ w2.heap.size := by omega)); (try (have hl2_w_4 : w.heap.size + 4 < w2.heap.size := by omega)); (try (have hm2_w_4 : w.heap.size + 4 ≤ w2.heap.size := by omega)); (try (have hl2_w_5 : w.heap.size + 5 < w2.heap.size := by omega)); (try (have hm2_w_5 : w.heap.size + 5 ≤ w2.heap.size := by omega)); (try (have hl2_w_6 : w.heap.size + 6 < w2.heap.size := by omega)); (try (have hm2_w_6 : w.heap.size + 6 ≤ w2.heap.size := by omega)); (try (have hl2_w1_0 : w1.heap.size < w2.heap.size := by omega)); (try (have hm2_w1_0 : w1.heap.size ≤ w2.heap.size := by omega)); (try (have hl2_w1_1 : w1.heap.size + 1 < w2.heap.size := by omega)); (try (have hm2_w1_1 : w1.heap.size + 1 ≤ w2.heap.size := by omega)); (try (have hl2_w1_2 : w1.heap.size + 2 < w2.heap.size := by omega)); (try (have hm2_w1_2 : w1.heap.size + 2 ≤ w2.heap.size := by omega)); (try (have hl2_w1_3 : w1.heap.size + 3 < w2.heap.size := by omega)); (try (have hm2_w1_3 : w1.heap.size + 3 ≤ w2.heap.size := by omega)); (try (have hl2_w1_4 : w1.heap.size + 4 < w2.heap.size := by omega)); (try (have hm2_w1_4 : w1.heap.size + 4 ≤ w2.heap.size := by omega)); (try (have hl2_w1_5 : w1.heap.size + 5 < w2.heap.size := by omega)); (try (have hm2_w1_5 : w1.heap.size + 5 ≤ w2.heap.size := by omega)); (try (have hl2_w1_6 : w1.heap.size + 6 < w2.heap.size := by omega)); (try (have hm2_w1_6 : w1.heap.size + 6 ≤ w2.heap.size := by omega)); (try (have hl2_wr_0 : wr.heap.size < w2.heap.size := by omega)); (try (have hm2_wr_0 : wr.heap.size ≤ w2.heap.size := by omega)); (try (have hl2_wr_1 : wr.heap.size + 1 < w2.heap.size := by omega)); (try (have hm2_wr_1 : wr.heap.size + 1 ≤ w2.heap.size := by omega)); (try (have hl2_wr_2 : wr.heap.size + 2 < w2.heap.size := by omega)); (try (have hm2_wr_2 : wr.heap.size + 2 ≤ w2.heap.size := by omega)); (try (have hl2_wr_3 : wr.heap.size + 3 < w2.heap.size := by omega)); (try (have hm2_wr_3 : wr.heap.size + 3 ≤ w2.heap.size := by omega)); (try (have hl2_wr_4 : wr.heap.size + 4 < w2.heap.size := by omega)); (try (have hm2_wr_4 : wr.heap.size + 4 ≤ w2.heap.size := by omega)); (try (have hl2_wr_5 : wr.heap.size + 5 < w2.heap.size := by omega)); (try (have hm2_wr_5 : wr.heap.size + 5 ≤ w2.heap.size := by omega)); (try (have hl2_wr_6 : wr.heap.size + 6 < w2.heap.size := by omega)); (try (have hm2_wr_6 : wr.heap.size + 6 ≤ w2.heap.size := by omega))) | (at_builtin; refine wpList_append1 rfl (.tmp 35) (.tmp 37) 53 rfl w1.heap.size 55 i0 (.agg #[.int .i64 0, .int .i64 0]) 2 16 Try.underlying53 hi0 iz0 iz1 iz2 rfl (by decide) _ _ _ rfl (ownsRow_keep (HO.out.alloc _) hb2) [.int .i64 x.id, .int .i64 x.at_] 55 rfl _ rfl (by simp) rfl (by simp [Value.oneCell']) (by omega) (by unfold maxLen; omega) (by (try simp); omega) ?_; intro v' w3 hown3 hb3 hz3 _))
          go_roundw
          case rel =>
            refine ⟨k + 1, by omega, by go_num, by rw [HN.out.1], ?_, ?_⟩
            · rw [HN.out.2, List.length_append, List.flatMap_append]
              exact hown3
            · exact Below.trans ((by repeat (first | with_reducible exact Below.refl _ _ | with_reducible assumption | with_reducible refine below_drewN ?_ _ | with_reducible refine Below.drew ?_ | with_reducible refine below_alloc0 ?_ | with_reducible refine below_alloc ?_ (by simp; try omega) | with_reducible refine below_set ?_ (by simp; try omega) | with_reducible refine below_chain ?_ (by assumption) | (with_reducible refine below_step ?_ (by assumption) (by simp; try omega))))) hb3
          case measure => simp [intOf]; omega
      · have HN := Lib.hid (insK_a hl hany)
        clear hl
        go_wp2_with (at_builtin; refine wpList_append1 rfl (.tmp 35) (.tmp 37) 53 rfl w1.heap.size 55 i0 (.agg #[.int .i64 0, .int .i64 0]) 2 16 Try.underlying53 hi0 iz0 iz1 iz2 rfl (by decide) _ _ _ rfl (HO.out.alloc _) [.int .i64 x.id, .int .i64 x.at_] 55 rfl _ rfl (by simp) rfl (by simp [Value.oneCell']) (by omega) (by unfold maxLen; omega) (by (try simp); omega) ?_; intro v' w3 hown3 hb3 hz3 _)
        go_roundw
        case rel =>
          refine ⟨k + 1, by omega, by go_num, by rw [HN.out.1], ?_, ?_⟩
          · rw [HN.out.2, List.length_append, List.flatMap_append]
            exact hown3
          · exact Below.trans ((by repeat (first | with_reducible exact Below.refl _ _ | with_reducible assumption | with_reducible refine below_drewN ?_ _ | with_reducible refine Below.drew ?_ | with_reducible refine below_alloc0 ?_ | with_reducible refine below_alloc ?_ (by simp; try omega) | with_reducible refine below_set ?_ (by simp; try omega) | with_reducible refine below_chain ?_ (by assumption) | (with_reducible refine below_step ?_ (by assumption) (by simp; try omega))))) hb3
        case measure => simp [intOf]; omega
    · have hkn : k = n := by omega
      subst hkn
      have etk : l.take k = l := List.take_of_length_le (by rw [HH.out.1.len]; exact Nat.le_refl _)
      rw [etk] at hown hil
      rw [etk]
      rcases insK_end (t := t) (l := l) with ⟨ha, he⟩ | ⟨ha, he⟩
      · rw [← he] at hown
        have hle : (tmrIns l t).length = k + 1 := by rw [tmrIns_len, HH.out.1.len]
        rw [hle] at hown
        clear he hle etk hil
        have hlen9 : (tmrIns l t).length = k + 1 := by rw [tmrIns_len, HH.out.1.len]
        obtain ⟨A9, c9, rfl, hc9, hs9⟩ := ownTmr (l := tmrIns l t) hown hlen9 (tmrIns_wf HH.out.1.wfTmr ht)
        have HO9 := Lib.hid hown
        have HS := Lib.hid (And.intro hs9 hlen9)
        have hn9 : inL (k + 1) := by unfold inL; omega
        clear hs9 hlen9
        by_cases hk : tmrCheck (tmrIns l t) = 0
        · have hk' : (tmrCheck (tmrIns l t) != 0) = false := by simpa using hk
          go_wp2_with fail
          refine (ref_TimersFault A9 (k + 1) c9 (tmrIns l t) _ hn9 HS.out.1).mono ?_; rintro e w10 ⟨rfl, hb10⟩
          go_wp2_with fail
          go_ret2
          refine ⟨_, rfl, ownsRow_base (ownsRow_keep (by rw [HS.out.2]; exact HO9.out) hb10) hm1_w_0, below_chain hbw hb10⟩
        · have hk' : (tmrCheck (tmrIns l t) != 0) = true := by simpa using hk
          go_wp2_with fail
          refine (ref_TimersFault A9 (k + 1) c9 (tmrIns l t) _ hn9 HS.out.1).mono ?_; rintro e w10 ⟨rfl, hb10⟩
          go_wp2_with fail
          go_ret2
          exact ⟨rfl, below_chain hbw hb10⟩
      · have HO := Lib.hid hown
        have HE := Lib.hid he
        have hle : (insK t l).length + 1 = k + 1 := by
          have := congrArg List.length he
          rw [tmrIns_len, List.length_append, HH.out.1.len] at this
          simp at this
          omega
        have HLE := Lib.hid hle
        have hil' : (insK t l).length ≤ k + 1 := by omega
        clear he hle hown etk hil
        go_upto_region 16 with (at_builtin; refine wpList_append1 rfl (.tmp 42) (.tmp 44) 53 rfl w1.heap.size 55 i0 (.agg #[.int .i64 0, .int .i64 0]) 2 16 Try.underlying53 hi0 iz0 iz1 iz2 rfl (by decide) _ _ _ rfl (HO.out) [.int .i64 t.id, .int .i64 t.at_] 55 rfl _ rfl (by simp) rfl (by simp [Value.oneCell']) (by omega) (by unfold maxLen; omega) (by (try simp); omega) ?_; intro v' w3 hown3 hb3 hz3 _)
        have hown9 : w3.ownsRow w1.heap.size 55 2 v' (k + 1) ((tmrIns l t).flatMap Tmr.cs) := by
          rw [HE.out, List.flatMap_append]
          rw [HLE.out] at hown3
          exact hown3
        have hb39 : Below w.heap.size w w3 := below_step hbw (below_step ((by repeat (first | with_reducible exact Below.refl _ _ | with_reducible assumption | with_reducible refine below_drewN ?_ _ | with_reducible refine Below.drew ?_ | with_reducible refine below_alloc0 ?_ | with_reducible refine below_alloc ?_ (by simp; try omega) | with_reducible refine below_set ?_ (by simp; try omega) | with_reducible refine below_chain ?_ (by assumption) | (with_reducible refine below_step ?_ (by assumption) (by simp; try omega)))) : Below w1.heap.size wr wr) hb3 (by omega)) (by omega)
        have hlen9 : (tmrIns l t).length = k + 1 := by rw [tmrIns_len, HH.out.1.len]
        obtain ⟨A9, c9, rfl, hc9, hs9⟩ := ownTmr (l := tmrIns l t) hown9 hlen9 (tmrIns_wf HH.out.1.wfTmr ht)
        have HO9 := Lib.hid hown9
        have HS := Lib.hid (And.intro hs9 hlen9)
        have hn9 : inL (k + 1) := by unfold inL; omega
        clear hs9 hlen9
        by_cases hk : tmrCheck (tmrIns l t) = 0
        · have hk' : (tmrCheck (tmrIns l t) != 0) = false := by simpa using hk
          go_wp2_with fail
          refine (ref_TimersFault A9 (k + 1) c9 (tmrIns l t) _ hn9 HS.out.1).mono ?_; rintro e w10 ⟨rfl, hb10⟩
          go_wp2_with fail
          go_ret2
          refine ⟨_, rfl, ownsRow_base (ownsRow_keep (by rw [HS.out.2]; exact HO9.out) hb10) hm1_w_0, below_chain hb39 hb10⟩
        · have hk' : (tmrCheck (tmrIns l t) != 0) = true := by simpa using hk
          go_wp2_with fail
          refine (ref_TimersFault A9 (k + 1) c9 (tmrIns l t) _ hn9 HS.out.1).mono ?_; rintro e w10 ⟨rfl, hb10⟩
          go_wp2_with fail
          go_ret2
          exact ⟨rfl, below_chain hb39 hb10⟩
end Go.Proofs.Ytiplgdplfbeahaa
