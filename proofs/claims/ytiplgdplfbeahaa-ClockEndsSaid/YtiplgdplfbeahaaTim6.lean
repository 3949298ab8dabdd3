/- clock.Due. -/
import Derived.Test.YtiplgdplfbeahaaTim5
namespace Go.Proofs.Ytiplgdplfbeahaa
open Go.RowKit

theorem NilC.own2 {w w' : World} {E : Ending} {c : Int} {e : TypeId} (h : E = .returned (.tuple #[.slice none 0 0, .slice none 0 0, .int .i64 c]) ∧ Below w.heap.size w w') : Own2C w e [] [] c E w' :=
  ⟨_, _, h.1, by simpa using World.ownsRow_nil _ _ _ _, by simpa using World.ownsRow_nil _ _ _ _, h.2⟩
theorem firstAt_end {α : Type} (p : α → Bool) (l : List α) (k : Nat) (hk : k = l.length) (h : (l.take k).any p = false) : firstAt p l = k := by
  rw [List.take_of_length_le (by omega)] at h
  rw [firstAt_none _ _ h, hk]
set_option maxRecDepth 100000 in
set_option maxHeartbeats 4000000 in
theorem clock_Due (A : Option Addr) (n c : Nat) (l : List Tmr) (now : Int) (w : World) (hn : inB 16 n) (hc : n ≤ c) (h : Sl w (old w) 2 RTmr A n l) :
    Calls Try.prog 41 #[.slice A n c, .int .i64 now] w (Own2C w 55 (tmrDue l now).1 (tmrDue l now).2.1 (tmrDue l now).2.2) := by
  have hn' := hn.l (by decide)
  have HH := Lib.hid (And.intro h hn)
  have hlen := h.len
  clear h hn
  unfold tmrDue
  by_cases hb : tmrCheck l = 0
  · have hb' : (tmrCheck l != 0) = false := by simpa using hb
    rw [if_pos hb]
    have h20 : n ≤ 20 := by rw [← hlen]; exact tmrCheck_le hb
    have HE := Lib.hid hlen
    clear hb hlen
    go_enter Try.func41, Try.ntmps41
    go_wp2_with fail
    refine (clock_Check A n c l _ hn' hc (HH.out.1.now (by repeat (first | with_reducible exact Below.refl _ _ | with_reducible assumption | with_reducible refine below_drewN ?_ _ | with_reducible refine Below.drew ?_ | with_reducible refine below_alloc0 ?_ | with_reducible refine below_alloc ?_ (by simp; try omega) | with_reducible refine below_set ?_ (by simp; try omega) | with_reducible refine below_chain ?_ (by assumption) | (with_reducible refine below_step ?_ (by assumption) (by simp; try omega)))))).mono ?_; rintro e w1 ⟨rfl, hb1⟩; obtain ⟨hc1, hf1⟩ := bcell hb1; (try simp only [World.heap_drewN, World.cell?_drewN, World.frozen?_drewN] at hc1 hf1); have hz1 := hb1.size; (try simp at hz1); (try (have hy1 := Nat.lt_of_succ_le hz1)); (try (have hx1 := Nat.lt_of_succ_lt hy1)); (try (have hl1_w_0 : w.heap.size < w1.heap.size := by omega)); (try (have hm1_w_0 : w.heap.size ≤ w1.heap.size := by omega)); (try (have hl1_w_1 : w.heap.size + 1 < w1.heap.size := by omega)); (try (have hm1_w_1 : w.heap.size + 1 ≤ w1.heap.size := by omega)); (try (have hl1_w_2 : w.heap.size + 2 < w1.heap.size := by omega)); (try (have hm1_w_2 : w.heap.size + 2 ≤ w1.heap.size := by omega)); (try (have hl1_w_3 : w.heap.size + 3 < w1.heap.size := by omega)); (try (have hm1_w_3 : w.heap.size + 3 ≤ w1.heap.size := by omega)); (try (have hl1_w_4 : w.heap.size + 4 < w1.heap.size := by omega)); (try (have hm1_w_4 : w.heap.size + 4 ≤ w1.heap.size := by omega)); (try (have hl1_w_5 : w.heap.size + 5 < w1.heap.size := by omega)); (try (have hm1_w_5 : w.heap.size + 5 ≤ w1.heap.size := by omega)); (try (have hl1_w_6 : w.heap.size + 6 < w1.heap.size := by omega)); (try (have hm1_w_6 : w.heap.size + 6 ≤ w1.heap.size := by omega))
    go_wp2_with fail
    go_loopw [8] (fun i wr => ∃ k : Nat, k ≤ n ∧ i = .int .i64 k ∧ (l.take k).any (later now) = false ∧ wr = w1) (fun i _ => n - (intOf i).toNat)
    case atStart => exact ⟨0, by omega, rfl, by simp, rfl⟩
    case round =>
      obtain ⟨k, hk, rfl, hv, hwr⟩ := hrel
      subst hwr
      by_cases hgo : k < n ∧ ∀ x, l[k]? = some x → later now x = false
      · obtain ⟨hlt, hgo⟩ := hgo
        obtain ⟨b, o, x, rfl, _, hl, _, x0, x1⟩ := Tmr_at (HH.out.1.now hb1) hlt
        have hx := hgo x hl
        have hx' : x.at_ ≤ now := by simpa [later] using hx
        have HL := Lib.hid (And.intro hv (And.intro hl hx))
        clear hv hl hx hgo
        go_wp2_with fail
        go_roundw
        case rel =>
          refine ⟨k + 1, by omega, by go_num, ?_, (by trivial)⟩
          rw [List.take_add_one, HL.out.2.1, List.any_append, HL.out.1]
          simp [HL.out.2.2]
        case measure => simp [intOf]; omega
      · have hend : firstAt (later now) l = k ∧ ((k < n ∧ ∃ x, l[k]? = some x ∧ later now x = true) ∨ k = n) := by
          rcases Nat.lt_or_ge k n with hlt | hge
          · obtain ⟨x, hx⟩ : ∃ x, l[k]? = some x := ⟨_, List.getElem?_eq_getElem (by rw [HE.out]; exact hlt)⟩
            cases hp : later now x
            · exfalso
              exact hgo ⟨hlt, fun y hy => by rw [hx] at hy; cases hy; exact hp⟩
            · exact ⟨firstAt_hit _ l k x hx hp hv, .inl ⟨hlt, x, hx, hp⟩⟩
          · have hkn : k = n := by omega
            exact ⟨firstAt_end _ l k (by rw [HE.out]; exact hkn) hv, .inr hkn⟩
        clear hgo hv
        obtain ⟨hfa, hend⟩ := hend
        have hkc : k ≤ c := by omega
        obtain ⟨A', hA', hcut⟩ := HH.out.1.cut hk hc
        have HC := Lib.hid (And.intro hcut hfa)
        have hik : inB 16 k := by unfold inB; omega
        have hink : inB 16 (n - k) := by unfold inB; omega
        clear hcut hfa
        rcases hend with ⟨hlt, x, hl, hx⟩ | hkn
        · obtain ⟨b, o, y, hAe, _, hly, _, x0, x1⟩ := Tmr_at (HH.out.1.now hb1) hlt
          rw [hl] at hly
          cases hly
          have hx' : ¬ x.at_ ≤ now := by simpa [later] using hx
          clear hl hx
          subst hAe
          have hck : ¬ c = k := by omega
          have hAA : A' = some ⟨b, o + k * 2, none⟩ := by rw [← hA', if_neg hck, Option.map_some, Addr.add_lit]
          clear hA'
          subst hAA
          have hb1' : Below w.heap.size w wr.drew := hb1.drew
          go_wp2_with fail
          go_region_law (first
            | (go_simp; go_at_call 81; refine (clone_Tmr (some ⟨b, o, none⟩) k c (l.take k) _ hik ((HH.out.1.now hb1').take' hk)).mono ?_; rintro e w2 ⟨v2, rfl, ho2, hb2⟩; (try simp only [heap_drew] at ho2 hb2))
            | (go_simp; go_at_call 81; refine (clone_Tmr _ (n - k) (c - k) (l.drop k) _ hink (HC.out.1.now (below_chain hb1' hb2))).mono ?_; rintro e w3 ⟨v3, rfl, ho3, hb3⟩))
          all_goals
            go_wp2_with fail
            refine bodyPost_ret (v := .tuple #[v2, v3, .int .i64 0]) (by first | (simp [results, Try.results41, go_sem]; done) | (simp [results, Try.results41, go_sem, *]; done)) rfl ?_
            have hz1 : w.heap.size ≤ wr.heap.size := hb1.size
            refine ⟨v2, v3, rfl, ?_, ?_, ?_⟩
            · rw [HC.out.2]; exact ownsRow_base (ownsRow_keep ho2 hb3) hz1
            · rw [HC.out.2]; exact ownsRow_base ho3 (Nat.le_trans hz1 hb2.size)
            · exact below_chain (below_chain hb1' hb2) hb3
        · have hkn' : ¬ k < n := by omega
          have HK := Lib.hid hkn
          clear hkn
          have hb1' : Below w.heap.size w wr.drew := hb1.drew
          go_wp2_with fail
          go_region_law (first
            | (go_simp; go_at_call 81; refine (clone_Tmr A k c (l.take k) _ hik ((HH.out.1.now hb1').take' hk)).mono ?_; rintro e w2 ⟨v2, rfl, ho2, hb2⟩; (try simp only [heap_drew] at ho2 hb2))
            | (go_simp; go_at_call 81; refine (clone_Tmr _ (n - k) (c - k) (l.drop k) _ hink (HC.out.1.now (below_chain hb1' hb2))).mono ?_; rintro e w3 ⟨v3, rfl, ho3, hb3⟩))
          all_goals
            go_wp2_with fail
            refine bodyPost_ret (v := .tuple #[v2, v3, .int .i64 0]) (by first | (simp [results, Try.results41, go_sem]; done) | (simp [results, Try.results41, go_sem, *]; done)) rfl ?_
            have hz1 : w.heap.size ≤ wr.heap.size := hb1.size
            refine ⟨v2, v3, rfl, ?_, ?_, ?_⟩
            · rw [HC.out.2]; exact ownsRow_base (ownsRow_keep ho2 hb3) hz1
            · rw [HC.out.2]; exact ownsRow_base ho3 (Nat.le_trans hz1 hb2.size)
            · exact below_chain (below_chain hb1' hb2) hb3
  · have hb' : (tmrCheck l != 0) = true := by simpa using hb
    rw [if_neg hb]
    clear hb
    go_enter Try.func41, Try.ntmps41
    go_wp2_with fail
    refine (clock_Check A n c l _ hn' hc (HH.out.1.now (by repeat (first | with_reducible exact Below.refl _ _ | with_reducible assumption | with_reducible refine below_drewN ?_ _ | with_reducible refine Below.drew ?_ | with_reducible refine below_alloc0 ?_ | with_reducible refine below_alloc ?_ (by simp; try omega) | with_reducible refine below_set ?_ (by simp; try omega) | with_reducible refine below_chain ?_ (by assumption) | (with_reducible refine below_step ?_ (by assumption) (by simp; try omega)))))).mono ?_; rintro e w1 ⟨rfl, hb1⟩; obtain ⟨hc1, hf1⟩ := bcell hb1; (try simp only [World.heap_drewN, World.cell?_drewN, World.frozen?_drewN] at hc1 hf1); have hz1 := hb1.size; (try simp at hz1); (try (have hy1 := Nat.lt_of_succ_le hz1)); (try (have hx1 := Nat.lt_of_succ_lt hy1)); (try (have hl1_w_0 : w.heap.size < w1.heap.size := by omega)); (try (have hm1_w_0 : w.heap.size ≤ w1.heap.size := by omega)); (try (have hl1_w_1 : w.heap.size + 1 < w1.heap.size := by omega)); (try (have hm1_w_1 : w.heap.size + 1 ≤ w1.heap.size := by omega)); (try (have hl1_w_2 : w.heap.size + 2 < w1.heap.size := by omega)); (try (have hm1_w_2 : w.heap.size + 2 ≤ w1.heap.size := by omega)); (try (have hl1_w_3 : w.heap.size + 3 < w1.heap.size := by omega)); (try (have hm1_w_3 : w.heap.size + 3 ≤ w1.heap.size := by omega)); (try (have hl1_w_4 : w.heap.size + 4 < w1.heap.size := by omega)); (try (have hm1_w_4 : w.heap.size + 4 ≤ w1.heap.size := by omega)); (try (have hl1_w_5 : w.heap.size + 5 < w1.heap.size := by omega)); (try (have hm1_w_5 : w.heap.size + 5 ≤ w1.heap.size := by omega)); (try (have hl1_w_6 : w.heap.size + 6 < w1.heap.size := by omega)); (try (have hm1_w_6 : w.heap.size + 6 ≤ w1.heap.size := by omega))
    go_wp2_with fail
    refine bodyPost_ret (v := .tuple #[.slice none 0 0, .slice none 0 0, .int .i64 (tmrCheck l)]) (by first | (simp [results, Try.results41, go_sem]; done) | (simp [results, Try.results41, go_sem, *]; done)) rfl ?_
    exact NilC.own2 ⟨rfl, (by repeat (first | with_reducible exact Below.refl _ _ | with_reducible assumption | with_reducible refine below_drewN ?_ _ | with_reducible refine Below.drew ?_ | with_reducible refine below_alloc0 ?_ | with_reducible refine below_alloc ?_ (by simp; try omega) | with_reducible refine below_set ?_ (by simp; try omega) | with_reducible refine below_chain ?_ (by assumption) | (with_reducible refine below_step ?_ (by assumption) (by simp; try omega))))⟩
end Go.Proofs.Ytiplgdplfbeahaa
