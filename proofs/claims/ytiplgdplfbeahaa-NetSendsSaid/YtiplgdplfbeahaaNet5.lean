/- slices.Grow of nil and slices.Concat of two rows of letters; net.Send. -/
import Derived.Test.YtiplgdplfbeahaaNet1
import Derived.Lib.AppendZeros
namespace Go.Proofs.Ytiplgdplfbeahaa
open Go.RowKit

set_option maxRecDepth 100000 in
set_option maxHeartbeats 2000000 in
theorem grow_Ltr (N : Nat) (w : World) (hN : N ≤ 48) : Calls Try.prog 105 #[.slice none 0 0, .int .i64 N] w (OwnRow Ltr.cs 75 8 w []) := by
  rcases Nat.eq_zero_or_pos N with h0 | h0
  · subst h0
    go_enter Try.func105, Try.ntmps105
    go_wp2_with fail
    go_ret
    exact ⟨_, rfl, by simpa using World.ownsRow_nil _ _ _ _, (by repeat (first | with_reducible exact Below.refl _ _ | with_reducible assumption | with_reducible refine below_drewN ?_ _ | with_reducible refine Below.drew ?_ | with_reducible refine below_alloc0 ?_ | with_reducible refine below_alloc ?_ (by simp; try omega) | with_reducible refine below_set ?_ (by simp; try omega) | with_reducible refine below_chain ?_ (by assumption) | (with_reducible refine below_step ?_ (by assumption) (by simp; try omega))))⟩
  · obtain ⟨i0, hi0, iz0, iz1, iz2⟩ := info_parts Try.infoLtr
    have hr := Lib.run_append_nil_zeros (P := Try.prog) w 61 3 61 75 i0 _ .i64 .i64 Try.underlying61 Try.underlying3 hi0 iz0 N h0 (by rw [iz1]; decide) (by omega) (by rw [iz2]; omega)
    have hge := grownCap_ge w N 0 75
    have hle := grownCap_le_maxLen w N 0 75 (by unfold maxLen; omega)
    generalize grownCap w N 0 75 = cap at hr hge hle
    obtain ⟨cur, hcur⟩ : ∃ cur, cur = Builtin.zeroCells (Value.agg #[.string ⟨#[]⟩, .int .i64 0, .int .i64 0, .int .i64 0, .string ⟨#[]⟩, .int .i64 0, .int .i64 0, .string ⟨#[]⟩]).cells N ++ Builtin.zeroCells (Value.agg #[.string ⟨#[]⟩, .int .i64 0, .int .i64 0, .int .i64 0, .string ⟨#[]⟩, .int .i64 0, .int .i64 0, .string ⟨#[]⟩]).cells (cap - N) := ⟨_, rfl⟩
    have hcs : cur.size = cap * 8 := by rw [hcur, Array.size_append, size_zeroCells, size_zeroCells]; simp [Value.cells]; omega
    rw [← hcur] at hr
    have hown : (w.drew.alloc (.cells cur 75)).ownsRow w.heap.size 75 8 (.slice (some ⟨w.heap.size, 0, none⟩) 0 cap) 0 [] := World.ownsRow_made w.drew cur cap (Nat.le_refl _) hle hcs
    have HO := Lib.hid hown
    clear hown hcur
    go_enter Try.func105, Try.ntmps105
    go_wp2_with (at_builtin; refine Lib.wpList_append_run _ rfl (.tmp 20) (.tmp 21) 61 3 rfl _ _ rfl rfl _ _ hr ?_)
    go_ret
    exact ⟨_, rfl, HO.out, (Below.refl _ w).drew.alloc (Nat.le_refl _) _⟩
set_option maxRecDepth 100000 in
set_option maxHeartbeats 4000000 in
theorem concat_Ltr (G : Nat) (A : Option Addr) (n c : Nat) (l : List Ltr) (A2 : Option Addr) (n2 c2 : Nat) (m : List Ltr) (w : World) (hn : n ≤ 24) (hn2 : n2 ≤ 24) (hg0 : w.cell? ⟨G, 0, none⟩ = some (.slice A n c)) (hg1 : w.cell? ⟨G, 1, none⟩ = some (.slice A2 n2 c2))
    (h : Sl w (old w) 8 RLtr A n l) (h2 : Sl w (old w) 8 RLtr A2 n2 m) :
    Calls Try.prog 90 #[.slice (some ⟨G, 0, none⟩) 2 2] w (OwnRow Ltr.cs 75 8 w (l ++ m)) := by
  obtain ⟨i0, hi0, iz0, iz1, iz2⟩ := info_parts Try.infoLtr
  have HH := Lib.hid (And.intro h (And.intro h2 (And.intro hg0 hg1)))
  clear h h2
  go_enter Try.func90, Try.ntmps90
  go_wp2_with fail
  go_loopw [3, 11] (fun s i wr => ((i = .int .i64 0 ∧ s = .int .i64 0) ∨ (i = .int .i64 1 ∧ s = .int .i64 n) ∨ (i = .int .i64 2 ∧ s = .int .i64 ((n + n2 : Nat) : Int))) ∧ wr = w) (fun _ i _ => 2 - (intOf i).toNat)
  case atStart => exact ⟨.inl ⟨rfl, rfl⟩, rfl⟩
  case round =>
    obtain ⟨hr, hwr⟩ := hrel
    subst hwr
    generalize hw0 : wr = w0 at *
    clear hw0
    rcases hr with ⟨rfl, rfl⟩ | ⟨rfl, rfl⟩ | ⟨rfl, rfl⟩
    · go_wp2_with fail
      go_roundw
      case rel => exact ⟨.inr (.inl ⟨by simp, by simp⟩), (by trivial)⟩
      case measure => simp [intOf]
    · go_wp2_with fail
      go_roundw
      case rel => exact ⟨.inr (.inr ⟨by simp, by simp⟩), (by trivial)⟩
      case measure => simp [intOf]
    · go_wp2_with fail
      refine (grow_Ltr (n + n2) _ (by omega)).mono ?_; rintro e w1 ⟨v1, rfl, ho1, hb1⟩
      have hw1 := hb1.size
      go_wp2_with fail
      go_loopw [6, 27] (fun out i wq => ((i = .int .i64 0 ∧ Hid (wq.ownsRow w0.heap.size 75 8 out 0 [])) ∨ (i = .int .i64 1 ∧ Hid (wq.ownsRow w0.heap.size 75 8 out n (l.flatMap Ltr.cs))) ∨ (i = .int .i64 2 ∧ Hid (wq.ownsRow w0.heap.size 75 8 out (n + n2) ((l ++ m).flatMap Ltr.cs)))) ∧ Below w0.heap.size w0 wq) (fun _ i _ => 2 - (intOf i).toNat)
      case atStart => exact ⟨.inl ⟨rfl, Lib.hid (by simpa using ho1)⟩, hb1⟩
      case round =>
        obtain ⟨hr, hbq⟩ := hrel
        have hg0' := cell_keep HH.out.2.2.1 hbq
        have hg1' := cell_keep HH.out.2.2.2 hbq
        have hwq := hbq.size
        rcases hr with ⟨rfl, hown⟩ | ⟨rfl, hown⟩ | ⟨rfl, hown⟩
        · go_wp2_with (at_builtin; refine wpList_append_sl rfl (.tmp 31) (.tmp 32) 61 rfl w0.heap.size 75 i0 (.agg #[.string ⟨#[]⟩, .int .i64 0, .int .i64 0, .int .i64 0, .string ⟨#[]⟩, .int .i64 0, .int .i64 0, .string ⟨#[]⟩]) 8 88 Try.underlying61 hi0 iz0 iz1 iz2 rfl (by decide) _ _ _ rfl hown.out A n c (l.flatMap Ltr.cs) rfl (by rw [flat_len _ 8 lenLtr, HH.out.1.len]) ((HH.out.1.now hbq).cellsLtr) (fun e => by have := HH.out.1; rw [e] at this; exact this.of_none.1) (oneLtr _) (by unfold maxLen; omega) (by omega) (by omega) ?_; intro v3 w3 ho3 hb3 hz3)
          go_roundw
          case rel =>
            refine ⟨.inr (.inl ⟨by simp, Lib.hid ?_⟩), hbq.trans hb3⟩
            simpa using ho3
          case measure => simp [intOf]
        · go_wp2_with (at_builtin; refine wpList_append_sl rfl (.tmp 31) (.tmp 32) 61 rfl w0.heap.size 75 i0 (.agg #[.string ⟨#[]⟩, .int .i64 0, .int .i64 0, .int .i64 0, .string ⟨#[]⟩, .int .i64 0, .int .i64 0, .string ⟨#[]⟩]) 8 88 Try.underlying61 hi0 iz0 iz1 iz2 rfl (by decide) _ _ _ rfl hown.out A2 n2 c2 (m.flatMap Ltr.cs) rfl (by rw [flat_len _ 8 lenLtr, HH.out.2.1.len]) ((HH.out.2.1.now hbq).cellsLtr) (fun e => by have := HH.out.2.1; rw [e] at this; exact this.of_none.1) (oneLtr _) (by unfold maxLen; omega) (by omega) (by omega) ?_; intro v3 w3 ho3 hb3 hz3)
          go_roundw
          case rel =>
            refine ⟨.inr (.inr ⟨by simp, Lib.hid ?_⟩), hbq.trans hb3⟩
            rw [List.flatMap_append]
            exact ho3
          case measure => simp [intOf]
        · go_wp2_with fail
          go_ret
          refine ⟨_, rfl, ?_, hbq⟩
          have e : (l ++ m).length = n + n2 := by rw [List.length_append, HH.out.1.len, HH.out.2.1.len]
          rw [e]
          exact hown.out
end Go.Proofs.Ytiplgdplfbeahaa
