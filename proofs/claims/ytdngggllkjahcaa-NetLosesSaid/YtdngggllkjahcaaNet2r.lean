/- The references letter and around. -/
import Derived.Test.YtdngggllkjahcaaNet1r
import Derived.Test.YtdngggllkjahcaaNet2
namespace Go.Proofs.Ytdngggllkjahcaa
open Go.RowKit

set_option maxRecDepth 100000 in
set_option maxHeartbeats 2000000 in
theorem ref_letter (A : Option Addr) (n c : Nat) (l : List Ltr) (i : Int) (w : World) (hn : inL n) (h : Sl w (old w) 8 RLtr A n l) :
    Calls Try.prog 13 #[.slice A n c, .int .i64 i] w (RetI w (ltrAt l i).2) := by
  have HH := Lib.hid h
  have hlen := h.len
  clear h
  rcases ltrAt_cases l i with ⟨h0, e⟩ | ⟨h0, h1, e⟩ | ⟨h0, h1, h2, e⟩ | ⟨h0, k, x, rfl, h1, h2, e⟩ <;> rw [e] <;> clear e
  · have h0' : (ltrCheck l != 0) = true := by simpa using h0
    clear h0
    go_enter Try.func13, Try.ntmps13
    go_wp2_with (go_at_call 19; refine (ref_LettersFault A n c l _ hn (HH.out.now (by repeat (first | with_reducible exact Below.refl _ _ | with_reducible assumption | with_reducible refine below_drewN ?_ _ | with_reducible refine Below.drew ?_ | with_reducible refine below_alloc0 ?_ | with_reducible refine below_alloc ?_ (by simp; try omega) | with_reducible refine below_set ?_ (by simp; try omega) | with_reducible refine below_chain ?_ (by assumption) | (with_reducible refine below_step ?_ (by assumption) (by simp; try omega)))))).mono ?_; rintro e w1 ⟨rfl, hb1⟩)
    go_ret
    exact ⟨rfl, (by repeat (first | with_reducible exact Below.refl _ _ | with_reducible assumption | with_reducible refine below_drewN ?_ _ | with_reducible refine Below.drew ?_ | with_reducible refine below_alloc0 ?_ | with_reducible refine below_alloc ?_ (by simp; try omega) | with_reducible refine below_set ?_ (by simp; try omega) | with_reducible refine below_chain ?_ (by assumption) | (with_reducible refine below_step ?_ (by assumption) (by simp; try omega))))⟩
  · have h0' : (ltrCheck l != 0) = false := by simpa using h0
    clear h0
    go_enter Try.func13, Try.ntmps13
    go_wp2_with (go_at_call 19; refine (ref_LettersFault A n c l _ hn (HH.out.now (by repeat (first | with_reducible exact Below.refl _ _ | with_reducible assumption | with_reducible refine below_drewN ?_ _ | with_reducible refine Below.drew ?_ | with_reducible refine below_alloc0 ?_ | with_reducible refine below_alloc ?_ (by simp; try omega) | with_reducible refine below_set ?_ (by simp; try omega) | with_reducible refine below_chain ?_ (by assumption) | (with_reducible refine below_step ?_ (by assumption) (by simp; try omega)))))).mono ?_; rintro e w1 ⟨rfl, hb1⟩)
    go_ret
    exact ⟨rfl, (by repeat (first | with_reducible exact Below.refl _ _ | with_reducible assumption | with_reducible refine below_drewN ?_ _ | with_reducible refine Below.drew ?_ | with_reducible refine below_alloc0 ?_ | with_reducible refine below_alloc ?_ (by simp; try omega) | with_reducible refine below_set ?_ (by simp; try omega) | with_reducible refine below_chain ?_ (by assumption) | (with_reducible refine below_step ?_ (by assumption) (by simp; try omega))))⟩
  · have h0' : (ltrCheck l != 0) = false := by simpa using h0
    rw [hlen] at h2
    clear h0
    go_enter Try.func13, Try.ntmps13
    go_wp2_with (go_at_call 19; refine (ref_LettersFault A n c l _ hn (HH.out.now (by repeat (first | with_reducible exact Below.refl _ _ | with_reducible assumption | with_reducible refine below_drewN ?_ _ | with_reducible refine Below.drew ?_ | with_reducible refine below_alloc0 ?_ | with_reducible refine below_alloc ?_ (by simp; try omega) | with_reducible refine below_set ?_ (by simp; try omega) | with_reducible refine below_chain ?_ (by assumption) | (with_reducible refine below_step ?_ (by assumption) (by simp; try omega)))))).mono ?_; rintro e w1 ⟨rfl, hb1⟩)
    go_ret
    exact ⟨rfl, (by repeat (first | with_reducible exact Below.refl _ _ | with_reducible assumption | with_reducible refine below_drewN ?_ _ | with_reducible refine Below.drew ?_ | with_reducible refine below_alloc0 ?_ | with_reducible refine below_alloc ?_ (by simp; try omega) | with_reducible refine below_set ?_ (by simp; try omega) | with_reducible refine below_chain ?_ (by assumption) | (with_reducible refine below_step ?_ (by assumption) (by simp; try omega))))⟩
  · have h0' : (ltrCheck l != 0) = false := by simpa using h0
    rw [hlen] at h1
    clear h0 h2
    go_enter Try.func13, Try.ntmps13
    go_wp2_with (go_at_call 19; refine (ref_LettersFault A n c l _ hn (HH.out.now (by repeat (first | with_reducible exact Below.refl _ _ | with_reducible assumption | with_reducible refine below_drewN ?_ _ | with_reducible refine Below.drew ?_ | with_reducible refine below_alloc0 ?_ | with_reducible refine below_alloc ?_ (by simp; try omega) | with_reducible refine below_set ?_ (by simp; try omega) | with_reducible refine below_chain ?_ (by assumption) | (with_reducible refine below_step ?_ (by assumption) (by simp; try omega)))))).mono ?_; rintro e w1 ⟨rfl, hb1⟩)
    go_ret
    exact ⟨rfl, (by repeat (first | with_reducible exact Below.refl _ _ | with_reducible assumption | with_reducible refine below_drewN ?_ _ | with_reducible refine Below.drew ?_ | with_reducible refine below_alloc0 ?_ | with_reducible refine below_alloc ?_ (by simp; try omega) | with_reducible refine below_set ?_ (by simp; try omega) | with_reducible refine below_chain ?_ (by assumption) | (with_reducible refine below_step ?_ (by assumption) (by simp; try omega))))⟩
def around (l : List Ltr) (k : Nat) (m : List Ltr) : List Ltr := l.take k ++ m ++ l.drop (k + 1)
set_option maxRecDepth 100000 in
set_option maxHeartbeats 2000000 in
theorem ref_around (A : Option Addr) (n c : Nat) (l : List Ltr) (k : Nat) (A2 : Option Addr) (n2 c2 : Nat) (m : List Ltr) (w : World) (hn : n ≤ 24) (hc : n ≤ c) (hk : k < n) (h2 : n2 ≤ 2) (h : Sl w (old w) 8 RLtr A n l) (hm : Sl w (old w) 8 RLtr A2 n2 m) :
    Calls Try.prog 14 #[.slice A n c, .int .i64 k, .slice A2 n2 c2] w (OwnRow Ltr.cs 31 8 w (around l k m)) := by
  obtain ⟨i0, hi0, iz0, iz1, iz2⟩ := info_parts Try.infoLtr
  obtain ⟨A', hA', hcut⟩ := h.cut (k := k + 1) (by omega) hc
  have hlr : (around l k m).length = k + n2 + (n - (k + 1)) := by
    have h1 := h.len
    have h2 := hm.len
    simp only [around, List.length_append, List.length_take, List.length_drop, h1, h2]
    omega
  have HH := Lib.hid (And.intro h (And.intro hcut (And.intro hm hlr)))
  have hkc : k ≤ c := by omega
  have hkn : k ≤ n := by omega
  have hk1 : k + 1 ≤ n := by omega
  clear h hcut hm hlr
  go_enter Try.func14, Try.ntmps14
  go_wp2_with (at_builtin; first
    | (refine wpList_append_sl rfl (.tmp 8) (.tmp 11) 22 rfl w.heap.size 31 i0 (.agg #[.string ⟨#[]⟩, .int .i64 0, .int .i64 0, .int .i64 0, .string ⟨#[]⟩, .int .i64 0, .int .i64 0, .string ⟨#[]⟩]) 8 88 Try.underlying22 hi0 iz0 iz1 iz2 rfl (by decide) _ 0 [] rfl (World.ownsRow_made w #[] 0 (Nat.le_refl _) (Nat.zero_le _) (by simp)) A k c ((l.take k).flatMap Ltr.cs) rfl (by rw [flat_len _ 8 lenLtr, List.length_take, HH.out.1.len, Nat.min_eq_left (by omega)]) (((HH.out.1.now (below_alloc0 (Below.refl _ _))).take' (by omega)).cellsLtr) (fun e => by have := HH.out.1; rw [e] at this; have := this.of_none.1; omega) (oneLtr _) (by unfold maxLen; omega) (by omega) (by simp) ?_; intro v1 w1 ho1 hb1 hz1; (try simp at hz1))
    | (refine wpList_append_sl rfl (.tmp 13) (.tmp 14) 22 rfl w.heap.size 31 i0 (.agg #[.string ⟨#[]⟩, .int .i64 0, .int .i64 0, .int .i64 0, .string ⟨#[]⟩, .int .i64 0, .int .i64 0, .string ⟨#[]⟩]) 8 88 Try.underlying22 hi0 iz0 iz1 iz2 rfl (by decide) v1 _ _ rfl ho1 A2 n2 c2 (m.flatMap Ltr.cs) rfl (by rw [flat_len _ 8 lenLtr, HH.out.2.2.1.len]) ((HH.out.2.2.1.now (Below.trans (below_alloc0 (Below.refl _ _)) hb1)).cellsLtr) (fun e => by have := HH.out.2.2.1; rw [e] at this; exact this.of_none.1) (oneLtr _) (by unfold maxLen; omega) (by omega) (by omega) ?_; intro v2 w2 ho2 hb2 hz2)
    | (refine wpList_append_sl rfl (.tmp 16) (.tmp 20) 22 rfl w.heap.size 31 i0 (.agg #[.string ⟨#[]⟩, .int .i64 0, .int .i64 0, .int .i64 0, .string ⟨#[]⟩, .int .i64 0, .int .i64 0, .string ⟨#[]⟩]) 8 88 Try.underlying22 hi0 iz0 iz1 iz2 rfl (by decide) v2 _ _ rfl ho2 A' (n - (k + 1)) (c - (k + 1)) ((l.drop (k + 1)).flatMap Ltr.cs) rfl (by rw [flat_len _ 8 lenLtr, List.length_drop, HH.out.1.len]) ((HH.out.2.1.now (Below.trans (Below.trans (below_alloc0 (Below.refl _ _)) hb1) hb2)).cellsLtr) (fun e => by have := HH.out.2.1; rw [e] at this; exact this.of_none.1) (oneLtr _) (by unfold maxLen; omega) (by omega) (by omega) ?_; intro v3 w3 ho3 hb3 hz3))
  go_ret
  refine ⟨v3, rfl, ?_, Below.trans (Below.trans (Below.trans (below_alloc0 (Below.refl _ _)) hb1) hb2) hb3⟩
  have e : [] ++ List.flatMap Ltr.cs (l.take k) ++ List.flatMap Ltr.cs m ++ List.flatMap Ltr.cs (l.drop (k + 1)) = (around l k m).flatMap Ltr.cs := by simp [around]
  have e2 : 0 + k + n2 + (n - (k + 1)) = (around l k m).length := by rw [HH.out.2.2.2]; omega
  rw [e, e2] at ho3
  exact ho3
end Go.Proofs.Ytdngggllkjahcaa
