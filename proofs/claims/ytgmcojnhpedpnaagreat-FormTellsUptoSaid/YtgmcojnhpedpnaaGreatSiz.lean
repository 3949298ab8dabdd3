/- expr.Size and the reference ExprSize. -/
import Derived.Test.YtgmcojnhpedpnaaGreatCop
namespace Go.Proofs.YtgmcojnhpedpnaaGreat
open Go.RowKit

mutual
def szN : Exp → Int
  | .mk _ _ _ args => szNL 1 args
def szNL (n : Int) : List Exp → Int
  | [] => n
  | a :: l => szNL (wrap64 (n + szN a)) l
end
mutual
def dpN : Exp → Int
  | .mk _ _ _ args => wrap64 (dpL 0 args + 1)
def dpL (d : Int) : List Exp → Int
  | [] => d
  | a :: l => dpL (max d (dpN a)) l
end
theorem szNL_snoc : ∀ (l : List Exp) (n : Int) (a : Exp), szNL n (l ++ [a]) = wrap64 (szNL n l + szN a)
  | [], n, a => by simp [szNL]
  | b :: l, n, a => by simp only [List.cons_append, szNL]; exact szNL_snoc l _ a
theorem dpL_snoc : ∀ (l : List Exp) (d : Int) (a : Exp), dpL d (l ++ [a]) = max (dpL d l) (dpN a)
  | [], d, a => by simp [dpL]
  | b :: l, d, a => by simp only [List.cons_append, dpL]; exact dpL_snoc l _ a
theorem szN_eq (x : Exp) : szN x = szNL 1 x.args := by cases x; simp [szN, Exp.args]
theorem dpN_eq (x : Exp) : dpN x = wrap64 (dpL 0 x.args + 1) := by cases x; simp [dpN, Exp.args]
def RetI2 (w : World) (a b : Int) (e : Ending) (w' : World) : Prop := e = .returned (.tuple #[.int .i64 a, .int .i64 b]) ∧ Below w.heap.size w w'
set_option maxRecDepth 100000 in
set_option maxHeartbeats 1000000 in
theorem expr_Size (N : Nat) : ∀ (x : Exp) (A : Option Addr) (c : Nat) (w : World), x.nodes ≤ N →
    XRep w (old w) [.int .i64 x.op, .int .i64 x.v.k, .int .i64 x.v.n, .string x.v.s, .string x.name, .slice A x.args.length c] x →
    Calls Tryz.prog 61 #[.agg #[.int .i64 x.op, .int .i64 x.v.k, .int .i64 x.v.n, .string x.v.s, .string x.name, .slice A x.args.length c]] w (RetI2 w (szN x) (dpN x)) := by
  induction N with
  | zero =>
    intro x A c w hN
    obtain ⟨op, v, nm, args⟩ := x
    simp [Exp.nodes] at hN
  | succ N ih =>
    intro x A c w hN hx
    have HI := Lib.hid ih
    clear ih
    obtain ⟨A0, c0, e0, i1, i2, i3, i4, i5, hsl⟩ := hx.open_
    simp only [List.cons.injEq, Value.slice.injEq, and_true, true_and] at e0
    obtain ⟨rfl, rfl⟩ := e0
    have hch : ∀ (i : Nat) (a : Exp), x.args[i]? = some a → a.nodes ≤ N := by
      obtain ⟨op, v, nm, args⟩ := x
      intro i a h
      have := nodes_at args i a h
      simp only [Exp.nodes] at hN
      omega
    have HH := Lib.hid (And.intro hsl hch)
    have hlen : x.args.length ≤ 1759218604416 := by unfold inB at i4; omega
    have hsz := szN_eq x
    have hdp := dpN_eq x
    generalize szN x = RN at hsz ⊢
    generalize dpN x = RD at hdp ⊢
    have HR := Lib.hid (And.intro hsz hdp)
    clear hsl hch hx hN i1 i2 i3 i4 i5 hsz hdp
    go_enter Tryz.func61, Tryz.ntmps61
    go_wp2_with fail
    go_loopw [4, 5, 13] (fun nn dd i wr => ∃ k : Nat, k ≤ x.args.length ∧ i = .int .i64 k ∧ nn = .int .i64 (szNL 1 (x.args.take k)) ∧ dd = .int .i64 (dpL 0 (x.args.take k)) ∧ Below (w.alloc (.cells #[.int .i64 x.op, .int .i64 x.v.k, .int .i64 x.v.n, .string x.v.s, .string x.name, .slice A x.args.length c] 26)).heap.size (w.alloc (.cells #[.int .i64 x.op, .int .i64 x.v.k, .int .i64 x.v.n, .string x.v.s, .string x.name, .slice A x.args.length c] 26)) wr) (fun _ _ i _ => x.args.length - (intOf i).toNat)
    case atStart => exact ⟨0, by omega, rfl, by simp [szNL], by simp [dpL], Below.refl _ _⟩
    case round =>
      obtain ⟨k, hk, rfl, rfl, rfl, hbr⟩ := hrel
      have hbw : Below w.heap.size w wr := alloc_below (by simpa using hbr)
      have hbx : wr.cell? ⟨w.heap.size, 5, none⟩ = some (.slice A x.args.length c) := (hbr.cell (p := ⟨w.heap.size, 5, none⟩) (by simp)).trans (by go_simp)
      by_cases hlt : k < x.args.length
      · obtain ⟨b, o, a, X, C, hAe, hbl, hl, hxa, x0, x1, x2, x3, x4, x5⟩ := Exp_at (HH.out.1.nowN keeps_Exp hbw) hlt
        subst hAe
        have hbl' : b < wr.heap.size := hbl
        have etn : szNL 1 (x.args.take (k + 1)) = wrap64 (szNL 1 (x.args.take k) + szN a) := by rw [List.take_add_one, hl]; exact szNL_snoc _ _ _
        have etd : dpL 0 (x.args.take (k + 1)) = max (dpL 0 (x.args.take k)) (dpN a) := by rw [List.take_add_one, hl]; exact dpL_snoc _ _ _
        have HX := Lib.hid (And.intro hxa (And.intro (HH.out.2 k a hl) (And.intro etn etd)))
        generalize szNL 1 (x.args.take k) = n0 at etn HX ⊢
        generalize dpL 0 (x.args.take k) = d0 at etd HX ⊢
        clear hxa hl etn etd hbl
        go_wp2_with fail
        refine (HI.out a X C _ HX.out.2.1 (HX.out.1.keep (old_keep bel))).mono ?_; rintro e w2 ⟨rfl, hb2⟩
        generalize szN a = na at HX ⊢
        generalize dpN a = da at HX ⊢
        go_wp2_with fail
        go_roundw
        case rel => exact ⟨k + 1, by omega, by go_num, by rw [HX.out.2.2.1], by rw [HX.out.2.2.2]; congr 1; split <;> omega, bel⟩
        case measure => simp [intOf]; omega
      · have hkn : k = x.args.length := by omega
        subst hkn
        have etk : x.args.take x.args.length = x.args := List.take_of_length_le (Nat.le_refl _)
        rw [etk]
        go_wp2_with fail
        go_ret2
        exact ⟨(rfl : _ = Ending.returned (.tuple #[.int .i64 (szNL 1 x.args), .int .i64 (wrap64 (dpL 0 x.args + 1))])).trans (by rw [HR.out.1, HR.out.2]), hbw⟩
set_option maxRecDepth 100000 in
set_option maxHeartbeats 1000000 in
theorem ref_ExprSize (N : Nat) : ∀ (x : Exp) (A : Option Addr) (c : Nat) (w : World), x.nodes ≤ N →
    XRep w (old w) [.int .i64 x.op, .int .i64 x.v.k, .int .i64 x.v.n, .string x.v.s, .string x.name, .slice A x.args.length c] x →
    Calls Tryz.prog 67 #[.agg #[.int .i64 x.op, .int .i64 x.v.k, .int .i64 x.v.n, .string x.v.s, .string x.name, .slice A x.args.length c]] w (RetI2 w (szN x) (dpN x)) := by
  induction N with
  | zero =>
    intro x A c w hN
    obtain ⟨op, v, nm, args⟩ := x
    simp [Exp.nodes] at hN
  | succ N ih =>
    intro x A c w hN hx
    have HI := Lib.hid ih
    clear ih
    obtain ⟨A0, c0, e0, i1, i2, i3, i4, i5, hsl⟩ := hx.open_
    simp only [List.cons.injEq, Value.slice.injEq, and_true, true_and] at e0
    obtain ⟨rfl, rfl⟩ := e0
    have hch : ∀ (i : Nat) (a : Exp), x.args[i]? = some a → a.nodes ≤ N := by
      obtain ⟨op, v, nm, args⟩ := x
      intro i a h
      have := nodes_at args i a h
      simp only [Exp.nodes] at hN
      omega
    have HH := Lib.hid (And.intro hsl hch)
    have hlen : x.args.length ≤ 1759218604416 := by unfold inB at i4; omega
    have hsz := szN_eq x
    have hdp := dpN_eq x
    generalize szN x = RN at hsz ⊢
    generalize dpN x = RD at hdp ⊢
    have HR := Lib.hid (And.intro hsz hdp)
    clear hsl hch hx hN i1 i2 i3 i4 i5 hsz hdp
    go_enter Tryz.func67, Tryz.ntmps67
    go_wp2_with fail
    go_loopw [4, 5, 6] (fun nn dd i wr => ∃ k : Nat, k ≤ x.args.length ∧ i = .int .i64 k ∧ nn = .int .i64 (szNL 1 (x.args.take k)) ∧ dd = .int .i64 (dpL 0 (x.args.take k)) ∧ Below (w.alloc (.cells #[.int .i64 x.op, .int .i64 x.v.k, .int .i64 x.v.n, .string x.v.s, .string x.name, .slice A x.args.length c] 26)).heap.size (w.alloc (.cells #[.int .i64 x.op, .int .i64 x.v.k, .int .i64 x.v.n, .string x.v.s, .string x.name, .slice A x.args.length c] 26)) wr) (fun _ _ i _ => x.args.length - (intOf i).toNat)
    case atStart => exact ⟨0, by omega, rfl, by simp [szNL], by simp [dpL], Below.refl _ _⟩
    case round =>
      obtain ⟨k, hk, rfl, rfl, rfl, hbr⟩ := hrel
      have hbw : Below w.heap.size w wr := alloc_below (by simpa using hbr)
      have hbx : wr.cell? ⟨w.heap.size, 5, none⟩ = some (.slice A x.args.length c) := (hbr.cell (p := ⟨w.heap.size, 5, none⟩) (by simp)).trans (by go_simp)
      by_cases hlt : k < x.args.length
      · obtain ⟨b, o, a, X, C, hAe, hbl, hl, hxa, x0, x1, x2, x3, x4, x5⟩ := Exp_at (HH.out.1.nowN keeps_Exp hbw) hlt
        subst hAe
        have hbl' : b < wr.heap.size := hbl
        have etn : szNL 1 (x.args.take (k + 1)) = wrap64 (szNL 1 (x.args.take k) + szN a) := by rw [List.take_add_one, hl]; exact szNL_snoc _ _ _
        have etd : dpL 0 (x.args.take (k + 1)) = max (dpL 0 (x.args.take k)) (dpN a) := by rw [List.take_add_one, hl]; exact dpL_snoc _ _ _
        have HX := Lib.hid (And.intro hxa (And.intro (HH.out.2 k a hl) (And.intro etn etd)))
        generalize szNL 1 (x.args.take k) = n0 at etn HX ⊢
        generalize dpL 0 (x.args.take k) = d0 at etd HX ⊢
        clear hxa hl etn etd hbl
        go_wp2_with fail
        refine (HI.out a X C _ HX.out.2.1 (HX.out.1.keep (old_keep bel))).mono ?_; rintro e w2 ⟨rfl, hb2⟩
        generalize szN a = na at HX ⊢
        generalize dpN a = da at HX ⊢
        by_cases hmx : d0 < da
        · go_wp2_with fail
          go_roundw
          case rel => exact ⟨k + 1, by omega, by go_num, by rw [HX.out.2.2.1], by rw [HX.out.2.2.2, Int.max_eq_right (by omega)], bel⟩
          case measure => simp [intOf]; omega
        · go_wp2_with fail
          go_roundw
          case rel => exact ⟨k + 1, by omega, by go_num, by rw [HX.out.2.2.1], by rw [HX.out.2.2.2, Int.max_eq_left (by omega)], bel⟩
          case measure => simp [intOf]; omega
      · have hkn : k = x.args.length := by omega
        subst hkn
        have etk : x.args.take x.args.length = x.args := List.take_of_length_le (Nat.le_refl _)
        rw [etk]
        go_wp2_with fail
        go_ret2
        exact ⟨(rfl : _ = Ending.returned (.tuple #[.int .i64 (szNL 1 x.args), .int .i64 (wrap64 (dpL 0 x.args + 1))])).trans (by rw [HR.out.1, HR.out.2]), hbw⟩
end Go.Proofs.YtgmcojnhpedpnaaGreat
