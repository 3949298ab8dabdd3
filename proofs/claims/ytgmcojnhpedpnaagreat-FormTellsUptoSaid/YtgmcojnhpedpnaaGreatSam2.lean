/- samePages: true of pages and their like. -/
import Derived.Test.YtgmcojnhpedpnaaGreatSam
import Derived.Test.YtgmcojnhpedpnaaGreatPag1
import Derived.Test.YtgmcojnhpedpnaaGreatSame1
namespace Go.Proofs.YtgmcojnhpedpnaaGreat
open Go.RowKit

theorem Sl.strOf {w : World} {S : Nat → Prop} {A : Option Addr} {n : Nat} {l : List ByteArray} (h : Sl w S 1 RStr A n l) : Sl w S 1 (fun cs s => cs = [Value.string s]) A n l :=
  h.keep (fun _ _ => rfl) (fun _ _ h => h.1)
abbrev Pag.cells (p : Pag) (Y : Option Addr) (D : Nat) (X : Option Addr) (C : Nat) : List Value := [.string p.name, .slice Y p.fields.length D, .int .i64 p.skip.op, .int .i64 p.skip.v.k, .int .i64 p.skip.v.n, .string p.skip.v.s, .string p.skip.name, .slice X p.skip.args.length C]
set_option maxRecDepth 100000 in
set_option maxHeartbeats 1000000 in
theorem samePages_1 (p : Pag) (Y X Y' X' : Option Addr) (D C D' C' : Nat) (w : World) (h : RPag w (old w) (p.cells Y D X C) p) (h' : RPag w (old w) (p.cells Y' D' X' C') p) :
    Calls Tryz.prog 91 #[.agg #[.string p.name, .slice Y p.fields.length D, .int .i64 p.skip.op, .int .i64 p.skip.v.k, .int .i64 p.skip.v.n, .string p.skip.v.s, .string p.skip.name, .slice X p.skip.args.length C],
      .agg #[.string p.name, .slice Y' p.fields.length D', .int .i64 p.skip.op, .int .i64 p.skip.v.k, .int .i64 p.skip.v.n, .string p.skip.v.s, .string p.skip.name, .slice X' p.skip.args.length C']] w (RetB w true) := by
  obtain ⟨_, r2, _, r4, r5⟩ := h.open_
  obtain ⟨_, _, _, s4, s5⟩ := h'.open_
  have hn : p.fields.length ≤ 9223372036854775807 := by unfold inB at r2; omega
  have HH := Lib.hid (And.intro r4 (And.intro r5 (And.intro s4 s5)))
  clear h h' r4 r5 s4 s5
  go_enter Tryz.func91, Tryz.ntmps91
  go_wp2_with fail
  refine (slices_Equal_Str Y Y' _ D _ D' p.fields _ _ _ hn (HH.out.1.now bel).strOf (HH.out.2.2.1.now bel).strOf).mono ?_; rintro e w1 ⟨rfl, q, rfl⟩
  go_wp2_with fail
  refine (same_Expr _ p.skip X C X' C' _ (Nat.le_refl _) (HH.out.2.1.keep (old_keep bel)) (HH.out.2.2.2.keep (old_keep bel))).mono ?_; rintro e w2 ⟨rfl, hb2⟩
  go_wp2_with fail
  go_ret
  exact ⟨rfl, bel⟩
theorem cf_samePages1 (args : Array Value) (w : World) : (callFunc 91 args).run Tryz.prog w = .ok (.enter 91 args) w :=
  cf _ _ Tryz.func91 (by kernel_rfl) (by kernel_rfl) args w
set_option maxRecDepth 100000 in
set_option maxHeartbeats 1000000 in
theorem equal_Pags (l : List Pag) (A : Option Addr) (n c : Nat) (A' : Option Addr) (c' : Nat) (w : World) (hn : inL n) (h : Sl w (old w) 8 (RPag w (old w)) A n l) (h' : Sl w (old w) 8 (RPag w (old w)) A' n l) :
    Calls Tryz.prog 90 #[.slice A n c, .slice A' n c', .func (.func 91) #[] #[]] w (RetB w true) := by
  unfold inL at hn
  have HH := Lib.hid (And.intro h h')
  have hcf := cf_samePages1
  clear h h'
  go_enter Tryz.func90, Tryz.ntmps90
  go_wp2_with fail
  go_loopw [17] (fun i wr => ∃ k : Nat, k ≤ n ∧ i = .int .i64 k ∧ Below w.heap.size w wr) (fun i _ => n - (intOf i).toNat)
  case atStart => exact ⟨0, by omega, rfl, Below.refl _ _⟩
  case round =>
    obtain ⟨k, hk, rfl, hb⟩ := hrel
    by_cases hlt : k < n
    · obtain ⟨b1, o1, a, Y, D, X, C, rfl, hb1, hl, hx, x0, x1, x2, x3, x4, x5, x6, x7⟩ := Pag_at (HH.out.1.nowN keeps_Pag hb) hlt
      obtain ⟨b2, o2, a', Y', D', X', C', rfl, hb2, hl', hx', y0, y1, y2, y3, y4, y5, y6, y7⟩ := Pag_at (HH.out.2.nowN keeps_Pag hb) hlt
      rw [hl] at hl'
      cases hl'
      have hb1' : b1 < wr.heap.size := hb1
      have hb2' : b2 < wr.heap.size := hb2
      have HX := Lib.hid (And.intro hx hx')
      clear hx hx' hl hb1 hb2
      go_wp2_with fail
      refine (samePages_1 a Y X Y' X' D C D' C' _ (HX.out.1.keep (old_keep bel)) (HX.out.2.keep (old_keep bel))).mono ?_; rintro e w3 ⟨rfl, hb3⟩
      go_wp2_with fail
      go_roundw
      case rel => exact ⟨k + 1, by omega, by go_num, bel⟩
      case measure => simp [intOf]; omega
    · go_wp2_with fail
      go_ret
      exact ⟨rfl, hb⟩
set_option maxHeartbeats 400000 in
theorem same_Pages (l : List Pag) (A : Option Addr) (n c : Nat) (A' : Option Addr) (c' : Nat) (w : World) (hn : inL n) (h : Sl w (old w) 8 (RPag w (old w)) A n l) (h' : Sl w (old w) 8 (RPag w (old w)) A' n l) :
    Calls Tryz.prog 50 #[.slice A n c, .slice A' n c'] w (RetB w true) := by
  have HH := Lib.hid (And.intro h h')
  clear h h'
  go_enter Tryz.func50, Tryz.ntmps50
  go_wp2_with (go_at_call 90; refine (equal_Pags l A n c A' c' _ hn HH.out.1 HH.out.2).mono ?_; rintro e w1 ⟨rfl, hb1⟩)
  go_ret
  exact ⟨rfl, hb1⟩
end Go.Proofs.YtgmcojnhpedpnaaGreat
