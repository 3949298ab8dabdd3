/- sameFields: true of fields and their like. -/
import Derived.Test.YtgmcojnhpedpnaaGreatSam
import Derived.Test.YtgmcojnhpedpnaaGreatRig
namespace Go.Proofs.YtgmcojnhpedpnaaGreat
open Go.RowKit

set_option maxRecDepth 100000 in
set_option maxHeartbeats 1000000 in
theorem sameFields_1 (f : Fld) (X X' : Option Addr) (C C' : Nat) (w : World) (h : RFld w (old w) [.string f.name, .int .i64 f.kind, .int .i64 f.type, .int .i64 f.source.op, .int .i64 f.source.v.k, .int .i64 f.source.v.n, .string f.source.v.s, .string f.source.name, .slice X f.source.args.length C] f) (h' : RFld w (old w) [.string f.name, .int .i64 f.kind, .int .i64 f.type, .int .i64 f.source.op, .int .i64 f.source.v.k, .int .i64 f.source.v.n, .string f.source.v.s, .string f.source.name, .slice X' f.source.args.length C'] f) :
    Calls Tryz.prog 89 #[.agg #[.string f.name, .int .i64 f.kind, .int .i64 f.type, .int .i64 f.source.op, .int .i64 f.source.v.k, .int .i64 f.source.v.n, .string f.source.v.s, .string f.source.name, .slice X f.source.args.length C], .agg #[.string f.name, .int .i64 f.kind, .int .i64 f.type, .int .i64 f.source.op, .int .i64 f.source.v.k, .int .i64 f.source.v.n, .string f.source.v.s, .string f.source.name, .slice X' f.source.args.length C']] w (RetB w true) := by
  obtain ⟨_, _, _, r4⟩ := h.parts
  obtain ⟨_, _, _, s4⟩ := h'.parts
  have HH := Lib.hid (And.intro r4 s4)
  clear h h' r4 s4
  go_enter Tryz.func89, Tryz.ntmps89
  go_wp2_with fail
  refine (same_Expr _ f.source X C X' C' _ (Nat.le_refl _) (HH.out.1.keep (old_keep bel)) (HH.out.2.keep (old_keep bel))).mono ?_; rintro e w2 ⟨rfl, hb2⟩
  go_wp2_with fail
  go_ret
  exact ⟨rfl, bel⟩
theorem cf_sameFields1 (args : Array Value) (w : World) : (callFunc 89 args).run Tryz.prog w = .ok (.enter 89 args) w :=
  cf _ _ Tryz.func89 (by kernel_rfl) (by kernel_rfl) args w
set_option maxRecDepth 100000 in
set_option maxHeartbeats 1000000 in
theorem equal_Flds (l : List Fld) (A : Option Addr) (n c : Nat) (A' : Option Addr) (c' : Nat) (w : World) (hn : inL n) (h : Sl w (old w) 9 (RFld w (old w)) A n l) (h' : Sl w (old w) 9 (RFld w (old w)) A' n l) :
    Calls Tryz.prog 88 #[.slice A n c, .slice A' n c', .func (.func 89) #[] #[]] w (RetB w true) := by
  unfold inL at hn
  have HH := Lib.hid (And.intro h h')
  have hcf := cf_sameFields1
  clear h h'
  go_enter Tryz.func88, Tryz.ntmps88
  go_wp2_with fail
  go_loopw [17] (fun i wr => ∃ k : Nat, k ≤ n ∧ i = .int .i64 k ∧ Below w.heap.size w wr) (fun i _ => n - (intOf i).toNat)
  case atStart => exact ⟨0, by omega, rfl, Below.refl _ _⟩
  case round =>
    obtain ⟨k, hk, rfl, hb⟩ := hrel
    by_cases hlt : k < n
    · obtain ⟨b1, o1, a, X, C, rfl, hb1, hl, hx, x0, x1, x2, x3, x4, x5, x6, x7, x8⟩ := Fld_at (HH.out.1.nowN keeps_Fld hb) hlt
      obtain ⟨b2, o2, a', X', C', rfl, hb2, hl', hx', y0, y1, y2, y3, y4, y5, y6, y7, y8⟩ := Fld_at (HH.out.2.nowN keeps_Fld hb) hlt
      rw [hl] at hl'
      cases hl'
      have hb1' : b1 < wr.heap.size := hb1
      have hb2' : b2 < wr.heap.size := hb2
      have HX := Lib.hid (And.intro hx hx')
      clear hx hx' hl hb1 hb2
      go_wp2_with fail
      refine (sameFields_1 a X X' C C' _ (RFld.keep HX.out.1 (old_keep bel)) (RFld.keep HX.out.2 (old_keep bel))).mono ?_; rintro e w3 ⟨rfl, hb3⟩
      go_wp2_with fail
      go_roundw
      case rel => exact ⟨k + 1, by omega, by go_num, bel⟩
      case measure => simp [intOf]; omega
    · go_wp2_with fail
      go_ret
      exact ⟨rfl, hb⟩
set_option maxHeartbeats 400000 in
theorem same_Fields (l : List Fld) (A : Option Addr) (n c : Nat) (A' : Option Addr) (c' : Nat) (w : World) (hn : inL n) (h : Sl w (old w) 9 (RFld w (old w)) A n l) (h' : Sl w (old w) 9 (RFld w (old w)) A' n l) :
    Calls Tryz.prog 49 #[.slice A n c, .slice A' n c'] w (RetB w true) := by
  have HH := Lib.hid (And.intro h h')
  clear h h'
  go_enter Tryz.func49, Tryz.ntmps49
  go_wp2_with (go_at_call 88; refine (equal_Flds l A n c A' c' _ hn HH.out.1 HH.out.2).mono ?_; rintro e w1 ⟨rfl, hb1⟩)
  go_ret
  exact ⟨rfl, hb1⟩
end Go.Proofs.YtgmcojnhpedpnaaGreat
