/- sameExpr: true of a formula and its like. -/
import Derived.Test.YtgmcojnhpedpnaaGreatCop
import Derived.Test.YtgmcojnhpedpnaaGreatRow
import Derived.Test.YtgmcojnhpedpnaaGreatNum
namespace Go.Proofs.YtgmcojnhpedpnaaGreat
open Go.RowKit

abbrev Exp.cells (x : Exp) (A : Option Addr) (c : Nat) : List Value := [.int .i64 x.op, .int .i64 x.v.k, .int .i64 x.v.n, .string x.v.s, .string x.name, .slice A x.args.length c]
theorem cf_sameExpr (args : Array Value) (w : World) : (callFunc 11 args).run Tryz.prog w = .ok (.enter 11 args) w :=
  cf _ _ Tryz.func11 (by kernel_rfl) (by kernel_rfl) args w
set_option maxRecDepth 100000 in
set_option maxHeartbeats 1000000 in
theorem equal_Exprs (l : List Exp) (A : Option Addr) (n c : Nat) (A' : Option Addr) (c' : Nat) (w : World) (hn : inL n) (h : Sl w (old w) 6 (XRep w (old w)) A n l) (h' : Sl w (old w) 6 (XRep w (old w)) A' n l)
    (hcall : ∀ (wr : World) (k : Nat) (a : Exp) (X : Option Addr) (C : Nat) (X' : Option Addr) (C' : Nat), l[k]? = some a → XRep wr (old wr) (a.cells X C) a → XRep wr (old wr) (a.cells X' C') a →
      Calls Tryz.prog 11 #[.agg #[.int .i64 a.op, .int .i64 a.v.k, .int .i64 a.v.n, .string a.v.s, .string a.name, .slice X a.args.length C], .agg #[.int .i64 a.op, .int .i64 a.v.k, .int .i64 a.v.n, .string a.v.s, .string a.name, .slice X' a.args.length C']] wr (RetB wr true)) :
    Calls Tryz.prog 34 #[.slice A n c, .slice A' n c', .func (.func 11) #[] #[]] w (RetB w true) := by
  unfold inL at hn
  have HH := Lib.hid (And.intro h (And.intro h' hcall))
  have hcf := cf_sameExpr
  clear h h' hcall
  go_enter Tryz.func34, Tryz.ntmps34
  go_wp2_with fail
  go_loopw [17] (fun i wr => ∃ k : Nat, k ≤ n ∧ i = .int .i64 k ∧ Below w.heap.size w wr) (fun i _ => n - (intOf i).toNat)
  case atStart => exact ⟨0, by omega, rfl, Below.refl _ _⟩
  case round =>
    obtain ⟨k, hk, rfl, hb⟩ := hrel
    by_cases hlt : k < n
    · obtain ⟨b1, o1, a, X, C, rfl, hb1, hl, hx, x0, x1, x2, x3, x4, x5⟩ := Exp_at (HH.out.1.nowN keeps_Exp hb) hlt
      obtain ⟨b2, o2, a', X', C', rfl, hb2, hl', hx', y0, y1, y2, y3, y4, y5⟩ := Exp_at (HH.out.2.1.nowN keeps_Exp hb) hlt
      rw [hl] at hl'
      cases hl'
      have hb1' : b1 < wr.heap.size := hb1
      have hb2' : b2 < wr.heap.size := hb2
      have HX := Lib.hid (And.intro hx (And.intro hx' hl))
      clear hx hx' hl hb1 hb2
      go_wp2_with fail
      refine (HH.out.2.2 _ k a X C X' C' HX.out.2.2 (HX.out.1.keep (old_keep bel)) (HX.out.2.1.keep (old_keep bel))).mono ?_; rintro e w3 ⟨rfl, hb3⟩
      go_wp2_with fail
      go_roundw
      case rel => exact ⟨k + 1, by omega, by go_num, bel⟩
      case measure => simp [intOf]; omega
    · go_wp2_with fail
      go_ret
      exact ⟨rfl, hb⟩
set_option maxRecDepth 100000 in
set_option maxHeartbeats 1000000 in
theorem same_Expr (N : Nat) : ∀ (x : Exp) (A : Option Addr) (c : Nat) (A' : Option Addr) (c' : Nat) (w : World), x.nodes ≤ N → XRep w (old w) (x.cells A c) x → XRep w (old w) (x.cells A' c') x →
    Calls Tryz.prog 11 #[.agg #[.int .i64 x.op, .int .i64 x.v.k, .int .i64 x.v.n, .string x.v.s, .string x.name, .slice A x.args.length c], .agg #[.int .i64 x.op, .int .i64 x.v.k, .int .i64 x.v.n, .string x.v.s, .string x.name, .slice A' x.args.length c']] w (RetB w true) := by
  induction N with
  | zero =>
    intro x A c A' c' w hN
    obtain ⟨op, v, nm, args⟩ := x
    simp [Exp.nodes] at hN
  | succ N ih =>
    intro x A c A' c' w hN hx hx'
    have HI := Lib.hid ih
    clear ih
    obtain ⟨A0, c0, e0, _, _, _, i4, _, hsl⟩ := hx.open_
    simp only [List.cons.injEq, Value.slice.injEq, and_true, true_and] at e0
    obtain ⟨rfl, rfl⟩ := e0
    obtain ⟨A1, c1, e1, _, _, _, _, _, hsl'⟩ := hx'.open_
    simp only [List.cons.injEq, Value.slice.injEq, and_true, true_and] at e1
    obtain ⟨rfl, rfl⟩ := e1
    have hch : ∀ (i : Nat) (a : Exp), x.args[i]? = some a → a.nodes ≤ N := by
      obtain ⟨op, v, nm, args⟩ := x
      intro i a h
      have := nodes_at args i a h
      simp only [Exp.nodes] at hN
      omega
    have hcalls := fun w h h' => equal_Exprs x.args A x.args.length c A' c' w (i4.l (by decide)) h h' (fun wr k a X C X' C' hk h1 h2 => HI.out a X C X' C' wr (hch k a hk) h1 h2)
    have HH := Lib.hid (And.intro hsl (And.intro hsl' hcalls))
    have heq := fun w => run_eql_Val w x.v.k x.v.n x.v.k x.v.n x.v.s x.v.s
    have hvv : valEq ⟨x.v.k, x.v.n, x.v.s⟩ ⟨x.v.k, x.v.n, x.v.s⟩ = true := (valEq_iff _ _).2 rfl
    clear hsl hsl' hch hx hx' hN i4 hcalls
    go_enter Tryz.func11, Tryz.ntmps11
    go_wp2_with fail
    refine (HH.out.2.2 _ (HH.out.1.nowN keeps_Exp bel) (HH.out.2.1.nowN keeps_Exp bel)).mono ?_; rintro e w3 ⟨rfl, hb3⟩
    go_wp2_with fail
    go_ret
    exact ⟨rfl, bel⟩
end Go.Proofs.YtgmcojnhpedpnaaGreat
