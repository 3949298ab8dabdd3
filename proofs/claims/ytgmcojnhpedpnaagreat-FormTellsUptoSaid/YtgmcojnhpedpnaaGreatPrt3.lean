/- expr.parts and expr.Check. -/
import Derived.Test.YtgmcojnhpedpnaaGreatPrt2
import Derived.Test.YtgmcojnhpedpnaaGreatPrtE
namespace Go.Proofs.YtgmcojnhpedpnaaGreat
open Go.RowKit

set_option maxRecDepth 100000 in
set_option maxHeartbeats 1000000 in
theorem expr_parts (N : Nat) : ∀ (x : Exp) (A : Option Addr) (c : Nat) (w : World), x.nodes ≤ N →
    XRep w (old w) [.int .i64 x.op, .int .i64 x.v.k, .int .i64 x.v.n, .string x.v.s, .string x.name, .slice A x.args.length c] x →
    Calls Tryz.prog 62 #[.agg #[.int .i64 x.op, .int .i64 x.v.k, .int .i64 x.v.n, .string x.v.s, .string x.name, .slice A x.args.length c]] w (RetI w (prtN x)) := by
  induction N with
  | zero =>
    intro x A c w hN
    obtain ⟨op, v, nm, args⟩ := x
    simp [Exp.nodes] at hN
  | succ N ih =>
    intro x A c w hN hx
    have HI := Lib.hid ih
    clear ih
    obtain ⟨i1, i2, i3, i4, i5, hsl, hch⟩ := hx.kids
    have HH := Lib.hid (And.intro hsl (fun i a h => by have := hch i a h; omega : ∀ (i : Nat) (a : Exp), x.args[i]? = some a → a.nodes ≤ N))
    have hlen : x.args.length ≤ 1759218604416 := by unfold inB at i4; omega
    have hpt := fun w => expr_part x.op x.v.k x.v.n x.v.s x.name A x.args.length c w (inS_max i2.2.2) (inS_max i3) (i4.l (by decide))
    have hpn := prtN_eq x
    rw [show (⟨x.v.k, x.v.n, x.v.s⟩ : Val) = x.v from rfl] at hpt
    clear hsl hch hx hN i1 i2 i3 i4 i5
    by_cases h0 : partErr x.op x.v x.name x.args.length = 0
    · rw [if_pos h0] at hpn
      simp only [h0] at hpt
      rw [hpn]
      clear h0 hpn
      generalize hR : prtL x.args = R
      have HR := Lib.hid hR
      clear hR
      go_enter Tryz.func62, Tryz.ntmps62
      go_wp2_with (go_at_call 97; refine (hpt _).mono ?_; rintro e w1 ⟨rfl, hb1⟩; obtain ⟨hc1, hf1⟩ := bcell hb1; (try simp only [World.heap_drewN, World.cell?_drewN, World.frozen?_drewN] at hc1 hf1); have hz1 := hb1.size; (try simp at hz1); (try (have hy1 := Nat.lt_of_succ_le hz1)); (try (have hx1 := Nat.lt_of_succ_lt hy1)); (first | refine szz6 w1 w (by omega) ?_ | refine szz5 w1 w (by omega) ?_ | refine szz4 w1 w (by omega) ?_ | refine szz3 w1 w (by omega) ?_ | refine szz2 w1 w (by omega) ?_ | refine szz1 w1 w (by omega) ?_ | refine szz0 w1 w (by omega) ?_ | refine szzn w1 w (by omega) ?_ | skip); intros)
      have hW1 : Below w.heap.size w w1 := bel
      go_loopw [15] (fun i wr => ∃ k : Nat, k ≤ x.args.length ∧ i = .int .i64 k ∧ prtL (x.args.take k) = 0 ∧ Below w1.heap.size w1 wr) (fun i _ => x.args.length - (intOf i).toNat)
      case atStart => exact ⟨0, by omega, rfl, by simp [prtL], Below.refl _ _⟩
      case round =>
        obtain ⟨k, hk, rfl, hz, hbr⟩ := hrel
        have hbw : Below w.heap.size w wr := below_step hW1 hbr hW1.size
        by_cases hlt : k < x.args.length
        · obtain ⟨b, o, a, X, C, hAe, hbl, hl, hxa, x0, x1, x2, x3, x4, x5⟩ := Exp_at (HH.out.1.nowN keeps_Exp hbw) hlt
          subst hAe
          have hbl' : b < wr.heap.size := hbl
          have HX := Lib.hid (And.intro hxa (And.intro (HH.out.2 k a hl) (And.intro hl hz)))
          clear hxa hl hz hbl
          have hia := fun w (h : XRep w (old w) [.int .i64 a.op, .int .i64 a.v.k, .int .i64 a.v.n, .string a.v.s, .string a.name, .slice X a.args.length C] a) => HI.out a X C w HX.out.2.1 h
          by_cases hp : prtN a = 0
          · have hp' : prtL (x.args.take (k + 1)) = 0 := prtL_next HX.out.2.2.2 HX.out.2.2.1 hp
            have HP := Lib.hid hp'
            simp only [hp] at hia
            clear hp hp'
            go_wp2_with (go_at_call 62; refine (hia _ (HX.out.1.keep (old_keep bel))).mono ?_; rintro e w2 ⟨rfl, hb2⟩)
            go_roundw
            case rel => exact ⟨k + 1, by omega, by go_num, HP.out, bel⟩
            case measure => simp [intOf]; omega
          · have hr : prtL x.args = prtN a := prtL_hit HX.out.2.2.2 HX.out.2.2.1 hp
            rw [HR.out] at hr
            have hp' : (prtN a != 0) = true := by simpa using hp
            rw [← hr] at hp'
            simp only [← hr] at hia
            clear hp hr
            go_wp2_with (go_at_call 62; refine (hia _ (HX.out.1.keep (old_keep bel))).mono ?_; rintro e w2 ⟨rfl, hb2⟩)
            go_ret
            exact ⟨rfl, bel⟩
        · have hkn : k = x.args.length := by omega
          subst hkn
          have etk : x.args.take x.args.length = x.args := List.take_of_length_le (Nat.le_refl _)
          rw [etk, HR.out] at hz
          subst hz
          go_wp2_with fail
          go_ret
          exact ⟨rfl, hbw⟩
    · rw [if_neg h0] at hpn
      rw [hpn]
      have h0' : (partErr x.op x.v x.name x.args.length != 0) = true := by simpa using h0
      clear h0 hpn
      generalize partErr x.op x.v x.name x.args.length = R at hpt h0' ⊢
      go_enter Tryz.func62, Tryz.ntmps62
      go_wp2_with (go_at_call 97; refine (hpt _).mono ?_; rintro e w1 ⟨rfl, hb1⟩; obtain ⟨hc1, hf1⟩ := bcell hb1; (try simp only [World.heap_drewN, World.cell?_drewN, World.frozen?_drewN] at hc1 hf1); have hz1 := hb1.size; (try simp at hz1); (try (have hy1 := Nat.lt_of_succ_le hz1)); (try (have hx1 := Nat.lt_of_succ_lt hy1)); (first | refine szz6 w1 w (by omega) ?_ | refine szz5 w1 w (by omega) ?_ | refine szz4 w1 w (by omega) ?_ | refine szz3 w1 w (by omega) ?_ | refine szz2 w1 w (by omega) ?_ | refine szz1 w1 w (by omega) ?_ | refine szz0 w1 w (by omega) ?_ | refine szzn w1 w (by omega) ?_ | skip); intros)
      go_ret
      exact ⟨rfl, bel⟩
set_option maxRecDepth 100000 in
set_option maxHeartbeats 1000000 in
theorem expr_Check (x : Exp) (A : Option Addr) (c : Nat) (w : World) (hx : XRep w (old w) [.int .i64 x.op, .int .i64 x.v.k, .int .i64 x.v.n, .string x.v.s, .string x.name, .slice A x.args.length c] x) :
    Calls Tryz.prog 27 #[.agg #[.int .i64 x.op, .int .i64 x.v.k, .int .i64 x.v.n, .string x.v.s, .string x.name, .slice A x.args.length c]] w (RetI w (exprErr x)) := by
  have HX := Lib.hid hx
  have hpt := fun w h => expr_parts _ x A c w (Nat.le_refl _) h
  have hsz := fun w h => expr_Size _ x A c w (Nat.le_refl _) h
  have he : exprErr x = if 60 < szN x then 1 else if 12 < dpN x then 4 else prtN x := rfl
  clear hx
  generalize exprErr x = R at he ⊢
  generalize szN x = s at hsz he
  generalize dpN x = d at hsz he
  generalize prtN x = p at hpt he
  by_cases h1 : 60 < s
  · rw [if_pos h1] at he
    subst he
    go_enter Tryz.func27, Tryz.ntmps27
    go_wp2_with (go_at_call 61; refine (hsz _ (HX.out.keep (old_keep bel))).mono ?_; rintro e w1 ⟨rfl, hb1⟩; obtain ⟨hc1, hf1⟩ := bcell hb1; (try simp only [World.heap_drewN, World.cell?_drewN, World.frozen?_drewN] at hc1 hf1); have hz1 := hb1.size; (try simp at hz1); (try (have hy1 := Nat.lt_of_succ_le hz1)); (try (have hx1 := Nat.lt_of_succ_lt hy1)); (first | refine szz6 w1 w (by omega) ?_ | refine szz5 w1 w (by omega) ?_ | refine szz4 w1 w (by omega) ?_ | refine szz3 w1 w (by omega) ?_ | refine szz2 w1 w (by omega) ?_ | refine szz1 w1 w (by omega) ?_ | refine szz0 w1 w (by omega) ?_ | refine szzn w1 w (by omega) ?_ | skip); intros)
    go_ret
    exact ⟨rfl, bel⟩
  · rw [if_neg h1] at he
    by_cases h2 : 12 < d
    · rw [if_pos h2] at he
      subst he
      go_enter Tryz.func27, Tryz.ntmps27
      go_wp2_with (go_at_call 61; refine (hsz _ (HX.out.keep (old_keep bel))).mono ?_; rintro e w1 ⟨rfl, hb1⟩; obtain ⟨hc1, hf1⟩ := bcell hb1; (try simp only [World.heap_drewN, World.cell?_drewN, World.frozen?_drewN] at hc1 hf1); have hz1 := hb1.size; (try simp at hz1); (try (have hy1 := Nat.lt_of_succ_le hz1)); (try (have hx1 := Nat.lt_of_succ_lt hy1)); (first | refine szz6 w1 w (by omega) ?_ | refine szz5 w1 w (by omega) ?_ | refine szz4 w1 w (by omega) ?_ | refine szz3 w1 w (by omega) ?_ | refine szz2 w1 w (by omega) ?_ | refine szz1 w1 w (by omega) ?_ | refine szz0 w1 w (by omega) ?_ | refine szzn w1 w (by omega) ?_ | skip); intros)
      go_ret
      exact ⟨rfl, bel⟩
    · rw [if_neg h2] at he
      subst he
      go_enter Tryz.func27, Tryz.ntmps27
      go_wp2_with (first | (go_at_call 61; refine (hsz _ (HX.out.keep (old_keep bel))).mono ?_; rintro e w1 ⟨rfl, hb1⟩; obtain ⟨hc1, hf1⟩ := bcell hb1; (try simp only [World.heap_drewN, World.cell?_drewN, World.frozen?_drewN] at hc1 hf1); have hz1 := hb1.size; (try simp at hz1); (try (have hy1 := Nat.lt_of_succ_le hz1)); (try (have hx1 := Nat.lt_of_succ_lt hy1)); (first | refine szz6 w1 w (by omega) ?_ | refine szz5 w1 w (by omega) ?_ | refine szz4 w1 w (by omega) ?_ | refine szz3 w1 w (by omega) ?_ | refine szz2 w1 w (by omega) ?_ | refine szz1 w1 w (by omega) ?_ | refine szz0 w1 w (by omega) ?_ | refine szzn w1 w (by omega) ?_ | skip); intros;) | (go_at_call 62; refine (hpt _ (HX.out.keep (old_keep bel))).mono ?_; rintro e w2 ⟨rfl, hb2⟩))
      go_ret
      exact ⟨rfl, bel⟩
end Go.Proofs.YtgmcojnhpedpnaaGreat
