/- typing.Of, typing.Fits and the references TypeOf, TypeFits. -/
import Derived.Test.YtgmcojnhpedpnaaGreatTyR
import Derived.Test.YtgmcojnhpedpnaaGreatPrt4
import Derived.Deep.RegionLaw
import Derived.Test.YtgmcojnhpedpnaaGreatKee
namespace Go.Proofs.YtgmcojnhpedpnaaGreat
open Go.RowKit

def tyRes (l : List Fld) (x : Exp) : Int × Int := if exprErr x ≠ 0 then (0, exprErr x) else tyX l x
def fitErr (l : List Fld) (x : Exp) (want : Int) : Int := if (tyRes l x).2 ≠ 0 then (tyRes l x).2 else if (tyRes l x).1 ≠ want then 9 else 0
theorem prt_of_expr {x : Exp} (h : exprErr x = 0) : prtN x = 0 := by
  unfold exprErr at h
  split at h
  · cases h
  split at h
  · cases h
  · exact h

set_option maxRecDepth 100000 in
set_option maxHeartbeats 2000000 in
theorem typing_Of (l : List Fld) (L : Option Addr) (n d : Nat) (x : Exp) (A : Option Addr) (c : Nat) (w : World) (hn : inB 112 n)
    (hx : XRep w (old w) [.int .i64 x.op, .int .i64 x.v.k, .int .i64 x.v.n, .string x.v.s, .string x.name, .slice A x.args.length c] x) (hl : Sl w (old w) 9 (RFld w (old w)) L n l) :
    Calls Tryz.prog 126 #[.agg #[.int .i64 x.op, .int .i64 x.v.k, .int .i64 x.v.n, .string x.v.s, .string x.name, .slice A x.args.length c], .slice L n d] w (RetP w (tyRes l x)) := by
  have HX := Lib.hid (And.intro hx hl)
  clear hx hl
  have hck := fun w h => expr_Check x A c w h
  by_cases he : exprErr x = 0
  · have hp := prt_of_expr he
    have hr : tyRes l x = tyX l x := by unfold tyRes; rw [if_neg (by simpa using he)]
    rw [hr]
    simp only [he] at hck
    have HP := Lib.hid hp
    clear he hp hr
    go_enter Tryz.func126, Tryz.ntmps126
    go_wp2_with (go_at_call 27; refine (hck _ (HX.out.1.keep (old_keep bel))).mono ?_; rintro e w1 ⟨rfl, hb1⟩; obtain ⟨hc1, hf1⟩ := bcell hb1; (try simp only [World.heap_drewN, World.cell?_drewN, World.frozen?_drewN] at hc1 hf1); have hz1 := hb1.size; (try simp at hz1); (try (have hy1 := Nat.lt_of_succ_le hz1)); (try (have hx1 := Nat.lt_of_succ_lt hy1)); (first | refine szz6 w1 w (by omega) ?_ | refine szz5 w1 w (by omega) ?_ | refine szz4 w1 w (by omega) ?_ | refine szz3 w1 w (by omega) ?_ | refine szz2 w1 w (by omega) ?_ | refine szz1 w1 w (by omega) ?_ | refine szz0 w1 w (by omega) ?_ | refine szzn w1 w (by omega) ?_ | skip); intros)
    have hB1 : Below w.heap.size w w1 := bel
    have hB1d : Below w.heap.size w w1.drew := bel
    have hl1 : w.heap.size < w1.heap.size := by have := hb1.size; simp at this; omega
    have hr1 : w1.cell? ⟨w.heap.size, 0, none⟩ = some (.int .i64 x.op) ∧ w1.cell? ⟨w.heap.size, 1, none⟩ = some (.int .i64 x.v.k) ∧ w1.cell? ⟨w.heap.size, 2, none⟩ = some (.int .i64 x.v.n) ∧ w1.cell? ⟨w.heap.size, 3, none⟩ = some (.string x.v.s) ∧ w1.cell? ⟨w.heap.size, 4, none⟩ = some (.string x.name) ∧ w1.cell? ⟨w.heap.size, 5, none⟩ = some (.slice A x.args.length c) := ⟨by go_simp, by go_simp, by go_simp, by go_simp, by go_simp, by go_simp⟩
    have HR1 := Lib.hid hr1
    clear hr1
    go_region_law (first
      | (go_simp; go_at_call 149; refine (typing_types L n d l _ hn (HX.out.2.nowN keeps_Fld bel)).mono ?_; rintro e w2 ⟨rfl, hM2, hb2⟩; obtain ⟨a0, a1, a2, a3, a4, a5⟩ := rows6c (w := w1.drew) HR1.out hb2)
      | (go_simp; go_at_call 150; refine (typing_rules _).mono ?_; rintro e w3 ⟨rfl, hR3, hb3⟩; obtain ⟨b0, b1, b2, b3, b4, b5⟩ := rows6c (rows6c (w := w1.drew) HR1.out hb2) hb3)
      | (go_simp; go_at_call 148; refine (typing_of l w1.heap.size (w2.heap.size + 3) w2.heap.size n _ x A c _ (Nat.le_refl _) HP.out (HX.out.1.keep (old_keep (below_step (below_step hB1d hb2 hB1.size) hb3 (Nat.le_trans hB1.size hb2.size)))) (show MapIs w3 Tryz.prog 9 w1.heap.size n _ from hM2.below hb3 hM2.lt) hR3).mono ?_; rintro e w4 ⟨rfl, hb4⟩; dsimp only))
    all_goals
      go_wp2_with fail
      go_ret2
      exact ⟨rfl, below_step (below_step (below_step hB1d hb2 hB1.size) hb3 (Nat.le_trans hB1.size hb2.size)) hb4 (Nat.le_trans hB1.size (Nat.le_trans hb2.size hb3.size))⟩
  · have he' : (exprErr x != 0) = true := by simpa using he
    have hr : tyRes l x = (0, exprErr x) := by unfold tyRes; rw [if_pos he]
    rw [hr]
    generalize exprErr x = ex at hck he' ⊢
    clear he hr
    go_enter Tryz.func126, Tryz.ntmps126
    go_wp2_with (go_at_call 27; refine (hck _ (HX.out.1.keep (old_keep bel))).mono ?_; rintro e w1 ⟨rfl, hb1⟩; obtain ⟨hc1, hf1⟩ := bcell hb1; (try simp only [World.heap_drewN, World.cell?_drewN, World.frozen?_drewN] at hc1 hf1); have hz1 := hb1.size; (try simp at hz1); (try (have hy1 := Nat.lt_of_succ_le hz1)); (try (have hx1 := Nat.lt_of_succ_lt hy1)); (first | refine szz6 w1 w (by omega) ?_ | refine szz5 w1 w (by omega) ?_ | refine szz4 w1 w (by omega) ?_ | refine szz3 w1 w (by omega) ?_ | refine szz2 w1 w (by omega) ?_ | refine szz1 w1 w (by omega) ?_ | refine szz0 w1 w (by omega) ?_ | refine szzn w1 w (by omega) ?_ | skip); intros)
    go_ret2
    exact ⟨rfl, bel⟩

set_option maxRecDepth 100000 in
set_option maxHeartbeats 2000000 in
theorem ref_TypeOf (l : List Fld) (L : Option Addr) (n d : Nat) (x : Exp) (A : Option Addr) (c : Nat) (w : World) (hn : inB 112 n)
    (hx : XRep w (old w) [.int .i64 x.op, .int .i64 x.v.k, .int .i64 x.v.n, .string x.v.s, .string x.name, .slice A x.args.length c] x) (hl : Sl w (old w) 9 (RFld w (old w)) L n l) :
    Calls Tryz.prog 111 #[.agg #[.int .i64 x.op, .int .i64 x.v.k, .int .i64 x.v.n, .string x.v.s, .string x.name, .slice A x.args.length c], .slice L n d] w (RetP w (tyRes l x)) := by
  have HX := Lib.hid (And.intro hx hl)
  clear hx hl
  have hck := fun w h => ref_ExprFault x A c w h
  by_cases he : exprErr x = 0
  · have hp := prt_of_expr he
    have hr : tyRes l x = tyX l x := by unfold tyRes; rw [if_neg (by simpa using he)]
    rw [hr]
    simp only [he] at hck
    have HP := Lib.hid hp
    clear he hp hr
    go_enter Tryz.func111, Tryz.ntmps111
    go_wp2_with (first | (go_at_call 30; refine (hck _ (HX.out.1.keep (old_keep bel))).mono ?_; rintro e w1 ⟨rfl, hb1⟩; obtain ⟨hc1, hf1⟩ := bcell hb1; (try simp only [World.heap_drewN, World.cell?_drewN, World.frozen?_drewN] at hc1 hf1); have hz1 := hb1.size; (try simp at hz1); (try (have hy1 := Nat.lt_of_succ_le hz1)); (try (have hx1 := Nat.lt_of_succ_lt hy1)); (first | refine szz6 w1 w (by omega) ?_ | refine szz5 w1 w (by omega) ?_ | refine szz4 w1 w (by omega) ?_ | refine szz3 w1 w (by omega) ?_ | refine szz2 w1 w (by omega) ?_ | refine szz1 w1 w (by omega) ?_ | refine szz0 w1 w (by omega) ?_ | refine szzn w1 w (by omega) ?_ | skip); intros) | (go_at_call 146; refine (ref_typeOf l L n d hn _ x A c _ (Nat.le_refl _) HP.out (HX.out.1.keep (old_keep bel)) (HX.out.2.nowN keeps_Fld bel)).mono ?_; rintro e w4 ⟨rfl, hb4⟩; dsimp only))
    go_ret2
    exact ⟨rfl, bel⟩
  · have he' : (exprErr x != 0) = true := by simpa using he
    have hr : tyRes l x = (0, exprErr x) := by unfold tyRes; rw [if_pos he]
    rw [hr]
    generalize exprErr x = ex at hck he' ⊢
    clear he hr
    go_enter Tryz.func111, Tryz.ntmps111
    go_wp2_with (go_at_call 30; refine (hck _ (HX.out.1.keep (old_keep bel))).mono ?_; rintro e w1 ⟨rfl, hb1⟩; obtain ⟨hc1, hf1⟩ := bcell hb1; (try simp only [World.heap_drewN, World.cell?_drewN, World.frozen?_drewN] at hc1 hf1); have hz1 := hb1.size; (try simp at hz1); (try (have hy1 := Nat.lt_of_succ_le hz1)); (try (have hx1 := Nat.lt_of_succ_lt hy1)); (first | refine szz6 w1 w (by omega) ?_ | refine szz5 w1 w (by omega) ?_ | refine szz4 w1 w (by omega) ?_ | refine szz3 w1 w (by omega) ?_ | refine szz2 w1 w (by omega) ?_ | refine szz1 w1 w (by omega) ?_ | refine szz0 w1 w (by omega) ?_ | refine szzn w1 w (by omega) ?_ | skip); intros)
    go_ret2
    exact ⟨rfl, bel⟩
theorem fitErr_cases (l : List Fld) (x : Exp) (want : Int) (t e : Int) (h : tyRes l x = (t, e)) : ((e != 0) = true ∧ (e == 0) = false ∧ fitErr l x want = e) ∨ (e = 0 ∧ (t != want) = true ∧ fitErr l x want = 9) ∨ (e = 0 ∧ (t != want) = false ∧ fitErr l x want = 0) := by
  unfold fitErr
  rw [h]
  by_cases h1 : e = 0
  · by_cases h2 : t = want <;> simp [h1, h2]
  · simp [h1]
set_option maxRecDepth 100000 in
set_option maxHeartbeats 2000000 in
theorem typing_Fits (l : List Fld) (L : Option Addr) (n d : Nat) (x : Exp) (A : Option Addr) (c : Nat) (want : Int) (w : World) (hn : inB 112 n)
    (hx : XRep w (old w) [.int .i64 x.op, .int .i64 x.v.k, .int .i64 x.v.n, .string x.v.s, .string x.name, .slice A x.args.length c] x) (hl : Sl w (old w) 9 (RFld w (old w)) L n l) :
    Calls Tryz.prog 85 #[.agg #[.int .i64 x.op, .int .i64 x.v.k, .int .i64 x.v.n, .string x.v.s, .string x.name, .slice A x.args.length c], .slice L n d, .int .i64 want] w (RetI w (fitErr l x want)) := by
  have HX := Lib.hid (And.intro hx hl)
  clear hx hl
  have hof := fun w h h' => typing_Of l L n d x A c w hn h h'
  obtain ⟨⟨t, e⟩, hr⟩ : ∃ r, tyRes l x = r := ⟨_, rfl⟩
  rw [hr] at hof
  rcases fitErr_cases l x want t e hr with ⟨z1, z2, ze⟩ | ⟨rfl, z2, ze⟩ | ⟨rfl, z2, ze⟩
  all_goals
    rw [ze]
    clear ze hr
    go_enter Tryz.func85, Tryz.ntmps85
    go_wp2_with (go_at_call 126; refine (hof _ (HX.out.1.keep (old_keep bel)) (HX.out.2.nowN keeps_Fld bel)).mono ?_; rintro e w1 ⟨rfl, hb1⟩; obtain ⟨hc1, hf1⟩ := bcell hb1; (try simp only [World.heap_drewN, World.cell?_drewN, World.frozen?_drewN] at hc1 hf1); have hz1 := hb1.size; (try simp at hz1); (try (have hy1 := Nat.lt_of_succ_le hz1)); (try (have hx1 := Nat.lt_of_succ_lt hy1)); (first | refine szz6 w1 w (by omega) ?_ | refine szz5 w1 w (by omega) ?_ | refine szz4 w1 w (by omega) ?_ | refine szz3 w1 w (by omega) ?_ | refine szz2 w1 w (by omega) ?_ | refine szz1 w1 w (by omega) ?_ | refine szz0 w1 w (by omega) ?_ | refine szzn w1 w (by omega) ?_ | skip); intros; dsimp only)
    go_ret
    exact ⟨rfl, bel⟩
set_option maxRecDepth 100000 in
set_option maxHeartbeats 2000000 in
theorem ref_TypeFits (l : List Fld) (L : Option Addr) (n d : Nat) (x : Exp) (A : Option Addr) (c : Nat) (want : Int) (w : World) (hn : inB 112 n)
    (hx : XRep w (old w) [.int .i64 x.op, .int .i64 x.v.k, .int .i64 x.v.n, .string x.v.s, .string x.name, .slice A x.args.length c] x) (hl : Sl w (old w) 9 (RFld w (old w)) L n l) :
    Calls Tryz.prog 76 #[.agg #[.int .i64 x.op, .int .i64 x.v.k, .int .i64 x.v.n, .string x.v.s, .string x.name, .slice A x.args.length c], .slice L n d, .int .i64 want] w (RetI w (fitErr l x want)) := by
  have HX := Lib.hid (And.intro hx hl)
  clear hx hl
  have hof := fun w h h' => ref_TypeOf l L n d x A c w hn h h'
  obtain ⟨⟨t, e⟩, hr⟩ : ∃ r, tyRes l x = r := ⟨_, rfl⟩
  rw [hr] at hof
  rcases fitErr_cases l x want t e hr with ⟨z1, z2, ze⟩ | ⟨rfl, z2, ze⟩ | ⟨rfl, z2, ze⟩
  all_goals
    rw [ze]
    clear ze hr
    go_enter Tryz.func76, Tryz.ntmps76
    go_wp2_with (go_at_call 111; refine (hof _ (HX.out.1.keep (old_keep bel)) (HX.out.2.nowN keeps_Fld bel)).mono ?_; rintro e w1 ⟨rfl, hb1⟩; obtain ⟨hc1, hf1⟩ := bcell hb1; (try simp only [World.heap_drewN, World.cell?_drewN, World.frozen?_drewN] at hc1 hf1); have hz1 := hb1.size; (try simp at hz1); (try (have hy1 := Nat.lt_of_succ_le hz1)); (try (have hx1 := Nat.lt_of_succ_lt hy1)); (first | refine szz6 w1 w (by omega) ?_ | refine szz5 w1 w (by omega) ?_ | refine szz4 w1 w (by omega) ?_ | refine szz3 w1 w (by omega) ?_ | refine szz2 w1 w (by omega) ?_ | refine szz1 w1 w (by omega) ?_ | refine szz0 w1 w (by omega) ?_ | refine szzn w1 w (by omega) ?_ | skip); intros; dsimp only)
    go_ret
    exact ⟨rfl, bel⟩
end Go.Proofs.YtgmcojnhpedpnaaGreat
