/- Copies of formulas: names.Copy and the reference ExprCopy. -/
import Derived.Test.YtgmcojnhpedpnaaGreatOwn
import Derived.Deep.RegionLaw
namespace Go.Proofs.YtgmcojnhpedpnaaGreat
open Go.RowKit

def fresh (w w' : World) : Nat → Prop := fun b => w.heap.size ≤ b ∧ b < w'.heap.size
/-- The ending with a formula in new memory. -/
def RetExp (w : World) (x : Exp) (e : Ending) (w' : World) : Prop :=
  ∃ A c, e = .returned (.agg #[.int .i64 x.op, .int .i64 x.v.k, .int .i64 x.v.n, .string x.v.s, .string x.name, .slice A x.args.length c]) ∧
    XRep w' (fresh w w') [.int .i64 x.op, .int .i64 x.v.k, .int .i64 x.v.n, .string x.v.s, .string x.name, .slice A x.args.length c] x ∧ Below w.heap.size w w'

mutual
def Exp.nodes : Exp → Nat
  | .mk _ _ _ args => nodesL args + 1
def nodesL : List Exp → Nat
  | [] => 0
  | a :: l => a.nodes + nodesL l
end
theorem nodes_at : ∀ (l : List Exp) (i : Nat) (a : Exp), l[i]? = some a → a.nodes ≤ nodesL l
  | [], i, a, h => by simp at h
  | b :: l, 0, a, h => by simp at h; subst h; simp [nodesL]
  | b :: l, i + 1, a, h => by
    have := nodes_at l i a (by simpa using h)
    simp only [nodesL]; omega

theorem Tryz.infoExp : (Tryz.prog.info? 26).map (fun i => (i.zero, i.size, i.bytes)) = some (some (.agg #[.int .i64 0, .int .i64 0, .int .i64 0, .string ⟨#[]⟩, .string ⟨#[]⟩, .slice none 0 0]), 6, 80) := by kernel_rfl

theorem Exp_at {w : World} {S : Nat → Prop} {A : Option Addr} {n k : Nat} {l : List Exp} (h : Sl w S 6 (XRep w S) A n l) (hk : k < n) :
    ∃ b o f X C, A = some ⟨b, o, none⟩ ∧ S b ∧ l[k]? = some f ∧
      XRep w S [.int .i64 f.op, .int .i64 f.v.k, .int .i64 f.v.n, .string f.v.s, .string f.name, .slice X f.args.length C] f ∧
      w.cell? ⟨b, o + k * 6, none⟩ = some (.int .i64 f.op) ∧ w.cell? ⟨b, o + k * 6 + 1, none⟩ = some (.int .i64 f.v.k) ∧ w.cell? ⟨b, o + k * 6 + 2, none⟩ = some (.int .i64 f.v.n) ∧
      w.cell? ⟨b, o + k * 6 + 3, none⟩ = some (.string f.v.s) ∧ w.cell? ⟨b, o + k * 6 + 4, none⟩ = some (.string f.name) ∧ w.cell? ⟨b, o + k * 6 + 5, none⟩ = some (.slice X f.args.length C) := by
  obtain ⟨b, o, f, cs, rfl, hs, hl, hr, _, hc⟩ := h.at_ hk
  have hr' := hr
  obtain ⟨X, C, rfl, _⟩ := hr.open_
  exact ⟨b, o, f, X, C, rfl, hs, hl, hr', hc 0 (by decide), hc 1 (by decide), hc 2 (by decide), hc 3 (by decide), hc 4 (by decide), hc 5 (by decide)⟩
theorem Own.set {α : Type} {R : World → (Nat → Prop) → List Value → α → Prop} (K : Keeps R) {w : World} {base : Nat} {e : TypeId} {size : Nat} {v : Value} {l : List α} (h : Own w base e size R v l) (p : Addr) (u : Value) (hp : p.block < base) : Own (w.setCell p u) base e size R v l := by
  obtain ⟨C, h1, h2, h3, h4⟩ := h
  refine ⟨C, ⟨h1.1, ?_⟩, h2, h3, fun i c a hc ha => K _ _ _ _ _ _ (h4 i c a hc ha) fun b hb => ⟨⟨hb.1, by simpa using hb.2.1, hb.2.2⟩, heap_setCell_other w p b u (by have := hb.1; omega)⟩⟩
  rcases h1.2 with hn | ⟨g, cap, cur, rfl, hbg, hgg, rest⟩
  · exact .inl hn
  · refine .inr ⟨g, cap, cur, rfl, hbg, ?_, rest⟩
    rw [heap_setCell_other w p g u (by omega)]
    exact hgg
theorem Own.lt {α : Type} {R : World → (Nat → Prop) → List Value → α → Prop} {w : World} {base : Nat} {e : TypeId} {size : Nat} {v : Value} {l : List α} (h : Own w base e size R v l) : ∀ k, v.ownBlock = some k → base ≤ k ∧ k < w.heap.size := by
  obtain ⟨C, h1, _⟩ := h
  exact h1.lt
/-- What holds at the head of each round: k arguments are copied; o is the block of the formula in the making, base the first block behind those that stand from the beginning. -/
def CopyRel (w : World) (o base : Nat) (x : Exp) (k : Nat) (wr : World) : Prop :=
  ∃ (A' : Option Addr) (c' : Nat), wr.cell? ⟨o, 0, none⟩ = some (.int .i64 x.op) ∧ wr.cell? ⟨o, 1, none⟩ = some (.int .i64 x.v.k) ∧ wr.cell? ⟨o, 2, none⟩ = some (.int .i64 x.v.n) ∧
    wr.cell? ⟨o, 3, none⟩ = some (.string x.v.s) ∧ wr.cell? ⟨o, 4, none⟩ = some (.string x.name) ∧ wr.cell? ⟨o, 5, none⟩ = some (.slice A' k c') ∧
    wr.frozen? ⟨o, 5, none⟩ = false ∧ Own wr base 26 6 XRep (.slice A' k c') (x.args.take k) ∧ Below w.heap.size w wr ∧ base ≤ wr.heap.size

set_option maxRecDepth 100000 in
set_option maxHeartbeats 1000000 in
theorem names_Copy (N : Nat) : ∀ (x : Exp) (A : Option Addr) (c : Nat) (w : World), x.nodes ≤ N →
    XRep w (old w) [.int .i64 x.op, .int .i64 x.v.k, .int .i64 x.v.n, .string x.v.s, .string x.name, .slice A x.args.length c] x →
    Calls Tryz.prog 86 #[.agg #[.int .i64 x.op, .int .i64 x.v.k, .int .i64 x.v.n, .string x.v.s, .string x.name, .slice A x.args.length c]] w (RetExp w x) := by
  induction N with
  | zero =>
    intro x A c w hN
    obtain ⟨op, v, nm, args⟩ := x
    simp [Exp.nodes] at hN
  | succ N ih =>
    intro x A c w hN hx
    have HI := Lib.hid ih
    clear ih
    obtain ⟨A0, c0, e0, i1, i2, i3, i4, i5, hsl⟩ := hx.open_
    simp only [List.cons.injEq, Value.slice.injEq, and_true, true_and] at e0
    obtain ⟨rfl, rfl⟩ := e0
    have hch : ∀ (i : Nat) (a : Exp), x.args[i]? = some a → a.nodes ≤ N := by
      obtain ⟨op, v, nm, args⟩ := x
      intro i a h
      have := nodes_at args i a h
      simp only [Exp.nodes] at hN
      omega
    have HH := Lib.hid (And.intro hsl (And.intro hch (And.intro i1 (And.intro i2 (And.intro i3 i4)))))
    have hlen : x.args.length ≤ 1759218604416 := by unfold inB at i4; omega
    clear hsl hch hx hN i1 i2 i3 i4 i5
    obtain ⟨j0, hj0, iz0, iz1, iz2⟩ := info_parts Tryz.infoExp
    go_enter Tryz.func86, Tryz.ntmps86
    go_wp2_with fail
    go_loopw [11] (fun i wr => ∃ k : Nat, k ≤ x.args.length ∧ i = .int .i64 k ∧ CopyRel w (w.heap.size + 1 + 1) (w.heap.size + 3) x k wr ∧ (∀ j, wr.frozen? ⟨w.heap.size + 1, j, none⟩ = false) ∧ (∀ j, j < 6 → ∃ u, wr.cell? ⟨w.heap.size + 1, j, none⟩ = some u)) (fun i _ => x.args.length - (intOf i).toNat)
    case atStart =>
      refine ⟨0, by omega, rfl, ⟨none, 0, by go_simp, by go_simp, by go_simp, by go_simp, by go_simp, by go_simp, by go_simp, ?_, ?_, ?_⟩, fun j => ?_, fun j hj => ?_⟩
      · exact Own.nil
      · exact bel
      · simp
      · go_simp
      · go_simp
    case round =>
      obtain ⟨k, hk, rfl, ⟨A', c', q0, q1, q2, q3, q4, q5, qf, hown, hbr, hbase⟩, rf, rc⟩ := hrel
      have ho : w.heap.size + 1 + 1 < wr.heap.size := by omega
      by_cases hlt : k < x.args.length
      · obtain ⟨b, o, a, X, C, hAe, hbl, hl, hxa, x0, x1, x2, x3, x4, x5⟩ := Exp_at (HH.out.1.nowN keeps_Exp hbr) hlt
        subst hAe
        have hbl' : b < wr.heap.size := hbl
        have HO := Lib.hid (And.intro hown (And.intro hxa (And.intro hl (And.intro rf rc))))
        have HN := Lib.hid (HH.out.2.1 k a hl)
        clear hown hxa hbl hl rf rc
        have hlk : (x.args.take k).length = k := by rw [List.length_take]; omega
        have HK := Lib.hid hlk
        clear hlk
        go_wp2_with fail
        go_region_law (first
          | (go_simp; go_at_call 86; refine (HI.out a X C _ HN.out (HO.out.2.1.keep (old_keep bel))).mono ?_; rintro e w2 ⟨A2, c2, rfl, hx2, hb2⟩; have hw2 : Below wr.heap.size wr w2 := (by (refine below_step ?_ hb2 (by simp [heap_drew])); exact bel); have p5 := (hw2.cell (p := ⟨w.heap.size + 1 + 1, 5, none⟩) ho).trans q5; have pf := (hw2.frozen (p := ⟨w.heap.size + 1 + 1, 5, none⟩) ho).trans qf; have ho2 : w.heap.size + 1 + 1 < w2.heap.size := Nat.lt_of_lt_of_le ho hw2.size)
          | (refine step_append_Own keeps_Exp rfl (.tmp 16) (.tmp 19) 24 rfl (w.heap.size + 3) 26 j0 _ 6 80 Tryz.underlying24 hj0 iz0 iz1 iz2 rfl (by decide) (.slice A' k c') (x.args.take k) rfl (HO.out.1.keep keeps_Exp hw2) [.int .i64 a.op, .int .i64 a.v.k, .int .i64 a.v.n, .string a.v.s, .string a.name, .slice A2 a.args.length c2] 26 rfl _ rfl rfl rfl (by simp [Value.oneCell']) (by rw [HK.out]; omega) (by rw [HK.out]; unfold maxLen; omega) (by have := hw2.size; omega) a (hx2.keep fun b hb => ⟨⟨by have := hb.1; simp [heap_drew] at this; omega, hb.2, fun e => by have h1 := (HO.out.1.lt b e.symm).2; have h2 := hb.1; simp [heap_drew] at h2; omega⟩, rfl⟩) ?_; intro g' cap w3 hown3 hb3 hz3 hk3 hat3; rw [HK.out] at hown3 ⊢; have hne : some (w.heap.size + 1 + 1) ≠ (Value.slice A' k c').ownBlock := (fun e => by have := (HO.out.1.lt _ e.symm).1; omega); have hke := hk3 (w.heap.size + 1 + 1) (by have := hw2.size; omega) hne; have r5 := (World.cell?_of_block (w := w2) (a := ⟨w.heap.size + 1 + 1, 5, none⟩) hke).trans p5; have rz := (World.frozen?_of_block (w := w2) (a := ⟨w.heap.size + 1 + 1, 5, none⟩) hke).trans pf))
        all_goals
          go_wp2_with fail
          go_roundw
          case rel =>
            have hsz3 := hw2.size
            have hc3 : ∀ j, w3.cell? ⟨w.heap.size + 1 + 1, j, none⟩ = wr.cell? ⟨w.heap.size + 1 + 1, j, none⟩ := fun j => (World.cell?_of_block (w := w2) (a := ⟨w.heap.size + 1 + 1, j, none⟩) hke).trans (hw2.cell (p := ⟨w.heap.size + 1 + 1, j, none⟩) ho)
            have hke1 := hk3 (w.heap.size + 1) (by omega) (fun e => by have := (HO.out.1.lt _ e.symm).1; omega)
            have ho1 : w.heap.size + 1 < wr.heap.size := by omega
            have hd3 : ∀ j, w3.cell? ⟨w.heap.size + 1, j, none⟩ = wr.cell? ⟨w.heap.size + 1, j, none⟩ := fun j => (World.cell?_of_block (w := w2) (a := ⟨w.heap.size + 1, j, none⟩) hke1).trans (hw2.cell (p := ⟨w.heap.size + 1, j, none⟩) ho1)
            have he3 : ∀ j, w3.frozen? ⟨w.heap.size + 1, j, none⟩ = wr.frozen? ⟨w.heap.size + 1, j, none⟩ := fun j => (World.frozen?_of_block (w := w2) (a := ⟨w.heap.size + 1, j, none⟩) hke1).trans (hw2.frozen (p := ⟨w.heap.size + 1, j, none⟩) ho1)
            have r0 := (hc3 0).trans q0
            have r1 := (hc3 1).trans q1
            have r2 := (hc3 2).trans q2
            have r3 := (hc3 3).trans q3
            have r4 := (hc3 4).trans q4
            have etk : x.args.take k ++ [a] = x.args.take (k + 1) := by rw [List.take_add_one, HO.out.2.2.1]; rfl
            rw [etk] at hown3
            refine ⟨k + 1, by omega, by go_num, ⟨some ⟨g', 0, none⟩, cap, by go_simp, by go_simp, by go_simp, by go_simp, by go_simp, (by first | (go_simp; done) | (go_simp; exact World.cell?_setCell_same' _ _ _ (by go_simp))), by go_simp, hown3.set keeps_Exp _ _ (by simp), ?_, by simp; omega⟩, fun j => ?_, fun j hj => ?_⟩
            · exact below_set (below_step (below_step hbr hw2 (by omega)) hb3 (by omega)) (by simp; omega)
            · rw [World.frozen?_setCell, he3]; exact HO.out.2.2.2.1 j
            · obtain ⟨u, hu⟩ := HO.out.2.2.2.2 j hj
              refine ⟨u, ?_⟩
              first
                | (go_simp; done)
                | (go_simp; exact (hd3 j).trans hu)
          case measure => simp [intOf]; omega
      · have hke : k = x.args.length := by omega
        subst hke
        have etk : x.args.take x.args.length = x.args := List.take_of_length_le (Nat.le_refl _)
        rw [etk] at hown
        obtain ⟨A9, c9, e9, hc9, hs9⟩ := hown.sl keeps_Exp
        cases e9
        have HS := Lib.hid (And.intro hs9 (And.intro rf rc))
        obtain ⟨u0, z0⟩ := rc 0 (by decide)
        obtain ⟨u1, z1⟩ := rc 1 (by decide)
        obtain ⟨u2, z2⟩ := rc 2 (by decide)
        obtain ⟨u3, z3⟩ := rc 3 (by decide)
        obtain ⟨u4, z4⟩ := rc 4 (by decide)
        obtain ⟨u5, z5⟩ := rc 5 (by decide)
        have f0 := rf 0
        have f1 := rf 1
        have f2 := rf 2
        have f3 := rf 3
        have f4 := rf 4
        have f5 := rf 5
        clear rf rc hown hs9
        go_wp2_with fail
        refine bodyPost_ret (v := .agg #[.int .i64 x.op, .int .i64 x.v.k, .int .i64 x.v.n, .string x.v.s, .string x.name, .slice A' x.args.length c']) (by first | (simp [results, Tryz.results86, go_sem, z0, z1, z2, z3, z4, z5]; done) | (simp [results, Tryz.results86, go_sem, *]; done)) rfl ?_
        refine ⟨A', c', rfl, ?_, ?_⟩
        · have key : ∀ W9 : World, (∀ b, since (w.heap.size + 3) wr b → fresh w W9 b ∧ W9.heap[b]? = wr.heap[b]?) → XRep W9 (fresh w W9) [.int .i64 x.op, .int .i64 x.v.k, .int .i64 x.v.n, .string x.v.s, .string x.name, .slice A' x.args.length c'] x := by
            intro W9 hW
            have e : Exp.mk x.op x.v x.name x.args = x := by cases x; rfl
            have hrep := XRep.shut HH.out.2.2.1 HH.out.2.2.2.1 HH.out.2.2.2.2.1 HH.out.2.2.2.2.2 hc9 (HS.out.1.keepN keeps_Exp hW)
            rw [e] at hrep
            exact hrep
          refine key _ fun b hb => ⟨⟨by have := hb.1; omega, by simpa using hb.2⟩, ?_⟩
          have hb1 := hb.1
          iterate 6 rw [heap_setCell_other _ _ _ _ (by simp; omega)]
        · exact bel
end Go.Proofs.YtgmcojnhpedpnaaGreat
