import Derived.Test.YtgmcojnhpedpnaaGreatProg
import Derived.WalkKit
import Derived.WalkSpells
import Derived.WalkLawsBesides
import Derived.Lib.Hide
import Derived.Deep.Draws
import Derived.Deep.RegionHeld3
import Derived.Deep.QuietTactic
import Derived.BigQuiet
namespace Go.Proofs.YtgmcojnhpedpnaaGreat
open Go.RowKit
/-- Facts on sizes behind a call: what of world b lies below world a, by how much a is greater. -/
theorem szz6 {G : Prop} (a b : World) (h : b.heap.size + 6 < a.heap.size) (k : b.heap.size < a.heap.size → b.heap.size ≤ a.heap.size → b.heap.size + 1 < a.heap.size → b.heap.size + 1 ≤ a.heap.size → b.heap.size + 2 < a.heap.size → b.heap.size + 2 ≤ a.heap.size → b.heap.size + 3 < a.heap.size → b.heap.size + 3 ≤ a.heap.size → b.heap.size + 4 < a.heap.size → b.heap.size + 4 ≤ a.heap.size → b.heap.size + 5 < a.heap.size → b.heap.size + 5 ≤ a.heap.size → b.heap.size + 6 < a.heap.size → b.heap.size + 6 ≤ a.heap.size → G) : G :=
  k (by omega) (by omega) (by omega) (by omega) (by omega) (by omega) (by omega) (by omega) (by omega) (by omega) (by omega) (by omega) (by omega) (by omega)
theorem szz5 {G : Prop} (a b : World) (h : b.heap.size + 5 < a.heap.size) (k : b.heap.size < a.heap.size → b.heap.size ≤ a.heap.size → b.heap.size + 1 < a.heap.size → b.heap.size + 1 ≤ a.heap.size → b.heap.size + 2 < a.heap.size → b.heap.size + 2 ≤ a.heap.size → b.heap.size + 3 < a.heap.size → b.heap.size + 3 ≤ a.heap.size → b.heap.size + 4 < a.heap.size → b.heap.size + 4 ≤ a.heap.size → b.heap.size + 5 < a.heap.size → b.heap.size + 5 ≤ a.heap.size → G) : G :=
  k (by omega) (by omega) (by omega) (by omega) (by omega) (by omega) (by omega) (by omega) (by omega) (by omega) (by omega) (by omega)
theorem szz4 {G : Prop} (a b : World) (h : b.heap.size + 4 < a.heap.size) (k : b.heap.size < a.heap.size → b.heap.size ≤ a.heap.size → b.heap.size + 1 < a.heap.size → b.heap.size + 1 ≤ a.heap.size → b.heap.size + 2 < a.heap.size → b.heap.size + 2 ≤ a.heap.size → b.heap.size + 3 < a.heap.size → b.heap.size + 3 ≤ a.heap.size → b.heap.size + 4 < a.heap.size → b.heap.size + 4 ≤ a.heap.size → G) : G :=
  k (by omega) (by omega) (by omega) (by omega) (by omega) (by omega) (by omega) (by omega) (by omega) (by omega)
theorem szz3 {G : Prop} (a b : World) (h : b.heap.size + 3 < a.heap.size) (k : b.heap.size < a.heap.size → b.heap.size ≤ a.heap.size → b.heap.size + 1 < a.heap.size → b.heap.size + 1 ≤ a.heap.size → b.heap.size + 2 < a.heap.size → b.heap.size + 2 ≤ a.heap.size → b.heap.size + 3 < a.heap.size → b.heap.size + 3 ≤ a.heap.size → G) : G :=
  k (by omega) (by omega) (by omega) (by omega) (by omega) (by omega) (by omega) (by omega)
theorem szz2 {G : Prop} (a b : World) (h : b.heap.size + 2 < a.heap.size) (k : b.heap.size < a.heap.size → b.heap.size ≤ a.heap.size → b.heap.size + 1 < a.heap.size → b.heap.size + 1 ≤ a.heap.size → b.heap.size + 2 < a.heap.size → b.heap.size + 2 ≤ a.heap.size → G) : G :=
  k (by omega) (by omega) (by omega) (by omega) (by omega) (by omega)
theorem szz1 {G : Prop} (a b : World) (h : b.heap.size + 1 < a.heap.size) (k : b.heap.size < a.heap.size → b.heap.size ≤ a.heap.size → b.heap.size + 1 < a.heap.size → b.heap.size + 1 ≤ a.heap.size → G) : G :=
  k (by omega) (by omega) (by omega) (by omega)
theorem szz0 {G : Prop} (a b : World) (h : b.heap.size < a.heap.size) (k : b.heap.size < a.heap.size → b.heap.size ≤ a.heap.size → G) : G :=
  k (by omega) (by omega)
theorem szzn {G : Prop} (a b : World) (h : b.heap.size ≤ a.heap.size) (k : b.heap.size ≤ a.heap.size → G) : G := k h

theorem ret_int {k : IntKind} {a b : Int} (h : a = b) : Ending.returned (.int k a) = .returned (.int k b) := by rw [h]

theorem ret_ii {k l : IntKind} {a b c d : Int} (h : a = c) (h' : b = d) : Ending.returned (.tuple #[.int k a, .int l b]) = .returned (.tuple #[.int k c, .int l d]) := by rw [h, h']
theorem ret_bool {a b : Bool} (h : a = b) : Ending.returned (.bool a) = .returned (.bool b) := by rw [h]
theorem alloc_below {w w' : World} {o : Obj} (h : Below (w.heap.size + 1) (w.alloc o) w') : Below w.heap.size w w' :=
  ((Below.refl w.heap.size w).alloc (Nat.le_refl _) o).trans (h.mono (by omega))
theorem below_step {n m : Nat} {a b c : World} (h : Below n a b) (k : Below m b c) (hn : n ≤ m) : Below n a c := h.trans (k.mono hn)
theorem below_chain {a b c : World} (h : Below a.heap.size a b) (k : Below b.heap.size b c) : Below a.heap.size a c := h.trans (k.mono h.size)
theorem below_alloc0 {a b : World} {o : Obj} (h : Below a.heap.size a b) : Below a.heap.size a (b.alloc o) := h.alloc h.size o
theorem below_alloc {n : Nat} {a b : World} {o : Obj} (h : Below n a b) (hn : n ≤ b.heap.size) : Below n a (b.alloc o) := h.alloc hn o
theorem below_set {n : Nat} {a b : World} {p : Addr} {u : Value} (h : Below n a b) (hn : n ≤ p.block) : Below n a (b.setCell p u) := h.setCell hn u
theorem below_drewN {n : Nat} {a b : World} (h : Below n a b) (k : Nat) : Below n a (b.drewN k) := ⟨h.os, h.tape, h.output, h.size, h.block⟩

/-- What was there stays: found step by step. -/
theorem bel {n : Nat} {a b : World} (h : Below n a b := by repeat (first | with_reducible exact Below.refl _ _ | with_reducible assumption | with_reducible refine below_drewN ?_ _ | with_reducible refine Below.drew ?_ | with_reducible refine below_alloc0 ?_ | with_reducible refine below_alloc ?_ (by simp; try omega) | with_reducible refine below_set ?_ (by simp; try omega) | with_reducible refine below_chain ?_ (by assumption) | (with_reducible refine below_step ?_ (by assumption) (by simp; try omega)))) : Below n a b := h
theorem bcell {W w1 : World} (hb : Below W.heap.size W w1) : (∀ b o, b < W.heap.size → w1.cell? ⟨b, o, none⟩ = W.cell? ⟨b, o, none⟩) ∧ (∀ b o, b < W.heap.size → w1.frozen? ⟨b, o, none⟩ = W.frozen? ⟨b, o, none⟩) :=
  ⟨fun b o h => hb.cell (p := ⟨b, o, none⟩) h, fun b o h => hb.frozen (p := ⟨b, o, none⟩) h⟩

theorem block_of_add (a : Addr) (n : Nat) : (a.add n).block = a.block := by unfold Addr.add; split <;> rfl
theorem add_of_add (a : Addr) (i j : Nat) : (a.add i).add j = a.add (i + j) := by
  unfold Addr.add
  by_cases hi : i = 0 <;> by_cases hj : j = 0 <;> simp [hi, hj, Nat.add_assoc]

/-- A slice value (address A, length n) holds the list xs of rows of `size` cells, below block B. -/
def Reads (w : World) (B size : Nat) (A : Option Addr) (n : Nat) (xs : List (List Value)) : Prop :=
  xs.length = n ∧ (0 < n → ∃ b o, A = some ⟨b, o, none⟩ ∧ b < B ∧ ∀ i c, xs[i]? = some c → c.length = size ∧ ∀ j u, c[j]? = some u → w.cell? ⟨b, o + (i * size + j), none⟩ = some u)

theorem cell_keep {w w1 : World} {p : Addr} {v : Value} (h : w.cell? p = some v) (hb : Below w.heap.size w w1) : w1.cell? p = some v := (hb.cell (block_lt_of_cell h)).trans h
theorem wp_world {P : Program} {c : Code} {Q : Exit → Act → World → Prop} {a : Act} {W : World} (h : ∀ W0, W0 = W → c.wp P Q a W0) : c.wp P Q a W := h W rfl
theorem wp_quietC {P : Program} {C : World → Prop} {id : Nat} {Q : Exit → Act → World → Prop} {a : Act} {w : World} {l : List Oper} (hm : P.follows .mixedOrders = true) (hB : Region.lexB .any l.toArray = true) (hC : C w.drew)
    (h : wpQuiet P l.toArray C (fun a' => ∀ w', C w' → Q .normal a' w') l a) : (Code.region id l.toArray true).wp P Q a w :=
  wp_region_quiet (C := C) hm hB hC (by simpa using h)
theorem held0 {w0 w' w1 : World} {N : Nat} (h : Below N w0 w' ∧ N ≤ w'.heap.size) (hb : Below w'.heap.size w' w1) : Below N w0 w1 ∧ N ≤ w1.heap.size := by
  obtain ⟨hb0, hl⟩ := h
  exact ⟨below_step hb0 hb hl, Nat.le_trans hl hb.size⟩
theorem held0d {w0 w' : World} {N : Nat} (h : Below N w0 w' ∧ N ≤ w'.heap.size) : Below N w0 w'.drew ∧ N ≤ w'.drew.heap.size := by
  obtain ⟨hb0, hl⟩ := h
  exact ⟨hb0.drew, hl⟩
theorem held0b {w0 w' : World} {N : Nat} (h : Below N w0 w' ∧ N ≤ w'.heap.size) : Below N w0 w' := h.1
theorem held0i {w0 w' : World} {N : Nat} (h : Below N w0 w' ∧ N ≤ w'.heap.size) : Below N w0 w' ∧ N ≤ w'.heap.size := h
theorem held1 {w0 w' w1 : World} {N : Nat} {p0 : Addr} {v0 : Value} (h : w'.cell? p0 = some v0 ∧ Below N w0 w' ∧ N ≤ w'.heap.size) (hb : Below w'.heap.size w' w1) : w1.cell? p0 = some v0 ∧ Below N w0 w1 ∧ N ≤ w1.heap.size := by
  obtain ⟨h0, hb0, hl⟩ := h
  exact ⟨cell_keep h0 hb, below_step hb0 hb hl, Nat.le_trans hl hb.size⟩
theorem held1d {w0 w' : World} {N : Nat} {p0 : Addr} {v0 : Value} (h : w'.cell? p0 = some v0 ∧ Below N w0 w' ∧ N ≤ w'.heap.size) : w'.drew.cell? p0 = some v0 ∧ Below N w0 w'.drew ∧ N ≤ w'.drew.heap.size := by
  obtain ⟨h0, hb0, hl⟩ := h
  exact ⟨h0, hb0.drew, hl⟩
theorem held1b {w0 w' : World} {N : Nat} {p0 : Addr} {v0 : Value} (h : w'.cell? p0 = some v0 ∧ Below N w0 w' ∧ N ≤ w'.heap.size) : Below N w0 w' := h.2.1
theorem held1i {w0 w' : World} {N : Nat} {p0 : Addr} {v0 : Value} (h : w'.cell? p0 = some v0 ∧ Below N w0 w' ∧ N ≤ w'.heap.size) : w'.cell? p0 = some v0 ∧ Below N w0 w' ∧ N ≤ w'.heap.size := h
theorem held2 {w0 w' w1 : World} {N : Nat} {p0 p1 : Addr} {v0 v1 : Value} (h : w'.cell? p0 = some v0 ∧ w'.cell? p1 = some v1 ∧ Below N w0 w' ∧ N ≤ w'.heap.size) (hb : Below w'.heap.size w' w1) : w1.cell? p0 = some v0 ∧ w1.cell? p1 = some v1 ∧ Below N w0 w1 ∧ N ≤ w1.heap.size := by
  obtain ⟨h0, h1, hb0, hl⟩ := h
  exact ⟨cell_keep h0 hb, cell_keep h1 hb, below_step hb0 hb hl, Nat.le_trans hl hb.size⟩
theorem held2d {w0 w' : World} {N : Nat} {p0 p1 : Addr} {v0 v1 : Value} (h : w'.cell? p0 = some v0 ∧ w'.cell? p1 = some v1 ∧ Below N w0 w' ∧ N ≤ w'.heap.size) : w'.drew.cell? p0 = some v0 ∧ w'.drew.cell? p1 = some v1 ∧ Below N w0 w'.drew ∧ N ≤ w'.drew.heap.size := by
  obtain ⟨h0, h1, hb0, hl⟩ := h
  exact ⟨h0, h1, hb0.drew, hl⟩
theorem held2b {w0 w' : World} {N : Nat} {p0 p1 : Addr} {v0 v1 : Value} (h : w'.cell? p0 = some v0 ∧ w'.cell? p1 = some v1 ∧ Below N w0 w' ∧ N ≤ w'.heap.size) : Below N w0 w' := h.2.2.1
theorem held2i {w0 w' : World} {N : Nat} {p0 p1 : Addr} {v0 v1 : Value} (h : w'.cell? p0 = some v0 ∧ w'.cell? p1 = some v1 ∧ Below N w0 w' ∧ N ≤ w'.heap.size) : w'.cell? p0 = some v0 ∧ w'.cell? p1 = some v1 ∧ Below N w0 w' ∧ N ≤ w'.heap.size := h
theorem held3 {w0 w' w1 : World} {N : Nat} {p0 p1 p2 : Addr} {v0 v1 v2 : Value} (h : w'.cell? p0 = some v0 ∧ w'.cell? p1 = some v1 ∧ w'.cell? p2 = some v2 ∧ Below N w0 w' ∧ N ≤ w'.heap.size) (hb : Below w'.heap.size w' w1) : w1.cell? p0 = some v0 ∧ w1.cell? p1 = some v1 ∧ w1.cell? p2 = some v2 ∧ Below N w0 w1 ∧ N ≤ w1.heap.size := by
  obtain ⟨h0, h1, h2, hb0, hl⟩ := h
  exact ⟨cell_keep h0 hb, cell_keep h1 hb, cell_keep h2 hb, below_step hb0 hb hl, Nat.le_trans hl hb.size⟩
theorem held3d {w0 w' : World} {N : Nat} {p0 p1 p2 : Addr} {v0 v1 v2 : Value} (h : w'.cell? p0 = some v0 ∧ w'.cell? p1 = some v1 ∧ w'.cell? p2 = some v2 ∧ Below N w0 w' ∧ N ≤ w'.heap.size) : w'.drew.cell? p0 = some v0 ∧ w'.drew.cell? p1 = some v1 ∧ w'.drew.cell? p2 = some v2 ∧ Below N w0 w'.drew ∧ N ≤ w'.drew.heap.size := by
  obtain ⟨h0, h1, h2, hb0, hl⟩ := h
  exact ⟨h0, h1, h2, hb0.drew, hl⟩
theorem held3b {w0 w' : World} {N : Nat} {p0 p1 p2 : Addr} {v0 v1 v2 : Value} (h : w'.cell? p0 = some v0 ∧ w'.cell? p1 = some v1 ∧ w'.cell? p2 = some v2 ∧ Below N w0 w' ∧ N ≤ w'.heap.size) : Below N w0 w' := h.2.2.2.1
theorem held3i {w0 w' : World} {N : Nat} {p0 p1 p2 : Addr} {v0 v1 v2 : Value} (h : w'.cell? p0 = some v0 ∧ w'.cell? p1 = some v1 ∧ w'.cell? p2 = some v2 ∧ Below N w0 w' ∧ N ≤ w'.heap.size) : w'.cell? p0 = some v0 ∧ w'.cell? p1 = some v1 ∧ w'.cell? p2 = some v2 ∧ Below N w0 w' ∧ N ≤ w'.heap.size := h
theorem held4 {w0 w' w1 : World} {N : Nat} {p0 p1 p2 p3 : Addr} {v0 v1 v2 v3 : Value} (h : w'.cell? p0 = some v0 ∧ w'.cell? p1 = some v1 ∧ w'.cell? p2 = some v2 ∧ w'.cell? p3 = some v3 ∧ Below N w0 w' ∧ N ≤ w'.heap.size) (hb : Below w'.heap.size w' w1) : w1.cell? p0 = some v0 ∧ w1.cell? p1 = some v1 ∧ w1.cell? p2 = some v2 ∧ w1.cell? p3 = some v3 ∧ Below N w0 w1 ∧ N ≤ w1.heap.size := by
  obtain ⟨h0, h1, h2, h3, hb0, hl⟩ := h
  exact ⟨cell_keep h0 hb, cell_keep h1 hb, cell_keep h2 hb, cell_keep h3 hb, below_step hb0 hb hl, Nat.le_trans hl hb.size⟩
theorem held4d {w0 w' : World} {N : Nat} {p0 p1 p2 p3 : Addr} {v0 v1 v2 v3 : Value} (h : w'.cell? p0 = some v0 ∧ w'.cell? p1 = some v1 ∧ w'.cell? p2 = some v2 ∧ w'.cell? p3 = some v3 ∧ Below N w0 w' ∧ N ≤ w'.heap.size) : w'.drew.cell? p0 = some v0 ∧ w'.drew.cell? p1 = some v1 ∧ w'.drew.cell? p2 = some v2 ∧ w'.drew.cell? p3 = some v3 ∧ Below N w0 w'.drew ∧ N ≤ w'.drew.heap.size := by
  obtain ⟨h0, h1, h2, h3, hb0, hl⟩ := h
  exact ⟨h0, h1, h2, h3, hb0.drew, hl⟩
theorem held4b {w0 w' : World} {N : Nat} {p0 p1 p2 p3 : Addr} {v0 v1 v2 v3 : Value} (h : w'.cell? p0 = some v0 ∧ w'.cell? p1 = some v1 ∧ w'.cell? p2 = some v2 ∧ w'.cell? p3 = some v3 ∧ Below N w0 w' ∧ N ≤ w'.heap.size) : Below N w0 w' := h.2.2.2.2.1
theorem held4i {w0 w' : World} {N : Nat} {p0 p1 p2 p3 : Addr} {v0 v1 v2 v3 : Value} (h : w'.cell? p0 = some v0 ∧ w'.cell? p1 = some v1 ∧ w'.cell? p2 = some v2 ∧ w'.cell? p3 = some v3 ∧ Below N w0 w' ∧ N ≤ w'.heap.size) : w'.cell? p0 = some v0 ∧ w'.cell? p1 = some v1 ∧ w'.cell? p2 = some v2 ∧ w'.cell? p3 = some v3 ∧ Below N w0 w' ∧ N ≤ w'.heap.size := h
theorem held5 {w0 w' w1 : World} {N : Nat} {p0 p1 p2 p3 p4 : Addr} {v0 v1 v2 v3 v4 : Value} (h : w'.cell? p0 = some v0 ∧ w'.cell? p1 = some v1 ∧ w'.cell? p2 = some v2 ∧ w'.cell? p3 = some v3 ∧ w'.cell? p4 = some v4 ∧ Below N w0 w' ∧ N ≤ w'.heap.size) (hb : Below w'.heap.size w' w1) : w1.cell? p0 = some v0 ∧ w1.cell? p1 = some v1 ∧ w1.cell? p2 = some v2 ∧ w1.cell? p3 = some v3 ∧ w1.cell? p4 = some v4 ∧ Below N w0 w1 ∧ N ≤ w1.heap.size := by
  obtain ⟨h0, h1, h2, h3, h4, hb0, hl⟩ := h
  exact ⟨cell_keep h0 hb, cell_keep h1 hb, cell_keep h2 hb, cell_keep h3 hb, cell_keep h4 hb, below_step hb0 hb hl, Nat.le_trans hl hb.size⟩
theorem held5d {w0 w' : World} {N : Nat} {p0 p1 p2 p3 p4 : Addr} {v0 v1 v2 v3 v4 : Value} (h : w'.cell? p0 = some v0 ∧ w'.cell? p1 = some v1 ∧ w'.cell? p2 = some v2 ∧ w'.cell? p3 = some v3 ∧ w'.cell? p4 = some v4 ∧ Below N w0 w' ∧ N ≤ w'.heap.size) : w'.drew.cell? p0 = some v0 ∧ w'.drew.cell? p1 = some v1 ∧ w'.drew.cell? p2 = some v2 ∧ w'.drew.cell? p3 = some v3 ∧ w'.drew.cell? p4 = some v4 ∧ Below N w0 w'.drew ∧ N ≤ w'.drew.heap.size := by
  obtain ⟨h0, h1, h2, h3, h4, hb0, hl⟩ := h
  exact ⟨h0, h1, h2, h3, h4, hb0.drew, hl⟩
theorem held5b {w0 w' : World} {N : Nat} {p0 p1 p2 p3 p4 : Addr} {v0 v1 v2 v3 v4 : Value} (h : w'.cell? p0 = some v0 ∧ w'.cell? p1 = some v1 ∧ w'.cell? p2 = some v2 ∧ w'.cell? p3 = some v3 ∧ w'.cell? p4 = some v4 ∧ Below N w0 w' ∧ N ≤ w'.heap.size) : Below N w0 w' := h.2.2.2.2.2.1
theorem held5i {w0 w' : World} {N : Nat} {p0 p1 p2 p3 p4 : Addr} {v0 v1 v2 v3 v4 : Value} (h : w'.cell? p0 = some v0 ∧ w'.cell? p1 = some v1 ∧ w'.cell? p2 = some v2 ∧ w'.cell? p3 = some v3 ∧ w'.cell? p4 = some v4 ∧ Below N w0 w' ∧ N ≤ w'.heap.size) : w'.cell? p0 = some v0 ∧ w'.cell? p1 = some v1 ∧ w'.cell? p2 = some v2 ∧ w'.cell? p3 = some v3 ∧ w'.cell? p4 = some v4 ∧ Below N w0 w' ∧ N ≤ w'.heap.size := h
theorem held6 {w0 w' w1 : World} {N : Nat} {p0 p1 p2 p3 p4 p5 : Addr} {v0 v1 v2 v3 v4 v5 : Value} (h : w'.cell? p0 = some v0 ∧ w'.cell? p1 = some v1 ∧ w'.cell? p2 = some v2 ∧ w'.cell? p3 = some v3 ∧ w'.cell? p4 = some v4 ∧ w'.cell? p5 = some v5 ∧ Below N w0 w' ∧ N ≤ w'.heap.size) (hb : Below w'.heap.size w' w1) : w1.cell? p0 = some v0 ∧ w1.cell? p1 = some v1 ∧ w1.cell? p2 = some v2 ∧ w1.cell? p3 = some v3 ∧ w1.cell? p4 = some v4 ∧ w1.cell? p5 = some v5 ∧ Below N w0 w1 ∧ N ≤ w1.heap.size := by
  obtain ⟨h0, h1, h2, h3, h4, h5, hb0, hl⟩ := h
  exact ⟨cell_keep h0 hb, cell_keep h1 hb, cell_keep h2 hb, cell_keep h3 hb, cell_keep h4 hb, cell_keep h5 hb, below_step hb0 hb hl, Nat.le_trans hl hb.size⟩
theorem held6d {w0 w' : World} {N : Nat} {p0 p1 p2 p3 p4 p5 : Addr} {v0 v1 v2 v3 v4 v5 : Value} (h : w'.cell? p0 = some v0 ∧ w'.cell? p1 = some v1 ∧ w'.cell? p2 = some v2 ∧ w'.cell? p3 = some v3 ∧ w'.cell? p4 = some v4 ∧ w'.cell? p5 = some v5 ∧ Below N w0 w' ∧ N ≤ w'.heap.size) : w'.drew.cell? p0 = some v0 ∧ w'.drew.cell? p1 = some v1 ∧ w'.drew.cell? p2 = some v2 ∧ w'.drew.cell? p3 = some v3 ∧ w'.drew.cell? p4 = some v4 ∧ w'.drew.cell? p5 = some v5 ∧ Below N w0 w'.drew ∧ N ≤ w'.drew.heap.size := by
  obtain ⟨h0, h1, h2, h3, h4, h5, hb0, hl⟩ := h
  exact ⟨h0, h1, h2, h3, h4, h5, hb0.drew, hl⟩
theorem held6b {w0 w' : World} {N : Nat} {p0 p1 p2 p3 p4 p5 : Addr} {v0 v1 v2 v3 v4 v5 : Value} (h : w'.cell? p0 = some v0 ∧ w'.cell? p1 = some v1 ∧ w'.cell? p2 = some v2 ∧ w'.cell? p3 = some v3 ∧ w'.cell? p4 = some v4 ∧ w'.cell? p5 = some v5 ∧ Below N w0 w' ∧ N ≤ w'.heap.size) : Below N w0 w' := h.2.2.2.2.2.2.1
theorem held6i {w0 w' : World} {N : Nat} {p0 p1 p2 p3 p4 p5 : Addr} {v0 v1 v2 v3 v4 v5 : Value} (h : w'.cell? p0 = some v0 ∧ w'.cell? p1 = some v1 ∧ w'.cell? p2 = some v2 ∧ w'.cell? p3 = some v3 ∧ w'.cell? p4 = some v4 ∧ w'.cell? p5 = some v5 ∧ Below N w0 w' ∧ N ≤ w'.heap.size) : w'.cell? p0 = some v0 ∧ w'.cell? p1 = some v1 ∧ w'.cell? p2 = some v2 ∧ w'.cell? p3 = some v3 ∧ w'.cell? p4 = some v4 ∧ w'.cell? p5 = some v5 ∧ Below N w0 w' ∧ N ≤ w'.heap.size := h
theorem held7 {w0 w' w1 : World} {N : Nat} {p0 p1 p2 p3 p4 p5 p6 : Addr} {v0 v1 v2 v3 v4 v5 v6 : Value} (h : w'.cell? p0 = some v0 ∧ w'.cell? p1 = some v1 ∧ w'.cell? p2 = some v2 ∧ w'.cell? p3 = some v3 ∧ w'.cell? p4 = some v4 ∧ w'.cell? p5 = some v5 ∧ w'.cell? p6 = some v6 ∧ Below N w0 w' ∧ N ≤ w'.heap.size) (hb : Below w'.heap.size w' w1) : w1.cell? p0 = some v0 ∧ w1.cell? p1 = some v1 ∧ w1.cell? p2 = some v2 ∧ w1.cell? p3 = some v3 ∧ w1.cell? p4 = some v4 ∧ w1.cell? p5 = some v5 ∧ w1.cell? p6 = some v6 ∧ Below N w0 w1 ∧ N ≤ w1.heap.size := by
  obtain ⟨h0, h1, h2, h3, h4, h5, h6, hb0, hl⟩ := h
  exact ⟨cell_keep h0 hb, cell_keep h1 hb, cell_keep h2 hb, cell_keep h3 hb, cell_keep h4 hb, cell_keep h5 hb, cell_keep h6 hb, below_step hb0 hb hl, Nat.le_trans hl hb.size⟩
theorem held7d {w0 w' : World} {N : Nat} {p0 p1 p2 p3 p4 p5 p6 : Addr} {v0 v1 v2 v3 v4 v5 v6 : Value} (h : w'.cell? p0 = some v0 ∧ w'.cell? p1 = some v1 ∧ w'.cell? p2 = some v2 ∧ w'.cell? p3 = some v3 ∧ w'.cell? p4 = some v4 ∧ w'.cell? p5 = some v5 ∧ w'.cell? p6 = some v6 ∧ Below N w0 w' ∧ N ≤ w'.heap.size) : w'.drew.cell? p0 = some v0 ∧ w'.drew.cell? p1 = some v1 ∧ w'.drew.cell? p2 = some v2 ∧ w'.drew.cell? p3 = some v3 ∧ w'.drew.cell? p4 = some v4 ∧ w'.drew.cell? p5 = some v5 ∧ w'.drew.cell? p6 = some v6 ∧ Below N w0 w'.drew ∧ N ≤ w'.drew.heap.size := by
  obtain ⟨h0, h1, h2, h3, h4, h5, h6, hb0, hl⟩ := h
  exact ⟨h0, h1, h2, h3, h4, h5, h6, hb0.drew, hl⟩
theorem held7b {w0 w' : World} {N : Nat} {p0 p1 p2 p3 p4 p5 p6 : Addr} {v0 v1 v2 v3 v4 v5 v6 : Value} (h : w'.cell? p0 = some v0 ∧ w'.cell? p1 = some v1 ∧ w'.cell? p2 = some v2 ∧ w'.cell? p3 = some v3 ∧ w'.cell? p4 = some v4 ∧ w'.cell? p5 = some v5 ∧ w'.cell? p6 = some v6 ∧ Below N w0 w' ∧ N ≤ w'.heap.size) : Below N w0 w' := h.2.2.2.2.2.2.2.1
theorem held7i {w0 w' : World} {N : Nat} {p0 p1 p2 p3 p4 p5 p6 : Addr} {v0 v1 v2 v3 v4 v5 v6 : Value} (h : w'.cell? p0 = some v0 ∧ w'.cell? p1 = some v1 ∧ w'.cell? p2 = some v2 ∧ w'.cell? p3 = some v3 ∧ w'.cell? p4 = some v4 ∧ w'.cell? p5 = some v5 ∧ w'.cell? p6 = some v6 ∧ Below N w0 w' ∧ N ≤ w'.heap.size) : w'.cell? p0 = some v0 ∧ w'.cell? p1 = some v1 ∧ w'.cell? p2 = some v2 ∧ w'.cell? p3 = some v3 ∧ w'.cell? p4 = some v4 ∧ w'.cell? p5 = some v5 ∧ w'.cell? p6 = some v6 ∧ Below N w0 w' ∧ N ≤ w'.heap.size := h
theorem held8 {w0 w' w1 : World} {N : Nat} {p0 p1 p2 p3 p4 p5 p6 p7 : Addr} {v0 v1 v2 v3 v4 v5 v6 v7 : Value} (h : w'.cell? p0 = some v0 ∧ w'.cell? p1 = some v1 ∧ w'.cell? p2 = some v2 ∧ w'.cell? p3 = some v3 ∧ w'.cell? p4 = some v4 ∧ w'.cell? p5 = some v5 ∧ w'.cell? p6 = some v6 ∧ w'.cell? p7 = some v7 ∧ Below N w0 w' ∧ N ≤ w'.heap.size) (hb : Below w'.heap.size w' w1) : w1.cell? p0 = some v0 ∧ w1.cell? p1 = some v1 ∧ w1.cell? p2 = some v2 ∧ w1.cell? p3 = some v3 ∧ w1.cell? p4 = some v4 ∧ w1.cell? p5 = some v5 ∧ w1.cell? p6 = some v6 ∧ w1.cell? p7 = some v7 ∧ Below N w0 w1 ∧ N ≤ w1.heap.size := by
  obtain ⟨h0, h1, h2, h3, h4, h5, h6, h7, hb0, hl⟩ := h
  exact ⟨cell_keep h0 hb, cell_keep h1 hb, cell_keep h2 hb, cell_keep h3 hb, cell_keep h4 hb, cell_keep h5 hb, cell_keep h6 hb, cell_keep h7 hb, below_step hb0 hb hl, Nat.le_trans hl hb.size⟩
theorem held8d {w0 w' : World} {N : Nat} {p0 p1 p2 p3 p4 p5 p6 p7 : Addr} {v0 v1 v2 v3 v4 v5 v6 v7 : Value} (h : w'.cell? p0 = some v0 ∧ w'.cell? p1 = some v1 ∧ w'.cell? p2 = some v2 ∧ w'.cell? p3 = some v3 ∧ w'.cell? p4 = some v4 ∧ w'.cell? p5 = some v5 ∧ w'.cell? p6 = some v6 ∧ w'.cell? p7 = some v7 ∧ Below N w0 w' ∧ N ≤ w'.heap.size) : w'.drew.cell? p0 = some v0 ∧ w'.drew.cell? p1 = some v1 ∧ w'.drew.cell? p2 = some v2 ∧ w'.drew.cell? p3 = some v3 ∧ w'.drew.cell? p4 = some v4 ∧ w'.drew.cell? p5 = some v5 ∧ w'.drew.cell? p6 = some v6 ∧ w'.drew.cell? p7 = some v7 ∧ Below N w0 w'.drew ∧ N ≤ w'.drew.heap.size := by
  obtain ⟨h0, h1, h2, h3, h4, h5, h6, h7, hb0, hl⟩ := h
  exact ⟨h0, h1, h2, h3, h4, h5, h6, h7, hb0.drew, hl⟩
theorem held8b {w0 w' : World} {N : Nat} {p0 p1 p2 p3 p4 p5 p6 p7 : Addr} {v0 v1 v2 v3 v4 v5 v6 v7 : Value} (h : w'.cell? p0 = some v0 ∧ w'.cell? p1 = some v1 ∧ w'.cell? p2 = some v2 ∧ w'.cell? p3 = some v3 ∧ w'.cell? p4 = some v4 ∧ w'.cell? p5 = some v5 ∧ w'.cell? p6 = some v6 ∧ w'.cell? p7 = some v7 ∧ Below N w0 w' ∧ N ≤ w'.heap.size) : Below N w0 w' := h.2.2.2.2.2.2.2.2.1
theorem held8i {w0 w' : World} {N : Nat} {p0 p1 p2 p3 p4 p5 p6 p7 : Addr} {v0 v1 v2 v3 v4 v5 v6 v7 : Value} (h : w'.cell? p0 = some v0 ∧ w'.cell? p1 = some v1 ∧ w'.cell? p2 = some v2 ∧ w'.cell? p3 = some v3 ∧ w'.cell? p4 = some v4 ∧ w'.cell? p5 = some v5 ∧ w'.cell? p6 = some v6 ∧ w'.cell? p7 = some v7 ∧ Below N w0 w' ∧ N ≤ w'.heap.size) : w'.cell? p0 = some v0 ∧ w'.cell? p1 = some v1 ∧ w'.cell? p2 = some v2 ∧ w'.cell? p3 = some v3 ∧ w'.cell? p4 = some v4 ∧ w'.cell? p5 = some v5 ∧ w'.cell? p6 = some v6 ∧ w'.cell? p7 = some v7 ∧ Below N w0 w' ∧ N ≤ w'.heap.size := h
theorem held9 {w0 w' w1 : World} {N : Nat} {p0 p1 p2 p3 p4 p5 p6 p7 p8 : Addr} {v0 v1 v2 v3 v4 v5 v6 v7 v8 : Value} (h : w'.cell? p0 = some v0 ∧ w'.cell? p1 = some v1 ∧ w'.cell? p2 = some v2 ∧ w'.cell? p3 = some v3 ∧ w'.cell? p4 = some v4 ∧ w'.cell? p5 = some v5 ∧ w'.cell? p6 = some v6 ∧ w'.cell? p7 = some v7 ∧ w'.cell? p8 = some v8 ∧ Below N w0 w' ∧ N ≤ w'.heap.size) (hb : Below w'.heap.size w' w1) : w1.cell? p0 = some v0 ∧ w1.cell? p1 = some v1 ∧ w1.cell? p2 = some v2 ∧ w1.cell? p3 = some v3 ∧ w1.cell? p4 = some v4 ∧ w1.cell? p5 = some v5 ∧ w1.cell? p6 = some v6 ∧ w1.cell? p7 = some v7 ∧ w1.cell? p8 = some v8 ∧ Below N w0 w1 ∧ N ≤ w1.heap.size := by
  obtain ⟨h0, h1, h2, h3, h4, h5, h6, h7, h8, hb0, hl⟩ := h
  exact ⟨cell_keep h0 hb, cell_keep h1 hb, cell_keep h2 hb, cell_keep h3 hb, cell_keep h4 hb, cell_keep h5 hb, cell_keep h6 hb, cell_keep h7 hb, cell_keep h8 hb, below_step hb0 hb hl, Nat.le_trans hl hb.size⟩
theorem held9d {w0 w' : World} {N : Nat} {p0 p1 p2 p3 p4 p5 p6 p7 p8 : Addr} {v0 v1 v2 v3 v4 v5 v6 v7 v8 : Value} (h : w'.cell? p0 = some v0 ∧ w'.cell? p1 = some v1 ∧ w'.cell? p2 = some v2 ∧ w'.cell? p3 = some v3 ∧ w'.cell? p4 = some v4 ∧ w'.cell? p5 = some v5 ∧ w'.cell? p6 = some v6 ∧ w'.cell? p7 = some v7 ∧ w'.cell? p8 = some v8 ∧ Below N w0 w' ∧ N ≤ w'.heap.size) : w'.drew.cell? p0 = some v0 ∧ w'.drew.cell? p1 = some v1 ∧ w'.drew.cell? p2 = some v2 ∧ w'.drew.cell? p3 = some v3 ∧ w'.drew.cell? p4 = some v4 ∧ w'.drew.cell? p5 = some v5 ∧ w'.drew.cell? p6 = some v6 ∧ w'.drew.cell? p7 = some v7 ∧ w'.drew.cell? p8 = some v8 ∧ Below N w0 w'.drew ∧ N ≤ w'.drew.heap.size := by
  obtain ⟨h0, h1, h2, h3, h4, h5, h6, h7, h8, hb0, hl⟩ := h
  exact ⟨h0, h1, h2, h3, h4, h5, h6, h7, h8, hb0.drew, hl⟩
theorem held9b {w0 w' : World} {N : Nat} {p0 p1 p2 p3 p4 p5 p6 p7 p8 : Addr} {v0 v1 v2 v3 v4 v5 v6 v7 v8 : Value} (h : w'.cell? p0 = some v0 ∧ w'.cell? p1 = some v1 ∧ w'.cell? p2 = some v2 ∧ w'.cell? p3 = some v3 ∧ w'.cell? p4 = some v4 ∧ w'.cell? p5 = some v5 ∧ w'.cell? p6 = some v6 ∧ w'.cell? p7 = some v7 ∧ w'.cell? p8 = some v8 ∧ Below N w0 w' ∧ N ≤ w'.heap.size) : Below N w0 w' := h.2.2.2.2.2.2.2.2.2.1
theorem held9i {w0 w' : World} {N : Nat} {p0 p1 p2 p3 p4 p5 p6 p7 p8 : Addr} {v0 v1 v2 v3 v4 v5 v6 v7 v8 : Value} (h : w'.cell? p0 = some v0 ∧ w'.cell? p1 = some v1 ∧ w'.cell? p2 = some v2 ∧ w'.cell? p3 = some v3 ∧ w'.cell? p4 = some v4 ∧ w'.cell? p5 = some v5 ∧ w'.cell? p6 = some v6 ∧ w'.cell? p7 = some v7 ∧ w'.cell? p8 = some v8 ∧ Below N w0 w' ∧ N ≤ w'.heap.size) : w'.cell? p0 = some v0 ∧ w'.cell? p1 = some v1 ∧ w'.cell? p2 = some v2 ∧ w'.cell? p3 = some v3 ∧ w'.cell? p4 = some v4 ∧ w'.cell? p5 = some v5 ∧ w'.cell? p6 = some v6 ∧ w'.cell? p7 = some v7 ∧ w'.cell? p8 = some v8 ∧ Below N w0 w' ∧ N ≤ w'.heap.size := h
theorem held10 {w0 w' w1 : World} {N : Nat} {p0 p1 p2 p3 p4 p5 p6 p7 p8 p9 : Addr} {v0 v1 v2 v3 v4 v5 v6 v7 v8 v9 : Value} (h : w'.cell? p0 = some v0 ∧ w'.cell? p1 = some v1 ∧ w'.cell? p2 = some v2 ∧ w'.cell? p3 = some v3 ∧ w'.cell? p4 = some v4 ∧ w'.cell? p5 = some v5 ∧ w'.cell? p6 = some v6 ∧ w'.cell? p7 = some v7 ∧ w'.cell? p8 = some v8 ∧ w'.cell? p9 = some v9 ∧ Below N w0 w' ∧ N ≤ w'.heap.size) (hb : Below w'.heap.size w' w1) : w1.cell? p0 = some v0 ∧ w1.cell? p1 = some v1 ∧ w1.cell? p2 = some v2 ∧ w1.cell? p3 = some v3 ∧ w1.cell? p4 = some v4 ∧ w1.cell? p5 = some v5 ∧ w1.cell? p6 = some v6 ∧ w1.cell? p7 = some v7 ∧ w1.cell? p8 = some v8 ∧ w1.cell? p9 = some v9 ∧ Below N w0 w1 ∧ N ≤ w1.heap.size := by
  obtain ⟨h0, h1, h2, h3, h4, h5, h6, h7, h8, h9, hb0, hl⟩ := h
  exact ⟨cell_keep h0 hb, cell_keep h1 hb, cell_keep h2 hb, cell_keep h3 hb, cell_keep h4 hb, cell_keep h5 hb, cell_keep h6 hb, cell_keep h7 hb, cell_keep h8 hb, cell_keep h9 hb, below_step hb0 hb hl, Nat.le_trans hl hb.size⟩
theorem held10d {w0 w' : World} {N : Nat} {p0 p1 p2 p3 p4 p5 p6 p7 p8 p9 : Addr} {v0 v1 v2 v3 v4 v5 v6 v7 v8 v9 : Value} (h : w'.cell? p0 = some v0 ∧ w'.cell? p1 = some v1 ∧ w'.cell? p2 = some v2 ∧ w'.cell? p3 = some v3 ∧ w'.cell? p4 = some v4 ∧ w'.cell? p5 = some v5 ∧ w'.cell? p6 = some v6 ∧ w'.cell? p7 = some v7 ∧ w'.cell? p8 = some v8 ∧ w'.cell? p9 = some v9 ∧ Below N w0 w' ∧ N ≤ w'.heap.size) : w'.drew.cell? p0 = some v0 ∧ w'.drew.cell? p1 = some v1 ∧ w'.drew.cell? p2 = some v2 ∧ w'.drew.cell? p3 = some v3 ∧ w'.drew.cell? p4 = some v4 ∧ w'.drew.cell? p5 = some v5 ∧ w'.drew.cell? p6 = some v6 ∧ w'.drew.cell? p7 = some v7 ∧ w'.drew.cell? p8 = some v8 ∧ w'.drew.cell? p9 = some v9 ∧ Below N w0 w'.drew ∧ N ≤ w'.drew.heap.size := by
  obtain ⟨h0, h1, h2, h3, h4, h5, h6, h7, h8, h9, hb0, hl⟩ := h
  exact ⟨h0, h1, h2, h3, h4, h5, h6, h7, h8, h9, hb0.drew, hl⟩
theorem held10b {w0 w' : World} {N : Nat} {p0 p1 p2 p3 p4 p5 p6 p7 p8 p9 : Addr} {v0 v1 v2 v3 v4 v5 v6 v7 v8 v9 : Value} (h : w'.cell? p0 = some v0 ∧ w'.cell? p1 = some v1 ∧ w'.cell? p2 = some v2 ∧ w'.cell? p3 = some v3 ∧ w'.cell? p4 = some v4 ∧ w'.cell? p5 = some v5 ∧ w'.cell? p6 = some v6 ∧ w'.cell? p7 = some v7 ∧ w'.cell? p8 = some v8 ∧ w'.cell? p9 = some v9 ∧ Below N w0 w' ∧ N ≤ w'.heap.size) : Below N w0 w' := h.2.2.2.2.2.2.2.2.2.2.1
theorem held10i {w0 w' : World} {N : Nat} {p0 p1 p2 p3 p4 p5 p6 p7 p8 p9 : Addr} {v0 v1 v2 v3 v4 v5 v6 v7 v8 v9 : Value} (h : w'.cell? p0 = some v0 ∧ w'.cell? p1 = some v1 ∧ w'.cell? p2 = some v2 ∧ w'.cell? p3 = some v3 ∧ w'.cell? p4 = some v4 ∧ w'.cell? p5 = some v5 ∧ w'.cell? p6 = some v6 ∧ w'.cell? p7 = some v7 ∧ w'.cell? p8 = some v8 ∧ w'.cell? p9 = some v9 ∧ Below N w0 w' ∧ N ≤ w'.heap.size) : w'.cell? p0 = some v0 ∧ w'.cell? p1 = some v1 ∧ w'.cell? p2 = some v2 ∧ w'.cell? p3 = some v3 ∧ w'.cell? p4 = some v4 ∧ w'.cell? p5 = some v5 ∧ w'.cell? p6 = some v6 ∧ w'.cell? p7 = some v7 ∧ w'.cell? p8 = some v8 ∧ w'.cell? p9 = some v9 ∧ Below N w0 w' ∧ N ≤ w'.heap.size := h
theorem held11 {w0 w' w1 : World} {N : Nat} {p0 p1 p2 p3 p4 p5 p6 p7 p8 p9 p10 : Addr} {v0 v1 v2 v3 v4 v5 v6 v7 v8 v9 v10 : Value} (h : w'.cell? p0 = some v0 ∧ w'.cell? p1 = some v1 ∧ w'.cell? p2 = some v2 ∧ w'.cell? p3 = some v3 ∧ w'.cell? p4 = some v4 ∧ w'.cell? p5 = some v5 ∧ w'.cell? p6 = some v6 ∧ w'.cell? p7 = some v7 ∧ w'.cell? p8 = some v8 ∧ w'.cell? p9 = some v9 ∧ w'.cell? p10 = some v10 ∧ Below N w0 w' ∧ N ≤ w'.heap.size) (hb : Below w'.heap.size w' w1) : w1.cell? p0 = some v0 ∧ w1.cell? p1 = some v1 ∧ w1.cell? p2 = some v2 ∧ w1.cell? p3 = some v3 ∧ w1.cell? p4 = some v4 ∧ w1.cell? p5 = some v5 ∧ w1.cell? p6 = some v6 ∧ w1.cell? p7 = some v7 ∧ w1.cell? p8 = some v8 ∧ w1.cell? p9 = some v9 ∧ w1.cell? p10 = some v10 ∧ Below N w0 w1 ∧ N ≤ w1.heap.size := by
  obtain ⟨h0, h1, h2, h3, h4, h5, h6, h7, h8, h9, h10, hb0, hl⟩ := h
  exact ⟨cell_keep h0 hb, cell_keep h1 hb, cell_keep h2 hb, cell_keep h3 hb, cell_keep h4 hb, cell_keep h5 hb, cell_keep h6 hb, cell_keep h7 hb, cell_keep h8 hb, cell_keep h9 hb, cell_keep h10 hb, below_step hb0 hb hl, Nat.le_trans hl hb.size⟩
theorem held11d {w0 w' : World} {N : Nat} {p0 p1 p2 p3 p4 p5 p6 p7 p8 p9 p10 : Addr} {v0 v1 v2 v3 v4 v5 v6 v7 v8 v9 v10 : Value} (h : w'.cell? p0 = some v0 ∧ w'.cell? p1 = some v1 ∧ w'.cell? p2 = some v2 ∧ w'.cell? p3 = some v3 ∧ w'.cell? p4 = some v4 ∧ w'.cell? p5 = some v5 ∧ w'.cell? p6 = some v6 ∧ w'.cell? p7 = some v7 ∧ w'.cell? p8 = some v8 ∧ w'.cell? p9 = some v9 ∧ w'.cell? p10 = some v10 ∧ Below N w0 w' ∧ N ≤ w'.heap.size) : w'.drew.cell? p0 = some v0 ∧ w'.drew.cell? p1 = some v1 ∧ w'.drew.cell? p2 = some v2 ∧ w'.drew.cell? p3 = some v3 ∧ w'.drew.cell? p4 = some v4 ∧ w'.drew.cell? p5 = some v5 ∧ w'.drew.cell? p6 = some v6 ∧ w'.drew.cell? p7 = some v7 ∧ w'.drew.cell? p8 = some v8 ∧ w'.drew.cell? p9 = some v9 ∧ w'.drew.cell? p10 = some v10 ∧ Below N w0 w'.drew ∧ N ≤ w'.drew.heap.size := by
  obtain ⟨h0, h1, h2, h3, h4, h5, h6, h7, h8, h9, h10, hb0, hl⟩ := h
  exact ⟨h0, h1, h2, h3, h4, h5, h6, h7, h8, h9, h10, hb0.drew, hl⟩
theorem held11b {w0 w' : World} {N : Nat} {p0 p1 p2 p3 p4 p5 p6 p7 p8 p9 p10 : Addr} {v0 v1 v2 v3 v4 v5 v6 v7 v8 v9 v10 : Value} (h : w'.cell? p0 = some v0 ∧ w'.cell? p1 = some v1 ∧ w'.cell? p2 = some v2 ∧ w'.cell? p3 = some v3 ∧ w'.cell? p4 = some v4 ∧ w'.cell? p5 = some v5 ∧ w'.cell? p6 = some v6 ∧ w'.cell? p7 = some v7 ∧ w'.cell? p8 = some v8 ∧ w'.cell? p9 = some v9 ∧ w'.cell? p10 = some v10 ∧ Below N w0 w' ∧ N ≤ w'.heap.size) : Below N w0 w' := h.2.2.2.2.2.2.2.2.2.2.2.1
theorem held11i {w0 w' : World} {N : Nat} {p0 p1 p2 p3 p4 p5 p6 p7 p8 p9 p10 : Addr} {v0 v1 v2 v3 v4 v5 v6 v7 v8 v9 v10 : Value} (h : w'.cell? p0 = some v0 ∧ w'.cell? p1 = some v1 ∧ w'.cell? p2 = some v2 ∧ w'.cell? p3 = some v3 ∧ w'.cell? p4 = some v4 ∧ w'.cell? p5 = some v5 ∧ w'.cell? p6 = some v6 ∧ w'.cell? p7 = some v7 ∧ w'.cell? p8 = some v8 ∧ w'.cell? p9 = some v9 ∧ w'.cell? p10 = some v10 ∧ Below N w0 w' ∧ N ≤ w'.heap.size) : w'.cell? p0 = some v0 ∧ w'.cell? p1 = some v1 ∧ w'.cell? p2 = some v2 ∧ w'.cell? p3 = some v3 ∧ w'.cell? p4 = some v4 ∧ w'.cell? p5 = some v5 ∧ w'.cell? p6 = some v6 ∧ w'.cell? p7 = some v7 ∧ w'.cell? p8 = some v8 ∧ w'.cell? p9 = some v9 ∧ w'.cell? p10 = some v10 ∧ Below N w0 w' ∧ N ≤ w'.heap.size := h
theorem held12 {w0 w' w1 : World} {N : Nat} {p0 p1 p2 p3 p4 p5 p6 p7 p8 p9 p10 p11 : Addr} {v0 v1 v2 v3 v4 v5 v6 v7 v8 v9 v10 v11 : Value} (h : w'.cell? p0 = some v0 ∧ w'.cell? p1 = some v1 ∧ w'.cell? p2 = some v2 ∧ w'.cell? p3 = some v3 ∧ w'.cell? p4 = some v4 ∧ w'.cell? p5 = some v5 ∧ w'.cell? p6 = some v6 ∧ w'.cell? p7 = some v7 ∧ w'.cell? p8 = some v8 ∧ w'.cell? p9 = some v9 ∧ w'.cell? p10 = some v10 ∧ w'.cell? p11 = some v11 ∧ Below N w0 w' ∧ N ≤ w'.heap.size) (hb : Below w'.heap.size w' w1) : w1.cell? p0 = some v0 ∧ w1.cell? p1 = some v1 ∧ w1.cell? p2 = some v2 ∧ w1.cell? p3 = some v3 ∧ w1.cell? p4 = some v4 ∧ w1.cell? p5 = some v5 ∧ w1.cell? p6 = some v6 ∧ w1.cell? p7 = some v7 ∧ w1.cell? p8 = some v8 ∧ w1.cell? p9 = some v9 ∧ w1.cell? p10 = some v10 ∧ w1.cell? p11 = some v11 ∧ Below N w0 w1 ∧ N ≤ w1.heap.size := by
  obtain ⟨h0, h1, h2, h3, h4, h5, h6, h7, h8, h9, h10, h11, hb0, hl⟩ := h
  exact ⟨cell_keep h0 hb, cell_keep h1 hb, cell_keep h2 hb, cell_keep h3 hb, cell_keep h4 hb, cell_keep h5 hb, cell_keep h6 hb, cell_keep h7 hb, cell_keep h8 hb, cell_keep h9 hb, cell_keep h10 hb, cell_keep h11 hb, below_step hb0 hb hl, Nat.le_trans hl hb.size⟩
theorem held12d {w0 w' : World} {N : Nat} {p0 p1 p2 p3 p4 p5 p6 p7 p8 p9 p10 p11 : Addr} {v0 v1 v2 v3 v4 v5 v6 v7 v8 v9 v10 v11 : Value} (h : w'.cell? p0 = some v0 ∧ w'.cell? p1 = some v1 ∧ w'.cell? p2 = some v2 ∧ w'.cell? p3 = some v3 ∧ w'.cell? p4 = some v4 ∧ w'.cell? p5 = some v5 ∧ w'.cell? p6 = some v6 ∧ w'.cell? p7 = some v7 ∧ w'.cell? p8 = some v8 ∧ w'.cell? p9 = some v9 ∧ w'.cell? p10 = some v10 ∧ w'.cell? p11 = some v11 ∧ Below N w0 w' ∧ N ≤ w'.heap.size) : w'.drew.cell? p0 = some v0 ∧ w'.drew.cell? p1 = some v1 ∧ w'.drew.cell? p2 = some v2 ∧ w'.drew.cell? p3 = some v3 ∧ w'.drew.cell? p4 = some v4 ∧ w'.drew.cell? p5 = some v5 ∧ w'.drew.cell? p6 = some v6 ∧ w'.drew.cell? p7 = some v7 ∧ w'.drew.cell? p8 = some v8 ∧ w'.drew.cell? p9 = some v9 ∧ w'.drew.cell? p10 = some v10 ∧ w'.drew.cell? p11 = some v11 ∧ Below N w0 w'.drew ∧ N ≤ w'.drew.heap.size := by
  obtain ⟨h0, h1, h2, h3, h4, h5, h6, h7, h8, h9, h10, h11, hb0, hl⟩ := h
  exact ⟨h0, h1, h2, h3, h4, h5, h6, h7, h8, h9, h10, h11, hb0.drew, hl⟩
theorem held12b {w0 w' : World} {N : Nat} {p0 p1 p2 p3 p4 p5 p6 p7 p8 p9 p10 p11 : Addr} {v0 v1 v2 v3 v4 v5 v6 v7 v8 v9 v10 v11 : Value} (h : w'.cell? p0 = some v0 ∧ w'.cell? p1 = some v1 ∧ w'.cell? p2 = some v2 ∧ w'.cell? p3 = some v3 ∧ w'.cell? p4 = some v4 ∧ w'.cell? p5 = some v5 ∧ w'.cell? p6 = some v6 ∧ w'.cell? p7 = some v7 ∧ w'.cell? p8 = some v8 ∧ w'.cell? p9 = some v9 ∧ w'.cell? p10 = some v10 ∧ w'.cell? p11 = some v11 ∧ Below N w0 w' ∧ N ≤ w'.heap.size) : Below N w0 w' := h.2.2.2.2.2.2.2.2.2.2.2.2.1
theorem held12i {w0 w' : World} {N : Nat} {p0 p1 p2 p3 p4 p5 p6 p7 p8 p9 p10 p11 : Addr} {v0 v1 v2 v3 v4 v5 v6 v7 v8 v9 v10 v11 : Value} (h : w'.cell? p0 = some v0 ∧ w'.cell? p1 = some v1 ∧ w'.cell? p2 = some v2 ∧ w'.cell? p3 = some v3 ∧ w'.cell? p4 = some v4 ∧ w'.cell? p5 = some v5 ∧ w'.cell? p6 = some v6 ∧ w'.cell? p7 = some v7 ∧ w'.cell? p8 = some v8 ∧ w'.cell? p9 = some v9 ∧ w'.cell? p10 = some v10 ∧ w'.cell? p11 = some v11 ∧ Below N w0 w' ∧ N ≤ w'.heap.size) : w'.cell? p0 = some v0 ∧ w'.cell? p1 = some v1 ∧ w'.cell? p2 = some v2 ∧ w'.cell? p3 = some v3 ∧ w'.cell? p4 = some v4 ∧ w'.cell? p5 = some v5 ∧ w'.cell? p6 = some v6 ∧ w'.cell? p7 = some v7 ∧ w'.cell? p8 = some v8 ∧ w'.cell? p9 = some v9 ∧ w'.cell? p10 = some v10 ∧ w'.cell? p11 = some v11 ∧ Below N w0 w' ∧ N ≤ w'.heap.size := h


theorem ownsRow_drewN {w : World} {base : Nat} {e : TypeId} {size : Nat} {v : Value} {n : Nat} {xs : List Value} (h : w.ownsRow base e size v n xs) (k : Nat) : (w.drewN k).ownsRow base e size v n xs := h
theorem news_new (w : World) (cs : List Value) (t : TypeId) : ∀ j u, cs[j]? = some u → (w.alloc (.cells cs.toArray t)).cell? ((⟨w.heap.size, 0, none⟩ : Addr).add j) = some u := by
  intro j u hj
  have e : ((⟨w.heap.size, 0, none⟩ : Addr).add j) = ⟨w.heap.size, j, none⟩ := by
    unfold Addr.add; split <;> simp_all
  rw [e, World.cell?_alloc_new]
  simpa using hj

/-- One element appended to a row of the call's own: the operand is the new block that buildSlice has just made. -/
theorem wpList_append1 {P : Program} {ops : Array Oper} {rest : List Oper} {o : Oper} {a : Act} {Q : Exit → Act → World → Prop} {w W : World} (hgd : o.guard = none) (s x : Operand) (t : TypeId)
    (ho : o.op = .call { callee := .builtin .append, args := #[s, x], argTypes := #[t, t] })
    (base : Nat) (e : TypeId) (i : TypeInfo) (z : Value) (size bytes : Nat) (ht : P.underlying t = some (.slice e)) (hi : P.info? e = some i) (hz : i.zero = some z)
    (hsize : i.size = size) (hby : i.bytes = bytes) (hzs : z.cells.size = size) (hsz : 0 < size)
    (v : Value) (n : Nat) (xs : List Value) (hs : a.eval s = v) (hown : w.ownsRow base e size v n xs)
    (cs : List Value) (t' : TypeId) (hW : W = w.alloc (.cells cs.toArray t')) (g : Nat) (hx : a.eval x = .slice (some ⟨g, 0, none⟩) 1 1) (hg0 : g = w.heap.size) (hl : cs.length = size) (h1 : ∀ u ∈ cs, u.oneCell' = true)
    (hbytes : (n + 1) * bytes ≤ 140737488355328) (h63 : n + 1 ≤ maxLen) (hbase : base ≤ w.heap.size)
    (h : ∀ v' w', w'.ownsRow base e size v' (n + 1) (xs ++ cs) → Below base w w' → w.heap.size ≤ w'.heap.size → (∀ k, k < w.heap.size → some k ≠ v.ownBlock → w'.heap[k]? = w.heap[k]?) → wpList P ops Q rest (a.put o.dst v') w') :
    wpList P ops Q (o :: rest) a W := by
  subst hW
  subst hg0
  refine wpList_append_own _ hgd s x t ho base e i z size bytes ht hi hz hsize hby hzs hsz v n xs hs (hown.alloc _) _ 1 1 cs hx (by rw [hl, Nat.one_mul]) (news_new w cs t') h1 h63 hbytes (by simp; omega) ?_
  intro v' w' hown' hg _
  have hlt := hown.lt
  have hz' : w.heap.size ≤ w'.heap.size := by have := hg.size; simp at this; omega
  refine h v' w' hown' ?_ hz' ?_
  · exact ((Below.refl base w).alloc hbase _).grown hg (by simp; omega) (fun k hk => (hlt k hk).1)
  · intro k hk hne
    rw [hg.block k (by simp; omega) hne]
    exact Below.heap_alloc w _ k hk
end Go.Proofs.YtgmcojnhpedpnaaGreat
