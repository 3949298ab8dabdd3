/- Copies of formulas: names.Copy and the reference ExprCopy. -/
import Derived.Test.YtgmcojnhpedpnaaOwn
import Derived.Deep.RegionLaw
namespace Go.Proofs.Ytgmcojnhpedpnaa
open Go.RowKit

def fresh (w w' : World) : Nat → Prop := fun b => w.heap.size ≤ b ∧ b < w'.heap.size
/-- The ending with a formula in new memory. -/
def RetExp (w : World) (x : Exp) (e : Ending) (w' : World) : Prop :=
  ∃ A c, e = .returned (.agg #[.int .i64 x.op, .int .i64 x.v.k, .int .i64 x.v.n, .string x.v.s, .string x.name, .slice A x.args.length c]) ∧
    XRep w' (fresh w w') [.int .i64 x.op, .int .i64 x.v.k, .int .i64 x.v.n, .string x.v.s, .string x.name, .slice A x.args.length c] x ∧ Below w.heap.size w w'

mutual
def Exp.nodes : Exp → Nat
  | .mk _ _ _ args => nodesL args + 1
def nodesL : List Exp → Nat
  | [] => 0
  | a :: l => a.nodes + nodesL l
end
theorem nodes_at : ∀ (l : List Exp) (i : Nat) (a : Exp), l[i]? = some a → a.nodes ≤ nodesL l
  | [], i, a, h => by simp at h
  | b :: l, 0, a, h => by simp at h; subst h; simp [nodesL]
  | b :: l, i + 1, a, h => by
    have := nodes_at l i a (by simpa using h)
    simp only [nodesL]; omega

theorem Try.infoExp : (Try.prog.info? 26).map (fun i => (i.zero, i.size, i.bytes)) = some (some (.agg #[.int .i64 0, .int .i64 0, .int .i64 0, .string ⟨#[]⟩, .string ⟨#[]⟩, .slice none 0 0]), 6, 80) := by kernel_rfl

theorem Exp_at {w : World} {S : Nat → Prop} {A : Option Addr} {n k : Nat} {l : List Exp} (h : Sl w S 6 (XRep w S) A n l) (hk : k < n) :
    ∃ b o f X C, A = some ⟨b, o, none⟩ ∧ S b ∧ l[k]? = some f ∧
      XRep w S [.int .i64 f.op, .int .i64 f.v.k, .int .i64 f.v.n, .string f.v.s, .string f.name, .slice X f.args.length C] f ∧
      w.cell? ⟨b, o + k * 6, none⟩ = some (.int .i64 f.op) ∧ w.cell? ⟨b, o + k * 6 + 1, none⟩ = some (.int .i64 f.v.k) ∧ w.cell? ⟨b, o + k * 6 + 2, none⟩ = some (.int .i64 f.v.n) ∧
      w.cell? ⟨b, o + k * 6 + 3, none⟩ = some (.string f.v.s) ∧ w.cell? ⟨b, o + k * 6 + 4, none⟩ = some (.string f.name) ∧ w.cell? ⟨b, o + k * 6 + 5, none⟩ = some (.slice X f.args.length C) := by
  obtain ⟨b, o, f, cs, rfl, hs, hl, hr, _, hc⟩ := h.at_ hk
  have hr' := hr
  obtain ⟨X, C, rfl, _⟩ := hr.open_
  exact ⟨b, o, f, X, C, rfl, hs, hl, hr', hc 0 (by decide), hc 1 (by decide), hc 2 (by decide), hc 3 (by decide), hc 4 (by decide), hc 5 (by decide)⟩
theorem Own.set {α : Type} {R : World → (Nat → Prop) → List Value → α → Prop} (K : Keeps R) {w : World} {base : Nat} {e : TypeId} {size : Nat} {v : Value} {l : List α} (h : Own w base e size R v l) (p : Addr) (u : Value) (hp : p.block < base) : Own (w.setCell p u) base e size R v l := by
  obtain ⟨C, h1, h2, h3, h4⟩ := h
  refine ⟨C, ⟨h1.1, ?_⟩, h2, h3, fun i c a hc ha => K _ _ _ _ _ _ (h4 i c a hc ha) fun b hb => ⟨⟨hb.1, by simpa using hb.2.1, hb.2.2⟩, heap_setCell_other w p b u (by have := hb.1; omega)⟩⟩
  rcases h1.2 with hn | ⟨g, cap, cur, rfl, hbg, hgg, rest⟩
  · exact .inl hn
  · refine .inr ⟨g, cap, cur, rfl, hbg, ?_, rest⟩
    rw [heap_setCell_other w p g u (by omega)]
    exact hgg
theorem Own.lt {α : Type} {R : World → (Nat → Prop) → List Value → α → Prop} {w : World} {base : Nat} {e : TypeId} {size : Nat} {v : Value} {l : List α} (h : Own w base e size R v l) : ∀ k, v.ownBlock = some k → base ≤ k ∧ k < w.heap.size := by
  obtain ⟨C, h1, _⟩ := h
  exact h1.lt
/-- What holds at the head of each round: k arguments are copied; o is the block of the formula in the making, base the first block behind those that stand from the beginning. -/
def CopyRel (w : World) (o base : Nat) (x : Exp) (k : Nat) (wr : World) : Prop :=
  ∃ (A' : Option Addr) (c' : Nat), wr.cell? ⟨o, 0, none⟩ = some (.int .i64 x.op) ∧ wr.cell? ⟨o, 1, none⟩ = some (.int .i64 x.v.k) ∧ wr.cell? ⟨o, 2, none⟩ = some (.int .i64 x.v.n) ∧
    wr.cell? ⟨o, 3, none⟩ = some (.string x.v.s) ∧ wr.cell? ⟨o, 4, none⟩ = some (.string x.name) ∧ wr.cell? ⟨o, 5, none⟩ = some (.slice A' k c') ∧
    wr.frozen? ⟨o, 5, none⟩ = false ∧ Own wr base 26 6 XRep (.slice A' k c') (x.args.take k) ∧ Below w.heap.size w wr ∧ base ≤ wr.heap.size

end Go.Proofs.Ytgmcojnhpedpnaa
