/- Slices of texts: slices.Index, Contains and Clone at []string; the reference holds. -/
import Derived.Test.YtgmcojnhpedpnaaDoorRow
import Derived.Test.YtgmcojnhpedpnaaDoorIdx
namespace Go.Proofs.YtgmcojnhpedpnaaDoor
open Go.RowKit

def isStr (s t : ByteArray) : Bool := s.toList == t.toList
theorem isStr_comm {s t : ByteArray} {b : Bool} (h : isStr s t = b) : (t.toList == s.toList) = b := by rw [← h, isStr, Bool.eq_iff_iff, beq_iff_eq, beq_iff_eq]; exact ⟨Eq.symm, Eq.symm⟩
abbrev strCs (s : ByteArray) : List Value := [.string s]
theorem Tryd.infoStr' : (Tryd.prog.info? 9).map (fun i => (i.zero, i.size, i.bytes)) = some (some (.string ⟨#[]⟩), 1, 16) := by kernel_rfl
theorem oneStr (l : List ByteArray) : ∀ u ∈ l.flatMap strCs, u.oneCell' = true := by
  intro u hu
  obtain ⟨x, _, hx⟩ := List.mem_flatMap.1 hu
  simp only [strCs, List.mem_cons, List.not_mem_nil, or_false] at hx
  rw [hx]; rfl
theorem Sl.cellsStr {w : World} {S : Nat → Prop} {A : Option Addr} {n : Nat} {l : List ByteArray} (h : Sl w S 1 RStr A n l) : ∀ p, A = some p → ∀ j u, (l.flatMap strCs)[j]? = some u → w.cell? (p.add j) = some u :=
  Sl.cells (by decide) (fun _ => rfl) (fun _ _ h => h.1) h
theorem ownStr {w : World} {base : Nat} {e : TypeId} {v : Value} {n : Nat} {l : List ByteArray} (h : w.ownsRow base e 1 v n (l.flatMap strCs)) (hl : l.length = n) (hw : ∀ a ∈ l, inS a) :
    ∃ A c, v = .slice A n c ∧ n ≤ c ∧ Sl w (old w) 1 RStr A n l := own_slw strCs inS (fun _ => rfl) h hl hw

end Go.Proofs.YtgmcojnhpedpnaaDoor
