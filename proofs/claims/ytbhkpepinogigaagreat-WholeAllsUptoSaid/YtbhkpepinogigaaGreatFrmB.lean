/- What bulk bounds; what a form that is handed in holds. -/
import Derived.Test.YtbhkpepinogigaaGreatDecs
import Derived.Test.YtbhkpepinogigaaGreatFrm
namespace Go.Proofs.YtbhkpepinogigaaGreat
open Go.ChangeShapes Go.WideShapes Go.ChangeAt Go.RowKit

mutual
theorem bulk_nodes : ∀ x : Exp, x.nodes ≤ x.bulk
  | .mk op v nm args => by
    have := bulks_nodes args
    simp only [Exp.bulk, Exp.nodes]
    omega
theorem bulks_nodes : ∀ l : List Exp, nodesL l ≤ Exp.bulk.bulks l
  | [] => by simp [nodesL]
  | a :: l => by
    have := bulk_nodes a
    have := bulks_nodes l
    simp only [Exp.bulk.bulks, nodesL]
    omega
end
theorem flds_nodes : ∀ l : List Fld, (l.map Fld.bulk).sum ≤ 1048576 → ∀ f ∈ l, f.source.nodes ≤ 1048576
  | [], _ => fun f hf => absurd hf List.not_mem_nil
  | a :: l, h => by
    simp only [List.map_cons, List.sum_cons] at h
    intro f hf
    rcases List.mem_cons.1 hf with rfl | hf
    · have := bulk_nodes f.source
      have e : f.bulk = f.name.size + f.source.bulk + 1 := rfl
      omega
    · exact flds_nodes l (by omega) f hf
theorem Sl_each {α : Type} {w : World} {S : Nat → Prop} {size : Nat} {R : List Value → α → Prop} {A : Option Addr} {n : Nat} {l : List α} (h : Sl w S size R A n l) : ∀ a ∈ l, ∃ cs, R cs a := by
  intro a ha
  obtain ⟨i, hi, rfl⟩ := List.mem_iff_getElem.1 ha
  have hn : 0 < n := by rw [← h.1]; omega
  obtain ⟨b, o, e, hs, hc⟩ := h.2 hn
  obtain ⟨cs, h1, _⟩ := hc i l[i] (List.getElem?_eq_getElem hi)
  exact ⟨cs, h1⟩
theorem flds_inS {w : World} {A : Option Addr} {n : Nat} {l : List Fld} (h : Sl w (old w) 9 (RFld w (old w)) A n l) : ∀ f ∈ l, inS f.name ∧ ∀ s ∈ askN f.source, inS s := by
  intro f hf
  obtain ⟨cs, hr⟩ := Sl_each h f hf
  exact ⟨hr.1, askN_inS hr.2.2.2.choose_spec.2⟩
/-- A form that is handed in, by its parts. -/
theorem RFrm.parts {w : World} {cs : List Value} {f : Frm} (h : RFrm w (old w) cs f) (hb : f.bulk ≤ 1048576) :
    ∃ A n c A2 n2 c2, cs = [.slice A n c, .slice A2 n2 c2] ∧ RFo w A n c f.fields A2 n2 c2 f.pages ∧ FldsOk f.fields := by
  obtain ⟨A, n, c, A2, n2, c2, rfl, hn, hnc, hn2, hnc2, hs, hs2⟩ := h
  exact ⟨A, n, c, A2, n2, c2, rfl, ⟨hn, hnc, hn2, hnc2, hs, hs2⟩, flds_nodes f.fields (by unfold Frm.bulk at hb; omega), flds_inS hs⟩
theorem pag_fields {w : World} {A : Option Addr} {n : Nat} {l : List Pag} (h : Sl w (old w) 8 (RPag w (old w)) A n l) : ∀ p ∈ l, ∀ s ∈ p.fields, inS s := by
  intro p hp
  obtain ⟨cs, r1, Y, m, D, xs, _, r2, r3, r4, _⟩ := Sl_each h p hp
  intro s hs
  obtain ⟨c, _, hi⟩ := Sl_each r4 s hs
  exact hi
end Go.Proofs.YtbhkpepinogigaaGreat
