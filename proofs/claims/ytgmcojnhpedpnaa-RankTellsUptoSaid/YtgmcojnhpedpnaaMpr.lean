/- Ranging over a map that is told key by key. Plain laws; no program text is walked here. -/
import Derived.Test.YtgmcojnhpedpnaaMp
import Derived.Maps.RangeWalk
import Derived.StringKeys
namespace Go.Proofs.Ytgmcojnhpedpnaa
open Go.RowKit Go.Maps

section
variable {P : Program} {k e t : TypeId} {w w' : World} {b n r : Nat} {f : Lit → Option Value}
/-- An iterator (block r) over the map in block b is under way; left: what is still to come. -/
def RangeIs (w : World) (P : Program) (k : TypeId) (b r n : Nat) (f : Lit → Option Value) (left : Lit → Bool) (cnt : Nat) : Prop :=
  ∃ D : DataW Value, w.ranges P k rdV b r n D left cnt ∧ (∀ kl, Maps.has D kl = (f kl).isSome) ∧ ∀ kl v, f kl = some v → ∀ z, D.atKey kl z = .held v
theorem RangeIs.left_eq {left : Lit → Bool} {cnt : Nat} (h : RangeIs w P k b r n f left cnt) : w.rangeLeft b r = cnt := by
  obtain ⟨D, h1, _⟩ := h; exact h1.left_eq
theorem RangeIs.lt {left : Lit → Bool} {cnt : Nat} (h : RangeIs w P k b r n f left cnt) : r < w.heap.size := by
  obtain ⟨D, h1, _⟩ := h; exact h1.lt
theorem RangeIs.ltb {left : Lit → Bool} {cnt : Nat} (h : RangeIs w P k b r n f left cnt) : b < w.heap.size := by
  obtain ⟨D, h1, _⟩ := h; exact h1.owns.lt
theorem RangeIs.kept {left : Lit → Bool} {cnt : Nat} {row : Option Nat} (h : RangeIs w P k b r n f left cnt) (hg : w.grownBy w' row) (hb' : some b ≠ row) (hr' : some r ≠ row) : RangeIs w' P k b r n f left cnt := by
  obtain ⟨D, h1, h2⟩ := h; exact ⟨D, h1.kept hg hb' hr', h2⟩
theorem RangeIs.cnt_le {left : Lit → Bool} {cnt : Nat} (h : RangeIs w P k b r n f left cnt) : cnt ≤ n := by
  obtain ⟨D, ⟨es, clock, since, seen, c0, _, _, h3, _, _, _, h7, _⟩, _⟩ := h
  rw [← h7]
  refine Nat.le_trans ?_ h3
  unfold leftOf
  exact Array.size_filter_le
end
section
variable {P : Program} (w : World) {ops : Array Oper} {rest : List Oper} {o : Oper} {a : Act} {Q : Exit → Act → World → Prop}
theorem wpList_range_Is (hg : o.guard = none) (m : Operand) (t : TypeId) (hop : o.op = Op.range t m) (k e : TypeId) (K : Keyed P k) (ht : P.underlying t = some (.map k e)) (b n : Nat) (f : Lit → Option Value)
    (hm : a.eval m = .map (some b)) (hown : MapIs w P k b n f)
    (hK : ∀ w' left cnt, RangeIs w' P k b w.heap.size n f left cnt → (∀ kl, left kl = (f kl).isSome) → w.grownBy w' none → w'.heap.size = w.heap.size + 1 → wpList P ops Q rest (a.put o.dst (.pointer (some ⟨w.heap.size, 0, none⟩))) w') :
    wpList P ops Q (o :: rest) a w := by
  obtain ⟨D, h1, h2, h3⟩ := hown
  exact wpList_range_own w hg m t hop k e K ht rdV b n D hm h1 fun w' h4 h5 h6 => hK w' _ _ ⟨D, h4, h2, h3⟩ h2 h5 h6
theorem wpList_next_Is (hg : o.guard = none) (it : Operand) (hop : o.op = Op.next it false) (k : TypeId) (K : Keyed P k) (hk : P.underlying k = some .string) (b r n : Nat) (f : Lit → Option Value) (left : Lit → Bool) (cnt : Nat)
    (hsub : ∀ kl, left kl = true → (f kl).isSome = true) (hit : a.eval it = .pointer (some ⟨r, 0, none⟩)) (h : RangeIs w P k b r n f left cnt)
    (hDone : cnt = 0 → (∀ kl, left kl = false) → wpList P ops Q rest (a.put o.dst (.tuple #[.bool false])) w)
    (hMore : ∀ (s : ByteArray) (c : Value) (w' : World) (cnt' : Nat), s.size ≤ maxLen → left (.string s.data.toList) = true → f (.string s.data.toList) = some c →
      RangeIs w' P k b r n f (fun z => left z && !z.sameKey (.string s.data.toList)) cnt' → cnt' < cnt → w.grownBy w' (some r) → w'.heap.size = w.heap.size →
      (Instr.entry (.pointer (some ⟨r, 0, none⟩))).run P w' = .ok (.tuple #[.string s, c]) w' → wpList P ops Q rest (a.put o.dst (.tuple #[.bool true, .string s, c])) w') :
    wpList P ops Q (o :: rest) a w := by
  obtain ⟨D, h1, h2, h3⟩ := h
  refine wpList_next_ranges w hg it hop k K rdV Value.string (fun v : Value => v) (fun key kl hkey => ?_) (fun v y _ => ⟨v, rfl⟩) b r n D left cnt hit h1 hDone fun s c kl y w' cnt' hkey hlk hv hat hrg hlt hgr hsz hen => ?_
  · obtain ⟨s, e1, _⟩ := WideMaps.string_of_keyOf hk hkey
    exact ⟨s, e1⟩
  · obtain ⟨s', e1, e2, e3⟩ := WideMaps.string_of_keyOf hk hkey
    cases e1
    subst e2
    obtain ⟨v, hfv⟩ := Option.isSome_iff_exists.1 (hsub _ hlk)
    have h5 := hat (.held c)
    rw [h3 _ _ hfv] at h5
    simp only [rdV, Option.some.injEq] at hv
    rw [← hv] at h5
    have h6 : v = c := by injection h5
    subst h6
    exact hMore s v w' cnt' e3 hlk hfv ⟨D, hrg, h2, h3⟩ hlt hgr hsz hen
end
end Go.Proofs.Ytgmcojnhpedpnaa
