/- Rows of a call's own whose elements hold memory of their own: how they begin, stand and grow. -/
import Derived.Test.YtgmcojnhpedpnaaGreatTypes
import Derived.Deep.AppendLies
namespace Go.Proofs.YtgmcojnhpedpnaaGreat
open Go.RowKit

/-- What the call has made so far, but for v's own row. -/
def beside (base : Nat) (v : Value) (w : World) : Nat → Prop := fun b => base ≤ b ∧ b < w.heap.size ∧ some b ≠ v.ownBlock
/-- What the call has made so far. -/
def since (base : Nat) (w : World) : Nat → Prop := fun b => base ≤ b ∧ b < w.heap.size
/-- v is a row of the call's own (blocks from base on); R reads its elements in other blocks of the call's own. -/
def Own {α : Type} (w : World) (base : Nat) (e : TypeId) (size : Nat) (R : World → (Nat → Prop) → List Value → α → Prop) (v : Value) (l : List α) : Prop :=
  ∃ C : List (List Value), w.ownsRow base e size v l.length C.flatten ∧ C.length = l.length ∧ (∀ c ∈ C, c.length = size) ∧
    ∀ (i : Nat) (c : List Value) (a : α), C[i]? = some c → l[i]? = some a → R w (beside base v w) c a

section
variable {α : Type} {w : World} {base : Nat} {e : TypeId} {size : Nat} {R : World → (Nat → Prop) → List Value → α → Prop} {v : Value} {l : List α}

theorem Own.nil : Own w base e size R (.slice none 0 0) ([] : List α) :=
  ⟨[], ⟨by simp, .inl ⟨rfl, rfl⟩⟩, rfl, fun _ h => absurd h (by simp), fun i c a h _ => by simp at h⟩


theorem Own.keep (K : Keeps R) {w' : World} (h : Own w base e size R v l) (hb : Below w.heap.size w w') : Own w' base e size R v l := by
  obtain ⟨C, h1, h2, h3, h4⟩ := h
  refine ⟨C, ?_, h2, h3, fun i c a hc ha => K _ _ _ _ _ _ (h4 i c a hc ha) fun b hb' => ⟨⟨hb'.1, Nat.lt_of_lt_of_le hb'.2.1 hb.size, hb'.2.2⟩, hb.block b hb'.2.1⟩⟩
  obtain ⟨a1, a2⟩ := h1
  refine ⟨a1, ?_⟩
  rcases a2 with a2 | ⟨g, cap, cur, rfl, hg, hh, r⟩
  · exact .inl a2
  · refine .inr ⟨g, cap, cur, rfl, hg, ?_, r⟩
    have hlt : g < w.heap.size := by
      rcases Nat.lt_or_ge g w.heap.size with h | h
      · exact h
      · rw [Array.getElem?_eq_none h] at hh; cases hh
    rw [hb.block g hlt]; exact hh

theorem Own.form (h : Own w base e size R v l) : ∃ A c, v = .slice A l.length c ∧ l.length ≤ c := by
  obtain ⟨C, ⟨_, h2⟩, _⟩ := h
  rcases h2 with ⟨rfl, h0⟩ | ⟨g, cap, cur, rfl, hg, hh, hc, _⟩
  · rw [h0]; exact ⟨none, 0, rfl, Nat.le_refl _⟩
  · exact ⟨_, cap, rfl, hc⟩

theorem Own.sl (K : Keeps R) (h : Own w base e size R v l) : ∃ A c, v = .slice A l.length c ∧ l.length ≤ c ∧ Sl w (since base w) size (R w (since base w)) A l.length l := by
  obtain ⟨C, h1, h2, h3, h4⟩ := h
  refine own_rows h1 h3 h2 rfl (fun g hg => h1.lt g hg) fun i c a hc ha => K _ _ _ _ _ _ (h4 i c a hc ha) fun b hb => ⟨⟨hb.1, hb.2.1⟩, rfl⟩

/-- What stands behind an append of one element. -/
theorem Own.push (K : Keeps R) {C : List (List Value)} {c : List Value} {a : α} {w1 : World} {v' : Value} (h2 : C.length = l.length) (h3 : ∀ c ∈ C, c.length = size)
    (h4 : ∀ (i : Nat) (c : List Value) (a : α), C[i]? = some c → l[i]? = some a → R w (beside base v w) c a)
    (hc : c.length = size) (ha : R w (beside base v w) c a) (hown : w1.ownsRow base e size v' (l.length + 1) (C.flatten ++ c))
    (hk : ∀ k, k < w.heap.size → some k ≠ v.ownBlock → w1.heap[k]? = w.heap[k]?) (hz : w.heap.size ≤ w1.heap.size) (hv : v'.ownBlock = v.ownBlock ∨ ∃ g, v'.ownBlock = some g ∧ w.heap.size ≤ g) : Own w1 base e size R v' (l ++ [a]) := by
  have hS : ∀ b, beside base v w b → beside base v' w1 b ∧ w1.heap[b]? = w.heap[b]? := by
    intro b hb
    refine ⟨⟨hb.1, Nat.lt_of_lt_of_le hb.2.1 hz, ?_⟩, hk b hb.2.1 hb.2.2⟩
    rcases hv with hv | ⟨g, hg, hge⟩
    · rw [hv]; exact hb.2.2
    · rw [hg]; intro h; cases h; exact absurd hb.2.1 (Nat.not_lt.2 hge)
  refine ⟨C ++ [c], ?_, by simp [h2], ?_, ?_⟩
  · rw [List.length_append, List.flatten_append]; simpa using hown
  · intro x hx
    rcases List.mem_append.1 hx with hx | hx
    · exact h3 x hx
    · simp at hx; subst hx; exact hc
  · intro i x y hx hy
    rcases Nat.lt_or_ge i l.length with hi | hi
    · rw [List.getElem?_append_left (by omega)] at hx
      rw [List.getElem?_append_left hi] at hy
      exact K _ _ _ _ _ _ (h4 i x y hx hy) hS
    · rw [List.getElem?_append_right (by omega)] at hx
      rw [List.getElem?_append_right hi] at hy
      have hi0 : i - l.length = 0 := by
        rcases Nat.eq_zero_or_pos (i - l.length) with h | h
        · exact h
        · rw [List.getElem?_eq_none (by simp; omega)] at hy; cases hy
      rw [h2, hi0] at hx
      rw [hi0] at hy
      simp at hx hy
      subst hx; subst hy
      exact K _ _ _ _ _ _ ha hS
end

/-- One element more in a row of the call's own, at the operation: the operand is the block (g) that has just been laid for it. -/
theorem wp_append_Own {α : Type} {P : Program} {R : World → (Nat → Prop) → List Value → α → Prop} (KR : Keeps R) {o : Oper} {act : Act} {K : Act → World → Prop} {Q : Exit → Act → World → Prop} {w W : World} (s x : Operand) (t : TypeId)
    (ho : o.op = .call { callee := .builtin .append, args := #[s, x], argTypes := #[t, t] })
    (base : Nat) (e : TypeId) (i : TypeInfo) (z : Value) (size bytes : Nat) (ht : P.underlying t = some (.slice e)) (hi : P.info? e = some i) (hz : i.zero = some z)
    (hsize : i.size = size) (hby : i.bytes = bytes) (hzs : z.cells.size = size) (hsz : 0 < size)
    (v : Value) (l : List α) (hs : act.eval s = v) (hown : Own w base e size R v l)
    (cs : List Value) (t' : TypeId) (hW : W = w.alloc (.cells cs.toArray t')) (g : Nat) (hx : act.eval x = .slice (some ⟨g, 0, none⟩) 1 1) (hg0 : g = w.heap.size) (hl : cs.length = size) (h1 : ∀ u ∈ cs, u.oneCell' = true)
    (hbytes : (l.length + 1) * bytes ≤ 140737488355328) (h63 : l.length + 1 ≤ maxLen) (hbase : base ≤ w.heap.size) (a : α) (hR : R w (beside base v w) cs a)
    (h : ∀ g' cap w', Own w' base e size R (.slice (some ⟨g', 0, none⟩) (l.length + 1) cap) (l ++ [a]) → Below base w w' → w.heap.size ≤ w'.heap.size → (∀ k, k < w.heap.size → some k ≠ v.ownBlock → w'.heap[k]? = w.heap[k]?) → (v.ownBlock = some g' ∨ w.heap.size ≤ g') → K (act.put o.dst (.slice (some ⟨g', 0, none⟩) (l.length + 1) cap)) w') :
    o.wp P act W K Q := by
  subst hW
  subst hg0
  obtain ⟨C, c1, c2, c3, c4⟩ := hown
  refine wp_append_lies _ s x t ho base e i z size bytes ht hi hz hsize hby hzs hsz v l.length C.flatten hs (c1.alloc _) _ 1 1 cs hx (by rw [hl, Nat.one_mul]) (news_new w cs t') h1 (by decide) h63 hbytes (by simp; omega) _ rfl ?_
  intro g' cap w' hown' hg hat hlt
  have hz' : w.heap.size ≤ w'.heap.size := by have := hg.size; simp at this; omega
  have hat' : v.ownBlock = some g' ∨ w.heap.size ≤ g' := by
    rcases hat with h | h
    · exact .inl h
    · right; simp at h; omega
  have hkeep : ∀ k, k < w.heap.size → some k ≠ v.ownBlock → w'.heap[k]? = w.heap[k]? := by
    intro k hk hne
    rw [hg.block k (by simp; omega) hne]
    exact Below.heap_alloc w _ k hk
  refine h g' cap w' (Own.push KR c2 c3 c4 hl hR hown' hkeep hz' ?_) ?_ hz' hkeep hat'
  · rcases hat' with h | h
    · exact .inl h.symm
    · exact .inr ⟨g', rfl, h⟩
  · exact ((Below.refl base w).alloc hbase _).grown hg (by simp; omega) (fun k hk => (c1.lt k hk).1)
/-- At a step of a region that draws its order. -/
theorem step_append_Own {α : Type} {P : Program} {R : World → (Nat → Prop) → List Value → α → Prop} (KR : Keeps R) {E : Prop} {ops : Array Oper} {o : Oper} {act : Act} {K : Act → World → Prop} {Q : Exit → Act → World → Prop} {w W : World} (hgd : o.guard = none) (s x : Operand) (t : TypeId)
    (ho : o.op = .call { callee := .builtin .append, args := #[s, x], argTypes := #[t, t] })
    (base : Nat) (e : TypeId) (i : TypeInfo) (z : Value) (size bytes : Nat) (ht : P.underlying t = some (.slice e)) (hi : P.info? e = some i) (hz : i.zero = some z)
    (hsize : i.size = size) (hby : i.bytes = bytes) (hzs : z.cells.size = size) (hsz : 0 < size)
    (v : Value) (l : List α) (hs : act.eval s = v) (hown : Own w base e size R v l)
    (cs : List Value) (t' : TypeId) (hW : W = w.alloc (.cells cs.toArray t')) (g : Nat) (hx : act.eval x = .slice (some ⟨g, 0, none⟩) 1 1) (hg0 : g = w.heap.size) (hl : cs.length = size) (h1 : ∀ u ∈ cs, u.oneCell' = true)
    (hbytes : (l.length + 1) * bytes ≤ 140737488355328) (h63 : l.length + 1 ≤ maxLen) (hbase : base ≤ w.heap.size) (a : α) (hR : R w (beside base v w) cs a)
    (h : ∀ g' cap w', Own w' base e size R (.slice (some ⟨g', 0, none⟩) (l.length + 1) cap) (l ++ [a]) → Below base w w' → w.heap.size ≤ w'.heap.size → (∀ k, k < w.heap.size → some k ≠ v.ownBlock → w'.heap[k]? = w.heap[k]?) → (v.ownBlock = some g' ∨ w.heap.size ≤ g') → K (act.put o.dst (.slice (some ⟨g', 0, none⟩) (l.length + 1) cap)) w') :
    if Region.wanted o (yielded ops act.tmps) = true then Oper.wp P o act W K Q else E := by
  have hw : Region.wanted o (yielded ops act.tmps) = true := by simp [Region.wanted, hgd]
  rw [if_pos hw]
  exact wp_append_Own KR s x t ho base e i z size bytes ht hi hz hsize hby hzs hsz v l hs hown cs t' hW g hx hg0 hl h1 hbytes h63 hbase a hR h
/-- At the list of a plain region's operations. -/
theorem wpList_append_Own {α : Type} {P : Program} {R : World → (Nat → Prop) → List Value → α → Prop} (KR : Keeps R) {ops : Array Oper} {rest : List Oper} {o : Oper} {act : Act} {Q : Exit → Act → World → Prop} {w W : World} (hgd : o.guard = none) (s x : Operand) (t : TypeId)
    (ho : o.op = .call { callee := .builtin .append, args := #[s, x], argTypes := #[t, t] })
    (base : Nat) (e : TypeId) (i : TypeInfo) (z : Value) (size bytes : Nat) (ht : P.underlying t = some (.slice e)) (hi : P.info? e = some i) (hz : i.zero = some z)
    (hsize : i.size = size) (hby : i.bytes = bytes) (hzs : z.cells.size = size) (hsz : 0 < size)
    (v : Value) (l : List α) (hs : act.eval s = v) (hown : Own w base e size R v l)
    (cs : List Value) (t' : TypeId) (hW : W = w.alloc (.cells cs.toArray t')) (g : Nat) (hx : act.eval x = .slice (some ⟨g, 0, none⟩) 1 1) (hg0 : g = w.heap.size) (hl : cs.length = size) (h1 : ∀ u ∈ cs, u.oneCell' = true)
    (hbytes : (l.length + 1) * bytes ≤ 140737488355328) (h63 : l.length + 1 ≤ maxLen) (hbase : base ≤ w.heap.size) (a : α) (hR : R w (beside base v w) cs a)
    (h : ∀ g' cap w', Own w' base e size R (.slice (some ⟨g', 0, none⟩) (l.length + 1) cap) (l ++ [a]) → Below base w w' → w.heap.size ≤ w'.heap.size → (∀ k, k < w.heap.size → some k ≠ v.ownBlock → w'.heap[k]? = w.heap[k]?) → (v.ownBlock = some g' ∨ w.heap.size ≤ g') → wpList P ops Q rest (act.put o.dst (.slice (some ⟨g', 0, none⟩) (l.length + 1) cap)) w') :
    wpList P ops Q (o :: rest) act W :=
  wpList_plain hgd fun _ hK => wp_append_Own KR s x t ho base e i z size bytes ht hi hz hsize hby hzs hsz v l hs hown cs t' hW g hx hg0 hl h1 hbytes h63 hbase a hR fun g' cap w' b1 b2 b3 b4 b5 => hK _ _ (h g' cap w' b1 b2 b3 b4 b5)
end Go.Proofs.YtgmcojnhpedpnaaGreat
