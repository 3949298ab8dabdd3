/- Maps that a call makes, told by what stands at each key. Plain laws; no program text is walked here. -/
import Derived.Test.YtgmcojnhpedpnaaGreatTypes
import Derived.Maps.OwnIn
namespace Go.Proofs.YtgmcojnhpedpnaaGreat
open Go.RowKit Go.Maps

/-- An element reads as itself. -/
abbrev rdV : Value → Option (DataW Value × List MemPlace) := fun v => some (.held v, [])
/-- Block b is a map of at most n entries; f tells what stands at each key. -/
def MapIs (w : World) (P : Program) (k : TypeId) (b n : Nat) (f : Lit → Option Value) : Prop :=
  ∃ D : DataW Value, w.ownsMap P k rdV b n D ∧ (∀ kl, Maps.has D kl = (f kl).isSome) ∧ ∀ kl v, f kl = some v → ∀ z, D.atKey kl z = .held v
def putAt (f : Lit → Option Value) (kl : Lit) (v : Value) : Lit → Option Value := fun k' => if k'.sameKey kl then some v else f k'
theorem putAt_same {f : Lit → Option Value} {kl : Lit} {v : Value} (h : WideAt.IsKeyLit kl) : putAt f kl v kl = some v := by simp [putAt, WideAt.sameKey_self h]
theorem putAt_other {f : Lit → Option Value} {kl k' : Lit} {v : Value} (h : k' ≠ kl) : putAt f kl v k' = f k' := by simp [putAt, Maps.sameKey_ne h]

section
variable {P : Program} {k e t : TypeId} {w w' : World} {b n : Nat} {f : Lit → Option Value}
theorem MapIs.made (w : World) (P : Program) (k : TypeId) : MapIs (w.alloc (.map #[] 0)) P k w.heap.size 0 (fun _ => none) :=
  ⟨.map [], World.ownsMap_made _ _ _ _, fun kl => by simp [Maps.has], fun kl v h => by cases h⟩
theorem MapIs.lt (h : MapIs w P k b n f) : b < w.heap.size := by obtain ⟨D, h1, _⟩ := h; exact h1.lt
theorem MapIs.kept {row : Option Nat} (h : MapIs w P k b n f) (hg : w.grownBy w' row) (hne : some b ≠ row) : MapIs w' P k b n f := by
  obtain ⟨D, h1, h2⟩ := h; exact ⟨D, h1.kept hg hne, h2⟩
theorem MapIs.same (h : MapIs w P k b n f) (hb : w'.heap[b]? = w.heap[b]?) : MapIs w' P k b n f := by
  obtain ⟨D, ⟨es, clock, h1, h2⟩, h3⟩ := h; exact ⟨D, ⟨es, clock, hb.trans h1, h2⟩, h3⟩
theorem MapIs.below {B : Nat} (h : MapIs w P k b n f) (hb : Below B w w') (hl : b < B) : MapIs w' P k b n f := h.same (hb.block b hl)
theorem MapIs.mono {n' : Nat} (h : MapIs w P k b n f) (hn : n ≤ n') : MapIs w P k b n' f := by
  obtain ⟨D, h1, h2⟩ := h; exact ⟨D, h1.mono hn, h2⟩
theorem MapIs.congr {g : Lit → Option Value} (h : MapIs w P k b n f) (e : ∀ kl, f kl = g kl) : MapIs w P k b n g := by
  rwa [show f = g from funext e] at h
theorem MapIs.look {key z : Value} {kl : Lit} (h : MapIs w P k b n f) (K : Keyed P k) (ht : P.underlying t = some (.map k e)) (hz : (zeroValue e).run P w = .ok z w) (hkey : keyOf P k key = some kl) :
    (Instr.lookup t (.map (some b)) key true).run P w = .ok (.tuple #[(f kl).getD z, .bool (f kl).isSome]) w := by
  obtain ⟨D, h1, h2, h3⟩ := h
  obtain ⟨v, ps, hrun, hv⟩ := h1.look_ok K ht hz (zd := .held z) (zp := []) rfl hkey
  rw [hrun, h2 kl]
  cases hf : f kl with
  | some u =>
    rw [h3 kl u hf] at hv
    simp only [rdV, Option.some.injEq, Prod.mk.injEq, DataW.held.injEq] at hv
    rw [hv.1]; rfl
  | none =>
    have h4 : Maps.has D kl = false := by rw [h2, hf]; rfl
    rw [Maps.atKey_of_not_has h4] at hv
    simp only [rdV, Option.some.injEq, Prod.mk.injEq, DataW.held.injEq] at hv
    rw [hv.1]; rfl
theorem MapIs.look1 {key z : Value} {kl : Lit} (h : MapIs w P k b n f) (K : Keyed P k) (ht : P.underlying t = some (.map k e)) (hz : (zeroValue e).run P w = .ok z w) (hkey : keyOf P k key = some kl) :
    (Instr.lookup t (.map (some b)) key false).run P w = .ok ((f kl).getD z) w := by
  obtain ⟨D, h1, h2, h3⟩ := h
  obtain ⟨v, ps, hrun, hv⟩ := h1.lookup K ht hz (zd := .held z) (zp := []) rfl hkey
  rw [hrun]
  cases hf : f kl with
  | some u =>
    rw [h3 kl u hf] at hv
    simp only [rdV, Option.some.injEq, Prod.mk.injEq, DataW.held.injEq] at hv
    rw [hv.1]; rfl
  | none =>
    have h4 : Maps.has D kl = false := by rw [h2, hf]; rfl
    rw [Maps.atKey_of_not_has h4] at hv
    simp only [rdV, Option.some.injEq, Prod.mk.injEq, DataW.held.injEq] at hv
    rw [hv.1]; rfl
theorem MapIs.put {kl : Lit} {v : Value} {D : DataW Value} (K : WideAt.IsKeyLit kl) (h1 : w.ownsMap P k rdV b n D) (h2 : ∀ kl, Maps.has D kl = (f kl).isSome) (h3 : ∀ kl v, f kl = some v → ∀ z, D.atKey kl z = .held v)
    (h4 : w'.ownsMap P k rdV b (n + 1) (D.put kl (.held v))) : MapIs w' P k b (n + 1) (putAt f kl v) := by
  refine ⟨_, h4, fun k' => ?_, fun k' u hu z => ?_⟩
  · by_cases hk : k' = kl
    · subst hk; rw [Maps.has_put_same h1.isMap K, putAt_same K]; rfl
    · rw [Maps.has_put_other hk, h2, putAt_other hk]
  · by_cases hk : k' = kl
    · subst hk; rw [Maps.atKey_put_same h1.isMap K]; rw [putAt_same K] at hu; cases hu; rfl
    · rw [Maps.atKey_put_other hk]; rw [putAt_other hk] at hu; exact h3 k' u hu z
end
section
variable {P : Program} (w : World) {ops : Array Oper} {rest : List Oper} {o : Oper} {a : Act} {Q : Exit → Act → World → Prop}
theorem wpList_lookup_Is (hg : o.guard = none) (m x : Operand) (t : TypeId) (hop : o.op = Op.lookup t m x true) (k e : TypeId) (K : Keyed P k) (ht : P.underlying t = some (.map k e)) {z : Value} (hz : (zeroValue e).run P w = .ok z w)
    (b n : Nat) (f : Lit → Option Value) (hm : a.eval m = .map (some b)) (hown : MapIs w P k b n f) (key : Value) (kl : Lit) (hx : a.eval x = key) (hkey : keyOf P k key = some kl)
    (hK : wpList P ops Q rest (a.put o.dst (.tuple #[(f kl).getD z, .bool (f kl).isSome])) w) : wpList P ops Q (o :: rest) a w := by
  refine wpList_plain hg fun K' hK' => ?_
  unfold Oper.wp
  simp [execOp, hop, hm, hx, hown.look K ht hz hkey, Result.andThen]
  exact hK' _ _ hK
theorem wpList_lookup1_Is (hg : o.guard = none) (m x : Operand) (t : TypeId) (hop : o.op = Op.lookup t m x false) (k e : TypeId) (K : Keyed P k) (ht : P.underlying t = some (.map k e)) {z : Value} (hz : (zeroValue e).run P w = .ok z w)
    (b n : Nat) (f : Lit → Option Value) (hm : a.eval m = .map (some b)) (hown : MapIs w P k b n f) (key : Value) (kl : Lit) (hx : a.eval x = key) (hkey : keyOf P k key = some kl)
    (hK : wpList P ops Q rest (a.put o.dst ((f kl).getD z)) w) : wpList P ops Q (o :: rest) a w := by
  refine wpList_plain hg fun K' hK' => ?_
  unfold Oper.wp
  simp [execOp, hop, hm, hx, hown.look1 K ht hz hkey, Result.andThen]
  exact hK' _ _ hK
theorem wpList_mapUpdate_Is (hg : o.guard = none) (m x v : Operand) (t : TypeId) (hop : o.op = Op.mapUpdate t m x v) (k e : TypeId) (K : Keyed P k) (ht : P.underlying t = some (.map k e))
    (b n : Nat) (f : Lit → Option Value) (hm : a.eval m = .map (some b)) (hown : MapIs w P k b n f) (hn : n < maxLen) (key val : Value) (kl : Lit) (hx : a.eval x = key) (hv : a.eval v = val) (hkey : keyOf P k key = some kl)
    (hK : ∀ w', MapIs w' P k b (n + 1) (putAt f kl val) → w.grownBy w' (some b) → wpList P ops Q rest (a.put o.dst undef) w') : wpList P ops Q (o :: rest) a w := by
  obtain ⟨D, h1, h2, h3⟩ := hown
  exact wpList_mapUpdate_own w hg m x v t hop k e K ht rdV b n D hm h1 hn key val kl hx hv hkey (.held val) [] rfl fun w' h4 h5 => hK w' (MapIs.put (K.key hkey) h1 h2 h3 h4) h5
/-- An insert of a map that is built, at a step of its own. -/
theorem wp_insert_Is {w : World} {o : Oper} {a : Act} {K : Act → World → Prop} (m x v : Operand) (t : TypeId) (hop : o.op = Op.insert t m x v) (k e : TypeId) (K1 : Keyed P k) (ht : P.underlying t = some (.map k e))
    (b n : Nat) (f : Lit → Option Value) (hm : a.eval m = .map (some b)) (hown : MapIs w P k b n f) (hn : n < maxLen) (key val : Value) (kl : Lit) (hx : a.eval x = key) (hv : a.eval v = val) (hkey : keyOf P k key = some kl)
    (hK : ∀ w', MapIs w' P k b (n + 1) (putAt f kl val) → w.grownBy w' (some b) → K (a.put o.dst undef) w') : o.wp P a w K Q := by
  obtain ⟨D, h1, h2, h3⟩ := hown
  obtain ⟨w', hrun, r1, r2⟩ := h1.update K1 ht hn hkey (val := val) (d := .held val) (ps := []) rfl
  unfold Oper.wp
  simp [execOp, hop, hm, hx, hv, hrun, Result.andThen]
  exact hK w' (MapIs.put (K1.key hkey) h1 h2 h3 r1) r2
end
section
variable {F : Fence} {nF : Nat} {P : Program} (w : World) {ops : Array Oper} {rest : List Oper} {o : Oper} {a : Act} {Q : Exit → Act → World → Prop}
theorem wpListIn_mapUpdate_Is (hg : o.guard = none) (m x v : Operand) (t : TypeId) (hop : o.op = Op.mapUpdate t m x v) (k e : TypeId) (K : Keyed P k) (ht : P.underlying t = some (.map k e))
    (b n : Nat) (f : Lit → Option Value) (hm : a.eval m = .map (some b)) (hown : MapIs w P k b n f) (hn : n < maxLen) (key val : Value) (kl : Lit) (hx : a.eval x = key) (hv : a.eval v = val) (hkey : keyOf P k key = some kl)
    (hK : ∀ w', MapIs w' P k b (n + 1) (putAt f kl val) → w.grownBy w' (some b) → wpListIn F nF P ops Q rest (a.put o.dst undef) w') : wpListIn F nF P ops Q (o :: rest) a w := by
  obtain ⟨D, h1, h2, h3⟩ := hown
  exact wpListIn_mapUpdate_own w hg m x v t hop k e K ht rdV b n D hm h1 hn key val kl hx hv hkey (.held val) [] rfl fun w' h4 h5 => hK w' (MapIs.put (K.key hkey) h1 h2 h3 h4) h5
end
end Go.Proofs.YtgmcojnhpedpnaaGreat
