/- The reference's sources of a field; plain laws for its ranks. -/
import Derived.Test.YtgmcojnhpedpnaaRnk5
import Derived.Test.YtgmcojnhpedpnaaRnkM
import Derived.Test.YtgmcojnhpedpnaaMpr
import Derived.Test.YtgmcojnhpedpnaaRis
import Derived.Test.YtgmcojnhpedpnaaTyO
namespace Go.Proofs.Ytgmcojnhpedpnaa
open Go.RowKit

abbrev Fld.cs (f : Fld) (X : Option Addr) (C : Nat) : List Value := [.string f.name, .int .i64 f.kind, .int .i64 f.type, .int .i64 f.source.op, .int .i64 f.source.v.k, .int .i64 f.source.v.n, .string f.source.v.s, .string f.source.name, .slice X f.source.args.length C]
set_option maxRecDepth 100000 in
set_option maxHeartbeats 2000000 in
theorem ref_sources (f : Fld) (X : Option Addr) (C : Nat) (w : World) (hN : f.source.nodes ≤ 1048576) (hst : ∀ s ∈ askN f.source, inS s) (hf : RFld w (old w) [.string f.name, .int .i64 f.kind, .int .i64 f.type, .int .i64 f.source.op, .int .i64 f.source.v.k, .int .i64 f.source.v.n, .string f.source.v.s, .string f.source.name, .slice X f.source.args.length C] f) :
    Calls Try.prog 29 #[.agg #[.string f.name, .int .i64 f.kind, .int .i64 f.type, .int .i64 f.source.op, .int .i64 f.source.v.k, .int .i64 f.source.v.n, .string f.source.v.s, .string f.source.name, .slice X f.source.args.length C]] w (OwnRow strCs 9 1 w (srcN f)) := by
  obtain ⟨r1, r2, r3, r4⟩ := hf.parts
  by_cases hk : f.kind = 1
  · have hs0 : srcN f = [] := by rw [srcN, if_pos hk]
    have g1 : (f.kind == 1) = true := by rw [hk]; rfl
    rw [hs0]
    clear hf r1 r2 r3 r4 hs0 hk
    go_enter Try.func29, Try.ntmps29
    go_wp2_with fail
    go_ret
    exact ⟨_, rfl, by simpa using World.ownsRow_nil _ _ _ _, bel⟩
  · have hs0 : srcN f = rise (askN f.source) := by rw [srcN, if_neg hk]
    have g1 : (f.kind == 1) = false := by simpa using hk
    rw [hs0]
    have hal := askN_nodes f.source
    have hca := fun w h => ref_asked _ f.source X C w (Nat.le_refl _) (by omega) h
    have HX := Lib.hid (And.intro r4 hst)
    clear hf r1 r2 r3 r4 hs0 hk hst
    go_enter Try.func29, Try.ntmps29
    go_wp2_with (first
      | (go_at_call 19; refine (hca _ (HX.out.1.keep (old_keep bel))).mono ?_; rintro e w2 ⟨v2, rfl, hown2, hb2⟩; obtain ⟨A2, c2, rfl, hca2, hs2⟩ := ownStr hown2 rfl HX.out.2; obtain ⟨hc2, hf2⟩ := bcell hb2; (try simp only [World.heap_drewN, World.cell?_drewN, World.frozen?_drewN] at hc2 hf2); have hz2 := hb2.size; (try simp at hz2); (try (have hy2 := Nat.lt_of_succ_le hz2)); (try (have hx2 := Nat.lt_of_succ_lt hy2)); (first | refine szz6 w2 w (by omega) ?_ | refine szz5 w2 w (by omega) ?_ | refine szz4 w2 w (by omega) ?_ | refine szz3 w2 w (by omega) ?_ | refine szz2 w2 w (by omega) ?_ | refine szz1 w2 w (by omega) ?_ | refine szz0 w2 w (by omega) ?_ | refine szzn w2 w (by omega) ?_ | skip); intros; have hB2 : Below w.heap.size w w2 := bel)
      | (go_at_call 18; refine (ref_rising A2 _ c2 _ _ (by omega) hs2).mono ?_; rintro e w3 ⟨v3, rfl, hown3, hb3⟩))
    go_ret
    exact ⟨v3, rfl, ownsRow_base hown3 hB2.size, below_chain hB2 hb3⟩

theorem badF_is {l : List Fld} (h : fieldsErr l = 0) {i : Nat} (hi : i < l.length) : badF l i = (rkL (needL l) l.length i).isNone := by
  unfold badF rankO
  rw [sweepsO_is (needL_lt h) hi]
  cases rkL (needL l) l.length i with
  | none => rfl
  | some n => simp [negO]
theorem rankO_at {l : List Fld} (h : fieldsErr l = 0) {i q : Nat} (hi : i < l.length) (hq : rkL (needL l) l.length i = some q) : (rankO l)[i]? = some (q : Int) := by
  have h1 := sweepsO_is (needL_lt h) hi
  rw [hq] at h1
  have hl := (rankO_any h).1
  have : i < (rankO l).length := by omega
  rw [List.getElem?_eq_getElem this]
  have h2 : outAt (rankO l) i = (rankO l)[i] := outAt_at (List.getElem?_eq_getElem this)
  rw [← h2]
  exact congrArg some h1
theorem rank_first {l : List Fld} (h : fieldsErr l = 0) {j : Nat} (hj : j < l.length) (h1 : ∀ i, i < j → (rkL (needL l) l.length i).isSome = true) (h2 : rkL (needL l) l.length j = none) :
    firstAt negO (rankO l) = j ∧ (rankO l).any negO = true := by
  have hl := (rankO_any h).1
  have hlt : j < (rankO l).length := by omega
  have e1 : (rankO l)[j]? = some (rankO l)[j] := List.getElem?_eq_getElem hlt
  have e2 : negO (rankO l)[j] = true := by
    have := badF_is h hj
    rw [h2, badF, outAt_at e1] at this
    exact this
  refine ⟨firstAt_hit negO _ j _ e1 e2 ?_, List.any_eq_true.2 ⟨_, List.getElem_mem hlt, e2⟩⟩
  rw [List.any_eq_false]
  intro x hx hn
  obtain ⟨i, hi, he⟩ := List.mem_iff_getElem.1 hx
  rw [List.length_take] at hi
  rw [List.getElem_take] at he
  have hil : i < l.length := by omega
  have h3 := badF_is h hil
  have h4 := h1 i (by omega)
  rw [badF, outAt_at (List.getElem?_eq_getElem (by omega)), he, hn] at h3
  cases hq : rkL (needL l) l.length i with
  | none => rw [hq] at h4; cases h4
  | some q => rw [hq] at h3; cases h3
theorem rank_none {l : List Fld} (h : fieldsErr l = 0) (h1 : ∀ i, i < l.length → (rkL (needL l) l.length i).isSome = true) : (rankO l).any negO = false := by
  rw [List.any_eq_false]
  intro x hx hn
  obtain ⟨i, hi, he⟩ := List.mem_iff_getElem.1 hx
  have hl := (rankO_any h).1
  have hil : i < l.length := by omega
  have h3 := badF_is h hil
  have h4 := h1 i hil
  rw [badF, outAt_at (List.getElem?_eq_getElem hi), he, hn] at h3
  cases hq : rkL (needL l) l.length i with
  | none => rw [hq] at h4; cases h4
  | some q => rw [hq] at h3; cases h3
theorem nameAt_inj {l : List Fld} (h : fieldsErr l = 0) {i j : Nat} (hi : i < l.length) (hj : j < l.length) (e : nameAt l i = nameAt l j) : i = j := by
  have h1 := fieldAt_name h (List.getElem?_eq_getElem hi)
  have h2 := fieldAt_name h (List.getElem?_eq_getElem hj)
  rw [nameAt_at (List.getElem?_eq_getElem hi), nameAt_at (List.getElem?_eq_getElem hj)] at e
  rw [e, h2] at h1
  exact h1.symm
theorem isStr_iff {s t : ByteArray} : isStr s t = true ↔ t = s := by
  unfold isStr
  constructor
  · intro h; exact (toList_inj (by simpa using h)).symm
  · intro h; rw [h]; simp
theorem isStr_name {l : List Fld} (h : fieldsErr l = 0) {i x : Nat} (hi : i < l.length) (hx : x < l.length) : isStr (nameAt l i) (nameAt l x) = (x == i) := by
  rw [Bool.eq_iff_iff, isStr_iff, beq_iff_eq]
  exact ⟨fun e => nameAt_inj h hx hi e, fun e => by rw [e]⟩
theorem any_nameAt {l : List Fld} (h : fieldsErr l = 0) {i : Nat} (hi : i < l.length) : ∀ path : List Nat, (∀ x ∈ path, x < l.length) → (path.map (nameAt l)).any (isStr (nameAt l i)) = path.any (fun x => x == i)
  | [], _ => rfl
  | a :: p, hp => by
    rw [List.map_cons, List.any_cons, List.any_cons, isStr_name h hi (hp a (by simp)), any_nameAt h hi p (fun x hx => hp x (by simp [hx]))]
theorem firstAt_nameAt {l : List Fld} (h : fieldsErr l = 0) {i : Nat} (hi : i < l.length) : ∀ path : List Nat, (∀ x ∈ path, x < l.length) → firstAt (isStr (nameAt l i)) (path.map (nameAt l)) = firstAt (fun x => x == i) path
  | [], _ => rfl
  | a :: p, hp => by
    rw [List.map_cons]
    simp only [firstAt]
    rw [isStr_name h hi (hp a (by simp)), firstAt_nameAt h hi p (fun x hx => hp x (by simp [hx]))]
theorem nameAt_field {l : List Fld} {s : ByteArray} (hs : l.any (hasName s) = true) : nameAt l (fieldAt l s) = s := by
  obtain ⟨_, f, h1, h2⟩ := fieldAt_some hs
  rw [nameAt_at h1, h2]
/-- The first name without a rank, by names. -/
theorem nxt_names {l : List Fld} (h : fieldsErr l = 0) {i : Nat} {f : Fld} (hf : l[i]? = some f) : nxtC (badF l) (needL l) i = match (srcN f).find? (fun s => (rkAt l l.length s).isNone) with | some s => fieldAt l s | none => i := by
  unfold nxtC
  rw [ndAt_need hf]
  have hall := ((fieldsErr_all h).2 i f hf).2.2.2.2
  generalize srcN f = ss at *
  have e : ∀ ss : List ByteArray, (∀ s ∈ ss, l.any (hasName s) = true) → (ss.map (fieldAt l)).find? (badF l) = (ss.find? (fun s => (rkAt l l.length s).isNone)).map (fieldAt l) := by
    intro ss
    induction ss with
    | nil => intro _; rfl
    | cons a r ih =>
      intro hh
      have ha := hh a (by simp)
      have hb : badF l (fieldAt l a) = (rkAt l l.length a).isNone := by rw [badF_is h (fieldAt_some ha).1, rkAt_some ha]
      rw [List.map_cons, List.find?_cons, List.find?_cons, hb]
      cases (rkAt l l.length a).isNone
      · exact ih (fun s hs => hh s (by simp [hs]))
      · rfl
  rw [e ss hall]
  cases ss.find? (fun s => (rkAt l l.length s).isNone) <;> rfl
end Go.Proofs.Ytgmcojnhpedpnaa
