/- slices.Sorted(maps.Keys(m)) at a map of this program: the shelf's contracts, laid (IterL), as the walk wants them. -/
import Derived.Test.YtgmcojnhpedpnaaGreatIterL
import Derived.Test.YtgmcojnhpedpnaaGreatMp
import Derived.Test.YtgmcojnhpedpnaaGreatNamP
import Derived.Sort.KeysCollected
namespace Go.Proofs.YtgmcojnhpedpnaaGreat
open Go.RowKit Go.Maps Go.Sort Go.Shelf

theorem sorts_at (m : Nat) : AnyZ.SortsIn Tryz.prog Tryz.sorted_ren Fence.wide m :=
  ⟨fun blk off cap ss W hH hblk hsz => callsIn_wide.2 (AnyM.slices_Sort_string Tryz.sort blk off cap ss W hH hblk hsz),
   fun p cap W => callsIn_wide.2 (AnyM.slices_Sort_string_none Tryz.sort p cap W)⟩
theorem maps_Keys_at (mb : Option Nat) (W : World) : CallsIn Fence.wide 5 Tryz.prog 103 #[.map mb] W fun e w' => e = .returned (.func (.func 141) #[] #[.pointer (some ⟨W.heap.size, 0, none⟩)]) ∧ w' = W.alloc (.cells #[.map mb] 119) :=
  AnyZ.keys_in Tryz.keys Fence.wide 5 trivial rfl mb W

set_option maxHeartbeats 1000000 in
theorem slices_Sorted_at {H : Type} (b nn : Nat) (D0 : DataW H) (R : Value → Option (DataW H × List MemPlace)) (w : World) (hown : w.ownsMap Tryz.prog 9 R b nn D0) (hmax : Maps.size D0 ≤ maxLen) (hbytes : Maps.size D0 * 16 ≤ 140737488355328) :
    CallsIn Fence.wide 5 Tryz.prog 102 #[.func (.func 141) #[] #[.pointer (some ⟨w.heap.size, 0, none⟩)]] (w.alloc (.cells #[.map (some b)] 119)) fun e w' => ∃ (v : Value) (ss : List (List UInt8)), e = .returned v ∧ ss.Perm (strKeys D0) ∧
      w'.ownsRow (w.alloc (.cells #[.map (some b)] 119)).heap.size 9 1 v ss.length ((ss.mergeSort (fun x y => decide (x ≤ y))).map encStr) ∧ (v = .slice none 0 0 ↔ ss = []) ∧ Below (w.alloc (.cells #[.map (some b)] 119)).heap.size (w.alloc (.cells #[.map (some b)] 119)) w' := by
  have hbl := hown.lt
  have hseq : SeqGives Fence.wide 2 Tryz.prog 141 #[.pointer (some ⟨w.heap.size, 0, none⟩)] encStr (fun ss => ss.Perm (strKeys D0)) (Maps.size D0) (w.alloc (.cells #[.map (some b)] 119)) :=
    AnyZ.keys_gives (ρ := Tryz.keys_ren) { Tryz.keys with } Fence.wide _ trivial rfl (by omega) w.heap.size b nn D0 _ (by simp) (by simp) (by
      obtain ⟨es, clock, hb, Ft, hs, hD⟩ := hown
      exact ⟨es, clock, (Below.heap_alloc _ _ b hbl).trans hb, Ft, hs, hD⟩)
  exact AnyZ.sorted_in Tryz.sorted Fence.wide 5 trivial trivial trivial trivial rfl (by omega) (sorts_at _) (enters_of Tryz.func140 (by kernel_rfl) rfl) 141 #[.pointer (some ⟨w.heap.size, 0, none⟩)] trivial (enters_of Tryz.func141 (by kernel_rfl) rfl) _ _ hmax hbytes _ hseq

/-- What stands at each name of a list. -/
def nameSet (l : List ByteArray) : Lit → Option Value := l.foldl (fun f s => putAt f (.string s.data.toList) (.bool true)) (fun _ => none)
theorem nameSet_snoc (l : List ByteArray) (s : ByteArray) : nameSet (l ++ [s]) = putAt (nameSet l) (.string s.data.toList) (.bool true) := by simp [nameSet]
theorem isKeyLit_str (s : List UInt8) : WideAt.IsKeyLit (.string s) := by simp [WideAt.IsKeyLit]
theorem nameSet_some (l : List ByteArray) (s : List UInt8) : (nameSet l (.string s)).isSome = true ↔ ∃ t ∈ l, t.data.toList = s := by
  suffices h : ∀ (m : List ByteArray) (f : Lit → Option Value), (m.foldl (fun f s => putAt f (.string s.data.toList) (.bool true)) f (.string s)).isSome = true ↔ (f (.string s)).isSome = true ∨ ∃ t ∈ m, t.data.toList = s by
    have := h l (fun _ => none)
    simpa [nameSet] using this
  intro m
  induction m with
  | nil => simp
  | cons a m ih =>
    intro f
    rw [List.foldl_cons, ih]
    by_cases he : a.data.toList = s
    · subst he
      rw [putAt_same (isKeyLit_str _)]
      simp
    · rw [putAt_other (by intro e; cases e; exact he rfl)]
      simp [he]
theorem flat_one {α : Type} (f : α → Value) : ∀ l : List α, l.flatMap (fun a => [f a]) = l.map f
  | [] => rfl
  | a :: l => by rw [List.flatMap_cons, flat_one f l]; rfl
/-- The sorted keys of a set of names are the names, rising. -/
theorem sorted_rise (l : List ByteArray) (D : DataW Value) (k : TypeId) {w : World} {b n : Nat} (ho : w.ownsMap Tryz.prog k rdV b n D) (hk : Tryz.prog.underlying k = some .string) (hh : ∀ kl, Maps.has D kl = (nameSet l kl).isSome) (ss : List (List UInt8)) (hp : ss.Perm (strKeys D)) :
    (ss.mergeSort (fun x y => decide (x ≤ y))).map encStr = (rise l).flatMap strCs ∧ ss.length = (rise l).length := by
  have K : Keyed Tryz.prog k := Maps.string_keyed hk
  obtain ⟨es, rfl, hpw, hkl⟩ := ho.entries K
  have hstr : ∀ p ∈ es, ∃ x, p.1 = .string x := by
    intro p hp
    obtain ⟨es', hD', hko⟩ := ho.keysOf
    obtain rfl : es = es' := by simpa using hD'
    obtain ⟨v, hv⟩ := hko p hp
    obtain ⟨x, _, hx, _⟩ := Maps.keyOf_str hk hv
    exact ⟨x, hx⟩
  have hnd : ss.Nodup := by
    rw [hp.nodup_iff]
    show (es.map fun p => strOf p.1).Nodup
    rw [List.Nodup, List.pairwise_map]
    refine hpw.imp_of_mem fun {a c} ha hc hne he => hne ?_
    obtain ⟨x, hx⟩ := hstr a ha
    obtain ⟨y, hy⟩ := hstr c hc
    rw [hx, hy] at he ⊢
    exact congrArg Lit.string he
  have hmem : ∀ x : ByteArray, x.data.toList ∈ ss ↔ x ∈ l := by
    intro x
    rw [hp.mem_iff]
    have h1 := hh (.string x.data.toList)
    have h2 := nameSet_some l x.data.toList
    rw [← h1] at h2
    have h3 : Maps.has (.map es) (.string x.data.toList) = true ↔ x.data.toList ∈ strKeys (.map es) := by
      simp only [Maps.has, List.any_eq_true, strKeys, List.mem_map]
      constructor
      · rintro ⟨p, hp, he⟩
        obtain ⟨y, hy⟩ := hstr p hp
        rw [hy] at he
        refine ⟨p, hp, ?_⟩
        rw [hy]
        simpa [Lit.sameKey, strOf] using he
      · rintro ⟨p, hp, he⟩
        obtain ⟨y, hy⟩ := hstr p hp
        refine ⟨p, hp, ?_⟩
        rw [hy] at he ⊢
        simpa [Lit.sameKey, strOf] using he
    rw [← h3, h2]
    constructor
    · rintro ⟨t, ht, he⟩
      have : t = x := by cases t; cases x; simpa using Array.toList_inj.1 he
      rw [← this]; exact ht
    · intro h; exact ⟨x, h, rfl⟩
  have hsp := List.mergeSort_perm ss (fun x y => decide (x ≤ y))
  have hsort : (ss.mergeSort (fun x y => decide (x ≤ y))).Pairwise (· ≤ ·) := by
    have := List.pairwise_mergeSort (le := fun x y : List UInt8 => decide (x ≤ y)) (by intro a b c h1 h2; simp only [decide_eq_true_eq] at *; exact List.le_trans h1 h2) (by intro a b; simp only [Bool.or_eq_true, decide_eq_true_eq]; exact List.le_total a b) ss
    simpa using this
  have hu := rise_unique l (ss.mergeSort (fun x y => decide (x ≤ y))) hsort (hsp.nodup_iff.2 hnd) (fun x => by rw [hsp.mem_iff]; exact hmem x)
  constructor
  · rw [← hu, List.flatMap_map]
    exact (flat_one _ _).symm
  · rw [← hu, List.length_map, hsp.length_eq]
end Go.Proofs.YtgmcojnhpedpnaaGreat
