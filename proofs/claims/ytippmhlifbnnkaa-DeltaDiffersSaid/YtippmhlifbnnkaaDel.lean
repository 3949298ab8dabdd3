/- delta.Differ and the reference DeltaNames. -/
import Derived.Test.YtippmhlifbnnkaaTypes
namespace Go.Proofs.Ytippmhlifbnnkaa
open Go.RowKit

def differ (l : List Fld) (a b : List Val) : List ByteArray := ((l.zip (a.zip b)).filter fun x => !valEq x.2.1 x.2.2).map fun x => x.1.name

/-- The ending with a list of texts in a row of the call's own. -/
def OwnStrs (w : World) (l : List ByteArray) (c : Int) (e : Ending) (w' : World) : Prop :=
  ∃ v, e = .returned (.tuple #[v, .int .i64 c]) ∧ w'.ownsRow w.heap.size 9 1 v l.length (l.map Value.string) ∧ Below w.heap.size w w'

theorem differ_snoc {l : List Fld} {a b : List Val} {k : Nat} {f : Fld} {x y : Val} (h1 : l[k]? = some f) (h2 : a[k]? = some x) (h3 : b[k]? = some y) :
    differ (l.take (k + 1)) (a.take (k + 1)) (b.take (k + 1)) = differ (l.take k) (a.take k) (b.take k) ++ (if valEq x y then [] else [f.name]) := by
  have e : ∀ j, (l.take j).zip ((a.take j).zip (b.take j)) = (l.zip (a.zip b)).take j := fun j => by rw [List.zip_eq_zipWith, List.zip_eq_zipWith, List.zip_eq_zipWith, List.zip_eq_zipWith, List.take_zipWith, List.take_zipWith]
  unfold differ
  rw [e, e, List.take_add_one]
  have hz : (l.zip (a.zip b))[k]? = some (f, x, y) := by simp [List.getElem?_zip_eq_some, h1, h2, h3]
  rw [hz]
  simp only [Option.toList, List.filter_append, List.map_append]
  cases hv : valEq x y <;> simp [hv]

theorem Try.infoStr : (Try.prog.info? 9).map (fun i => (i.zero, i.size, i.bytes)) = some (some (.string ⟨#[]⟩), 1, 16) := by kernel_rfl

set_option maxRecDepth 100000 in
set_option maxHeartbeats 1000000 in
theorem delta_Differ (A : Option Addr) (n c : Nat) (l : List Fld) (A1 : Option Addr) (n1 c1 : Nat) (a : List Val) (A2 : Option Addr) (n2 c2 : Nat) (b : List Val) (w : World) (hn : inB 112 n)
    (h : Sl w (old w) 9 (RFld w (old w)) A n l) (ha : Sl w (old w) 3 RVal A1 n1 a) (hb : Sl w (old w) 3 RVal A2 n2 b) (h1 : n1 = n) (h2 : n2 = n) :
    Calls Try.prog 22 #[.slice A n c, .slice A1 n1 c1, .slice A2 n2 c2] w (OwnStrs w (differ l a b) 0) := by
  subst h1; subst h2
  unfold inB at hn
  obtain ⟨i0, hi, hz0, hz1, hz2⟩ := info_parts Try.infoStr
  have HH := Lib.hid (And.intro h (And.intro ha hb))
  clear h ha hb
  go_enter Try.func22, Try.ntmps22
  go_wp2_with fail
  go_loopw [8, 25] (fun out i wr => ∃ k : Nat, k ≤ n2 ∧ i = .int .i64 k ∧ wr.ownsRow w.heap.size 9 1 out (differ (l.take k) (a.take k) (b.take k)).length ((differ (l.take k) (a.take k) (b.take k)).map Value.string) ∧ Below w.heap.size w wr) (fun _ i _ => n2 - (intOf i).toNat)
  case atStart => exact ⟨0, by omega, rfl, ⟨by simp [differ], .inl ⟨rfl, by simp [differ]⟩⟩, Below.refl _ _⟩
  case round =>
    obtain ⟨k, hk, rfl, hown, hbr⟩ := hrel
    by_cases hlt : k < n2
    · obtain ⟨fb, fo, f, X, C, rfl, _, hl, _, f0, f1, f2, f3, f4, f5, f6, f7, f8⟩ := Fld_at (HH.out.1.nowN keeps_Fld hbr) hlt
      obtain ⟨ab, ao, x, rfl, hab, hla, _, a0, a1, a2⟩ := Val_at (HH.out.2.1.now hbr) hlt
      obtain ⟨bb, bo, y, rfl, hbb, hlb, _, b0, b1, b2⟩ := Val_at (HH.out.2.2.now hbr) hlt
      have hsn := differ_snoc hl hla hlb
      have HS := Lib.hid hsn
      have hab' : ab < wr.heap.size := hab
      have hbb' : bb < wr.heap.size := hbb
      clear hsn hl hla hlb hab hbb
      have hneq := fun w => run_neq_Val w x.k x.n y.k y.n x.s y.s
      cases hv : valEq ⟨x.k, x.n, x.s⟩ ⟨y.k, y.n, y.s⟩
      · have hlen : (differ (l.take k) (a.take k) (b.take k)).length ≤ k := by
          unfold differ
          rw [List.length_map]
          refine Nat.le_trans (List.length_filter_le _ _) ?_
          rw [List.length_zip]
          exact Nat.le_trans (Nat.min_le_left _ _) (List.length_take_le _ _)
        have HO := Lib.hid hown
        have HLN := Lib.hid hlen
        clear hown hlen
        go_wp2_with fail
        go_quiet (fail)
        go_wp2_with (at_builtin; refine wpList_append1 rfl _ _ 44 rfl w.heap.size 9 i0 (.string ⟨#[]⟩) 1 16 Try.underlying44 hi hz0 hz1 hz2 rfl (by decide) _ _ _ rfl (ownsRow_drewN (HO.out.alloc _) _) [.string f.name] 9 rfl _ rfl (by simp) rfl (by simp [Value.oneCell']) (by have := HLN.out; omega) (by have := HLN.out; unfold maxLen; omega) (by have := hbr.size; simp; omega) ?_; intro v' w1 hown1 hb1 hz1 _)
        go_roundw
        case rel =>
          refine ⟨k + 1, by omega, by go_num, ?_, below_step (below_drewN (below_alloc0 hbr) _) hb1 (Nat.le_refl _)⟩
          have hv' : valEq x y = false := hv
          rw [HS.out, hv', List.length_append, List.map_append]
          exact hown1
        case measure => simp [intOf]; omega
      · have HO := Lib.hid hown
        clear hown
        go_wp2_with fail
        go_quiet (fail)
        go_wp2_with fail
        go_roundw
        case rel =>
          refine ⟨k + 1, by omega, by go_num, ?_, (by repeat (first | with_reducible exact Below.refl _ _ | with_reducible assumption | with_reducible refine below_drewN ?_ _ | with_reducible refine Below.drew ?_ | with_reducible refine below_alloc0 ?_ | with_reducible refine below_alloc ?_ (by simp; try omega) | with_reducible refine below_set ?_ (by simp; try omega) | with_reducible refine below_chain ?_ (by assumption) | (with_reducible refine below_step ?_ (by assumption) (by simp; try omega))))⟩
          have hv' : valEq x y = true := hv
          rw [HS.out, hv', if_pos rfl, List.append_nil]
          exact ownsRow_drewN (HO.out.alloc _) _
        case measure => simp [intOf]; omega
    · have hke : k = n2 := by omega
      subst hke
      have e1 : l.take k = l := by rw [List.take_of_length_le (by rw [HH.out.1.len]; exact Nat.le_refl _)]
      have e2 : a.take k = a := by rw [List.take_of_length_le (by rw [HH.out.2.1.len]; exact Nat.le_refl _)]
      have e3 : b.take k = b := by rw [List.take_of_length_le (by rw [HH.out.2.2.len]; exact Nat.le_refl _)]
      rw [e1, e2, e3] at hown
      have HO := Lib.hid hown
      clear e1 e2 e3 hown
      go_wp2_with fail
      go_ret2
      exact ⟨_, rfl, HO.out, hbr⟩
set_option maxRecDepth 100000 in
set_option maxHeartbeats 1000000 in
theorem ref_DeltaNames (A : Option Addr) (n c : Nat) (l : List Fld) (A1 : Option Addr) (n1 c1 : Nat) (a : List Val) (A2 : Option Addr) (n2 c2 : Nat) (b : List Val) (w : World) (hn : inB 112 n)
    (h : Sl w (old w) 9 (RFld w (old w)) A n l) (ha : Sl w (old w) 3 RVal A1 n1 a) (hb : Sl w (old w) 3 RVal A2 n2 b) (h1 : n1 = n) (h2 : n2 = n) :
    Calls Try.prog 23 #[.slice A n c, .slice A1 n1 c1, .slice A2 n2 c2] w (OwnStrs w (differ l a b) 0) := by
  subst h1; subst h2
  unfold inB at hn
  obtain ⟨i0, hi, hz0, hz1, hz2⟩ := info_parts Try.infoStr
  have HH := Lib.hid (And.intro h (And.intro ha hb))
  clear h ha hb
  go_enter Try.func23, Try.ntmps23
  go_wp2_with fail
  go_loopw [8, 24] (fun out i wr => ∃ k : Nat, k ≤ n2 ∧ i = .int .i64 k ∧ wr.ownsRow w.heap.size 9 1 out (differ (l.take k) (a.take k) (b.take k)).length ((differ (l.take k) (a.take k) (b.take k)).map Value.string) ∧ Below w.heap.size w wr) (fun _ i _ => n2 - (intOf i).toNat)
  case atStart => exact ⟨0, by omega, rfl, ⟨by simp [differ], .inl ⟨rfl, by simp [differ]⟩⟩, Below.refl _ _⟩
  case round =>
    obtain ⟨k, hk, rfl, hown, hbr⟩ := hrel
    by_cases hlt : k < n2
    · obtain ⟨fb, fo, f, X, C, rfl, _, hl, _, f0, f1, f2, f3, f4, f5, f6, f7, f8⟩ := Fld_at (HH.out.1.nowN keeps_Fld hbr) hlt
      obtain ⟨ab, ao, x, rfl, hab, hla, _, a0, a1, a2⟩ := Val_at (HH.out.2.1.now hbr) hlt
      obtain ⟨bb, bo, y, rfl, hbb, hlb, _, b0, b1, b2⟩ := Val_at (HH.out.2.2.now hbr) hlt
      have hsn := differ_snoc hl hla hlb
      have HS := Lib.hid hsn
      have hab' : ab < wr.heap.size := hab
      have hbb' : bb < wr.heap.size := hbb
      clear hsn hl hla hlb hab hbb
      have hneq := fun w => run_neq_Val w x.k x.n y.k y.n x.s y.s
      cases hv : valEq ⟨x.k, x.n, x.s⟩ ⟨y.k, y.n, y.s⟩
      · have hlen : (differ (l.take k) (a.take k) (b.take k)).length ≤ k := by
          unfold differ
          rw [List.length_map]
          refine Nat.le_trans (List.length_filter_le _ _) ?_
          rw [List.length_zip]
          exact Nat.le_trans (Nat.min_le_left _ _) (List.length_take_le _ _)
        have HO := Lib.hid hown
        have HLN := Lib.hid hlen
        clear hown hlen
        go_wp2_with fail
        go_quiet (fail)
        go_wp2_with (at_builtin; refine wpList_append1 rfl _ _ 44 rfl w.heap.size 9 i0 (.string ⟨#[]⟩) 1 16 Try.underlying44 hi hz0 hz1 hz2 rfl (by decide) _ _ _ rfl (ownsRow_drewN HO.out _) [.string f.name] 9 rfl _ rfl (by simp) rfl (by simp [Value.oneCell']) (by have := HLN.out; omega) (by have := HLN.out; unfold maxLen; omega) (by have := hbr.size; simp; omega) ?_; intro v' w1 hown1 hb1 hz1 _)
        go_roundw
        case rel =>
          refine ⟨k + 1, by omega, by go_num, ?_, below_step (below_drewN hbr _) hb1 (Nat.le_refl _)⟩
          have hv' : valEq x y = false := hv
          rw [HS.out, hv', List.length_append, List.map_append]
          exact hown1
        case measure => simp [intOf]; omega
      · have HO := Lib.hid hown
        clear hown
        go_wp2_with fail
        go_quiet (fail)
        go_wp2_with fail
        go_roundw
        case rel =>
          refine ⟨k + 1, by omega, by go_num, ?_, (by repeat (first | with_reducible exact Below.refl _ _ | with_reducible assumption | with_reducible refine below_drewN ?_ _ | with_reducible refine Below.drew ?_ | with_reducible refine below_alloc0 ?_ | with_reducible refine below_alloc ?_ (by simp; try omega) | with_reducible refine below_set ?_ (by simp; try omega) | with_reducible refine below_chain ?_ (by assumption) | (with_reducible refine below_step ?_ (by assumption) (by simp; try omega))))⟩
          have hv' : valEq x y = true := hv
          rw [HS.out, hv', if_pos rfl, List.append_nil]
          exact ownsRow_drewN HO.out _
        case measure => simp [intOf]; omega
    · have hke : k = n2 := by omega
      subst hke
      have e1 : l.take k = l := by rw [List.take_of_length_le (by rw [HH.out.1.len]; exact Nat.le_refl _)]
      have e2 : a.take k = a := by rw [List.take_of_length_le (by rw [HH.out.2.1.len]; exact Nat.le_refl _)]
      have e3 : b.take k = b := by rw [List.take_of_length_le (by rw [HH.out.2.2.len]; exact Nat.le_refl _)]
      rw [e1, e2, e3] at hown
      have HO := Lib.hid hown
      clear e1 e2 e3 hown
      go_wp2_with fail
      go_ret2
      exact ⟨_, rfl, HO.out, hbr⟩

def RetNil (w : World) (c : Int) (e : Ending) (w' : World) : Prop := e = .returned (.tuple #[.slice none 0 0, .int .i64 c]) ∧ Below w.heap.size w w'
set_option maxHeartbeats 400000 in
theorem delta_Differ_bad (A : Option Addr) (n c : Nat) (A1 : Option Addr) (n1 c1 : Nat) (A2 : Option Addr) (n2 c2 : Nat) (w : World) (h : ¬ (n1 = n ∧ n2 = n)) :
    Calls Try.prog 22 #[.slice A n c, .slice A1 n1 c1, .slice A2 n2 c2] w (RetNil w 1) := by
  by_cases h1 : n1 = n
  · have h2 : ((n2 : Int) != (n : Int)) = true := by simp; omega
    subst h1
    go_enter Try.func22, Try.ntmps22
    go_wp2_with fail
    go_ret2
    exact ⟨rfl, Below.refl _ _⟩
  · have h2 : ((n1 : Int) != (n : Int)) = true := by simp; omega
    go_enter Try.func22, Try.ntmps22
    go_wp2_with fail
    go_ret2
    exact ⟨rfl, Below.refl _ _⟩
set_option maxHeartbeats 400000 in
theorem ref_DeltaNames_bad (A : Option Addr) (n c : Nat) (A1 : Option Addr) (n1 c1 : Nat) (A2 : Option Addr) (n2 c2 : Nat) (w : World) (h : ¬ (n1 = n ∧ n2 = n)) :
    Calls Try.prog 23 #[.slice A n c, .slice A1 n1 c1, .slice A2 n2 c2] w (RetNil w 1) := by
  by_cases h1 : n1 = n
  · have h2 : ((n2 : Int) != (n : Int)) = true := by simp; omega
    subst h1
    go_enter Try.func23, Try.ntmps23
    go_wp2_with fail
    go_ret2
    exact ⟨rfl, Below.refl _ _⟩
  · have h2 : ((n1 : Int) != (n : Int)) = true := by simp; omega
    go_enter Try.func23, Try.ntmps23
    go_wp2_with fail
    go_ret2
    exact ⟨rfl, Below.refl _ _⟩
end Go.Proofs.Ytippmhlifbnnkaa
