/- The law DeltaDiffers returns true for every input: delta.Differ agrees with the reference. No condition. -/
import Derived.Test.YtippmhlifbnnkaaOpen
import Derived.Test.YtippmhlifbnnkaaDel
import Derived.Test.YtippmhlifbnnkaaSame1
namespace Go.Proofs.Ytippmhlifbnnkaa
open Go.ChangeShapes Go.WideShapes Go.ChangeAt Go.RowKit

theorem bytes_Val : Try.prog.bytesOf 32 = 32 := by kernel_rfl
theorem dec_Vals : Dec 43 (fun w => RSl 3 32 (fun _ _ => RVal) w (old w)) (fun l => (l.map fun v : Val => v.s.size + 1).sum + 1) :=
  dec_sl (R := fun _ _ => RVal) Try.underlying43 cells_Val bytes_Val (by decide) (by decide) dec_Val

theorem own_strs {w : World} {base : Nat} {v : Value} {l : List ByteArray} (h : w.ownsRow base 9 1 v l.length (l.map Value.string)) :
    ∃ A c, v = .slice A l.length c ∧ Sl w (fun b => base ≤ b ∧ b < w.heap.size) 1 (fun cs s => cs = [Value.string s]) A l.length l := by
  have e : ∀ l : List ByteArray, l.map Value.string = l.flatMap fun s => [Value.string s] := fun l => by induction l <;> simp_all
  rw [e] at h
  obtain ⟨A, c, h1, _, h2⟩ := own_sl (fun s : ByteArray => [Value.string s]) (fun _ => rfl) h rfl
  exact ⟨A, c, h1, h2⟩

set_option maxRecDepth 100000 in
set_option maxHeartbeats 1000000 in
theorem law_DeltaDiffers (w : World) (A : Option Addr) (n c : Nat) (l : List Fld) (hn : inB 112 n) (_ : n ≤ c) (h : Sl w (old w) 9 (RFld w (old w)) A n l)
    (A1 : Option Addr) (n1 c1 : Nat) (a : List Val) (_ : inB 32 n1) (_ : n1 ≤ c1) (ha : Sl w (old w) 3 RVal A1 n1 a) (A2 : Option Addr) (n2 c2 : Nat) (b : List Val) (_ : inB 32 n2) (_ : n2 ≤ c2) (hb : Sl w (old w) 3 RVal A2 n2 b) :
    Calls Try.prog 6 #[.slice A n c, .slice A1 n1 c1, .slice A2 n2 c2] w fun e w' => e = .returned (.bool true) ∧ Below w.heap.size w w' := by
  have HH := Lib.hid (And.intro h (And.intro ha hb))
  clear h ha hb
  by_cases hq : n1 = n ∧ n2 = n
  · have hlen : (differ l a b).length ≤ 9223372036854775807 := by
      have h1 : (differ l a b).length ≤ l.length := by
        unfold differ
        rw [List.length_map]
        refine Nat.le_trans (List.length_filter_le _ _) ?_
        rw [List.length_zip]
        exact Nat.min_le_left _ _
      have h2 := HH.out.1.len
      unfold inB at hn
      omega
    have HN := Lib.hid hlen
    have HQ := Lib.hid hq
    clear hlen hq
    go_enter Try.func6, Try.ntmps6
    go_wp2_with fail
    refine (delta_Differ A n c l A1 n1 c1 a A2 n2 c2 b _ hn HH.out.1 HH.out.2.1 HH.out.2.2 HQ.out.1 HQ.out.2).mono ?_
    rintro e w1 ⟨v1, rfl, ho1, hb1⟩
    obtain ⟨B1, d1, rfl, hs1⟩ := own_strs ho1
    clear ho1
    obtain ⟨hc1, hf1⟩ := bcell hb1; have hz1 := hb1.size; (try simp at hz1); (try (have hy1 := Nat.lt_of_succ_le hz1)); (try (have hx1 := Nat.lt_of_succ_lt hy1)); (try (have hl1_w_0 : w.heap.size < w1.heap.size := by omega)); (try (have hm1_w_0 : w.heap.size ≤ w1.heap.size := by omega)); (try (have hl1_w_1 : w.heap.size + 1 < w1.heap.size := by omega)); (try (have hm1_w_1 : w.heap.size + 1 ≤ w1.heap.size := by omega)); (try (have hl1_w_2 : w.heap.size + 2 < w1.heap.size := by omega)); (try (have hm1_w_2 : w.heap.size + 2 ≤ w1.heap.size := by omega)); (try (have hl1_w_3 : w.heap.size + 3 < w1.heap.size := by omega)); (try (have hm1_w_3 : w.heap.size + 3 ≤ w1.heap.size := by omega))
    go_wp2_with fail
    refine (ref_DeltaNames A n c l A1 n1 c1 a A2 n2 c2 b _ hn (HH.out.1.nowN keeps_Fld hb1) (HH.out.2.1.now hb1) (HH.out.2.2.now hb1) HQ.out.1 HQ.out.2).mono ?_
    rintro e w2 ⟨v2, rfl, ho2, hb2⟩
    obtain ⟨B2, d2, rfl, hs2⟩ := own_strs ho2
    clear ho2
    have hs1' := hs1.below hb2 (fun b h => h.2)
    have HS := Lib.hid (And.intro hs1' hs2)
    clear hs1 hs1' hs2
    go_wp2_with fail
    refine (same_Texts _ _ _ _ _ _ _ _ _ _ HN.out HS.out.1 HS.out.2).mono ?_
    rintro e w3 ⟨rfl, k, rfl⟩
    go_wp2_with fail
    go_ret
    exact ⟨rfl, (by repeat (first | with_reducible exact Below.refl _ _ | with_reducible assumption | with_reducible refine below_drewN ?_ _ | with_reducible refine Below.drew ?_ | with_reducible refine below_alloc0 ?_ | with_reducible refine below_alloc ?_ (by simp; try omega) | with_reducible refine below_set ?_ (by simp; try omega) | with_reducible refine below_chain ?_ (by assumption) | (with_reducible refine below_step ?_ (by assumption) (by simp; try omega))))⟩
  · have HQ := Lib.hid hq
    clear hq
    go_enter Try.func6, Try.ntmps6
    go_wp2_with fail
    refine (delta_Differ_bad A n c A1 n1 c1 A2 n2 c2 _ HQ.out).mono ?_
    rintro e w1 ⟨rfl, hb1⟩
    go_wp2_with fail
    refine (ref_DeltaNames_bad A n c A1 n1 c1 A2 n2 c2 _ HQ.out).mono ?_
    rintro e w2 ⟨rfl, hb2⟩
    go_wp2_with fail
    refine (same_Texts _ _ _ _ _ _ [] (fun _ => True) (fun _ => True) _ (by decide) Sl.nil Sl.nil).mono ?_
    rintro e w3 ⟨rfl, k, rfl⟩
    go_wp2_with fail
    go_ret
    exact ⟨rfl, (by repeat (first | with_reducible exact Below.refl _ _ | with_reducible assumption | with_reducible refine below_drewN ?_ _ | with_reducible refine Below.drew ?_ | with_reducible refine below_alloc0 ?_ | with_reducible refine below_alloc ?_ (by simp; try omega) | with_reducible refine below_set ?_ (by simp; try omega) | with_reducible refine below_chain ?_ (by assumption) | (with_reducible refine below_step ?_ (by assumption) (by simp; try omega))))⟩
set_option maxRecDepth 100000 in
theorem DeltaDiffers_lifted (os : Os) (started : os.Started) (H : Type) (enc : TypeId × Value → H) :
    ReturnsInHanded {} Try.checked os 6 .any (Rows.deltaDiffersSpec.pre6 enc Try.checked.prog Try.f6 Rows.deltaDiffersRow.domain false) (Rows.deltaDiffersSpec.post enc Try.checked.prog Try.f6 false true false false) := by
  refine law_lifted (s := Rows.deltaDiffersSpec) started (by kernel_rfl) Try.func6 (by rw [Try.params6]; exact of_decide_eq_true (by kernel_rfl)) rfl rfl
    (fun ds hl => by rw [show Try.f6.params.size = 3 from rfl] at hl; match ds, hl with | [d0, d1, d2], _ => rfl)
    (ChangeSpec.witness6 (enc := enc) (C := Try.checked) false ⟨#[], #[.slice none 0 0, .slice none 0 0, .slice none 0 0], []⟩ 8 (by kernel_rfl) (by kernel_rfl) (by kernel_rfl) (by kernel_rfl)) ?_
  intro W b args ds p hA hval hsz
  rw [Try.params6] at hA hval hsz
  obtain ⟨v0, vs0, d0, ds0, p0, q0, hargs, rfl, rfl, h0, r0⟩ := trodAll_cons hA
  obtain ⟨v1, vs1, d1, ds1, p1, q1, rfl, rfl, rfl, h1, r1⟩ := trodAll_cons r0
  obtain ⟨v2, vs2, d2, ds2, p2, q2, rfl, rfl, rfl, h2, r2⟩ := trodAll_cons r1
  obtain ⟨rfl, rfl, rfl⟩ := trodAll_nil r2
  have hargs' : args = #[v0, v1, v2] := by apply Array.toList_inj.1; simpa using hargs
  subst hargs'
  have w0 := weightsEach_at _ _ hsz 0 _ _ rfl rfl
  obtain ⟨A0, n0, c0, l0, rfl, i0, k0, s0, m0⟩ := arg_sl dec_Flds Try.underlying42 (hval 0 42 _ rfl rfl) h0 w0
  have w1 := weightsEach_at _ _ hsz 1 _ _ rfl rfl
  obtain ⟨A1, n1, c1, l1, rfl, i1, k1, s1, m1⟩ := arg_sl dec_Vals Try.underlying43 (hval 1 43 _ rfl rfl) h1 w1
  have w2 := weightsEach_at _ _ hsz 2 _ _ rfl rfl
  obtain ⟨A2, n2, c2, l2, rfl, i2, k2, s2, m2⟩ := arg_sl dec_Vals Try.underlying43 (hval 2 43 _ rfl rfl) h2 w2
  exact law_DeltaDiffers W A0 n0 c0 l0 i0 k0 s0 A1 n1 c1 l1 i1 k1 s1 A2 n2 c2 l2 i2 k2 s2
theorem DeltaDiffers_holds : Rows.DeltaDiffersSaid :=
  OpenClaim.holds_of_wide 6 Try.f6 rfl rfl rfl rfl rfl rfl rfl ⟨rfl, rfl, rfl, rfl, rfl⟩ rfl rfl rfl rfl rfl (by kernel_rfl) Try.func6 (by kernel_rfl)
    (of_decide_eq_true (by kernel_rfl)) (by unfold Func.isWrapper; rw [if_neg (of_decide_eq_false (by kernel_rfl))]; exact ⟨rfl, rfl⟩)
    (fun os started H enc _ => DeltaDiffers_lifted os started H enc)
end Go.Proofs.Ytippmhlifbnnkaa
