/- The law WholeOnes returns true for every input: whole.One agrees with the reference. No condition. -/
import Derived.Test.YtekeacihdmbbjaaDecs
import Derived.Test.YtekeacihdmbbjaaOne
namespace Go.Proofs.Ytekeacihdmbbjaa
open Go.ChangeShapes Go.WideShapes Go.ChangeAt Go.RowKit

set_option maxRecDepth 100000 in
set_option maxHeartbeats 2000000 in
theorem law_WholeOnes (w : World) (cs : List Value) (f : Fld) (hf : RFld w (old w) cs f) (A1 : Option Addr) (n1 c1 : Nat) (l1 : List Fct) (hn1 : inB 80 n1) (_ : n1 ≤ c1) (h1 : Sl w (old w) 7 RFct A1 n1 l1) (A2 : Option Addr) (n2 c2 : Nat) (l2 : List Fct) (hn2 : inB 80 n2) (_ : n2 ≤ c2) (h2 : Sl w (old w) 7 RFct A2 n2 l2)
    (A3 : Option Addr) (n3 c3 : Nat) (l3 : List Fct) (hn3 : inB 80 n3) (_ : n3 ≤ c3) (h3 : Sl w (old w) 7 RFct A3 n3 l3) :
    Calls Try.prog 12 #[.agg cs.toArray, .slice A1 n1 c1, .slice A2 n2 c2, .slice A3 n3 c3] w fun e w' => e = .returned (.bool true) ∧ Below w.heap.size w w' := by
  obtain ⟨r1, r2, r3, xs, rfl, hx⟩ := hf
  have hx' := hx
  obtain ⟨X, C, rfl, _⟩ := hx'.open_
  have HF := Lib.hid (And.intro (⟨r1, r2, r3, _, rfl, hx⟩ : RFld w (old w) _ f) (And.intro h1 (And.intro h2 h3)))
  have o1 := fun w h h1 h2 h3 => whole_One f X C A1 n1 c1 l1 A2 n2 c2 l2 A3 n3 c3 l3 w (hn1.l (by decide)) (hn2.l (by decide)) (hn3.l (by decide)) h h1 h2 h3
  have o2 := fun w h h1 h2 h3 => ref_OneOf f X C A1 n1 c1 l1 A2 n2 c2 l2 A3 n3 c3 l3 w (hn1.l (by decide)) (hn2.l (by decide)) (hn3.l (by decide)) h h1 h2 h3
  clear hx hx' h1 h2 h3 r1 r2 r3
  generalize oneV f l1 l2 l3 = v at o1 o2
  have hq := fun w => run_eql_Val w v.k v.n v.k v.n v.s v.s
  rw [show valEq ⟨v.k, v.n, v.s⟩ ⟨v.k, v.n, v.s⟩ = true from by simp [valEq]] at hq
  go_enter Try.func12, Try.ntmps12
  go_wp2_with fail
  refine (o1 _ (RFld.keep HF.out.1 (old_keep bel)) (HF.out.2.1.now bel) (HF.out.2.2.1.now bel) (HF.out.2.2.2.now bel)).mono ?_; rintro e w1 ⟨rfl, hb1⟩; obtain ⟨hc1, hf1⟩ := bcell hb1; (try simp only [World.heap_drewN, World.cell?_drewN, World.frozen?_drewN] at hc1 hf1); have hz1 := hb1.size; (try simp at hz1); (try (have hy1 := Nat.lt_of_succ_le hz1)); (try (have hx1 := Nat.lt_of_succ_lt hy1)); (try (have hl1_w_0 : w.heap.size < w1.heap.size := by omega)); (try (have hm1_w_0 : w.heap.size ≤ w1.heap.size := by omega)); (try (have hl1_w_1 : w.heap.size + 1 < w1.heap.size := by omega)); (try (have hm1_w_1 : w.heap.size + 1 ≤ w1.heap.size := by omega)); (try (have hl1_w_2 : w.heap.size + 2 < w1.heap.size := by omega)); (try (have hm1_w_2 : w.heap.size + 2 ≤ w1.heap.size := by omega)); (try (have hl1_w_3 : w.heap.size + 3 < w1.heap.size := by omega)); (try (have hm1_w_3 : w.heap.size + 3 ≤ w1.heap.size := by omega)); (try (have hl1_w_4 : w.heap.size + 4 < w1.heap.size := by omega)); (try (have hm1_w_4 : w.heap.size + 4 ≤ w1.heap.size := by omega)); (try (have hl1_w_5 : w.heap.size + 5 < w1.heap.size := by omega)); (try (have hm1_w_5 : w.heap.size + 5 ≤ w1.heap.size := by omega)); (try (have hl1_w_6 : w.heap.size + 6 < w1.heap.size := by omega)); (try (have hm1_w_6 : w.heap.size + 6 ≤ w1.heap.size := by omega)); dsimp only
  go_wp2_with fail
  refine (o2 _ (RFld.keep HF.out.1 (old_keep bel)) (HF.out.2.1.now bel) (HF.out.2.2.1.now bel) (HF.out.2.2.2.now bel)).mono ?_; rintro e w2 ⟨rfl, hb2⟩; obtain ⟨hc2, hf2⟩ := bcell hb2; (try simp only [World.heap_drewN, World.cell?_drewN, World.frozen?_drewN] at hc2 hf2); have hz2 := hb2.size; (try simp at hz2); (try (have hy2 := Nat.lt_of_succ_le hz2)); (try (have hx2 := Nat.lt_of_succ_lt hy2)); (try (have hl2_w_0 : w.heap.size < w2.heap.size := by omega)); (try (have hm2_w_0 : w.heap.size ≤ w2.heap.size := by omega)); (try (have hl2_w_1 : w.heap.size + 1 < w2.heap.size := by omega)); (try (have hm2_w_1 : w.heap.size + 1 ≤ w2.heap.size := by omega)); (try (have hl2_w_2 : w.heap.size + 2 < w2.heap.size := by omega)); (try (have hm2_w_2 : w.heap.size + 2 ≤ w2.heap.size := by omega)); (try (have hl2_w_3 : w.heap.size + 3 < w2.heap.size := by omega)); (try (have hm2_w_3 : w.heap.size + 3 ≤ w2.heap.size := by omega)); (try (have hl2_w_4 : w.heap.size + 4 < w2.heap.size := by omega)); (try (have hm2_w_4 : w.heap.size + 4 ≤ w2.heap.size := by omega)); (try (have hl2_w_5 : w.heap.size + 5 < w2.heap.size := by omega)); (try (have hm2_w_5 : w.heap.size + 5 ≤ w2.heap.size := by omega)); (try (have hl2_w_6 : w.heap.size + 6 < w2.heap.size := by omega)); (try (have hm2_w_6 : w.heap.size + 6 ≤ w2.heap.size := by omega)); (try (have hl2_w1_0 : w1.heap.size < w2.heap.size := by omega)); (try (have hm2_w1_0 : w1.heap.size ≤ w2.heap.size := by omega)); (try (have hl2_w1_1 : w1.heap.size + 1 < w2.heap.size := by omega)); (try (have hm2_w1_1 : w1.heap.size + 1 ≤ w2.heap.size := by omega)); (try (have hl2_w1_2 : w1.heap.size + 2 < w2.heap.size := by omega)); (try (have hm2_w1_2 : w1.heap.size + 2 ≤ w2.heap.size := by omega)); (try (have hl2_w1_3 : w1.heap.size + 3 < w2.heap.size := by omega)); (try (have hm2_w1_3 : w1.heap.size + 3 ≤ w2.heap.size := by omega)); (try (have hl2_w1_4 : w1.heap.size + 4 < w2.heap.size := by omega)); (try (have hm2_w1_4 : w1.heap.size + 4 ≤ w2.heap.size := by omega)); (try (have hl2_w1_5 : w1.heap.size + 5 < w2.heap.size := by omega)); (try (have hm2_w1_5 : w1.heap.size + 5 ≤ w2.heap.size := by omega)); (try (have hl2_w1_6 : w1.heap.size + 6 < w2.heap.size := by omega)); (try (have hm2_w1_6 : w1.heap.size + 6 ≤ w2.heap.size := by omega)); dsimp only
  go_wp2_with fail
  go_ret
  exact ⟨rfl, bel⟩
set_option maxRecDepth 100000 in
theorem WholeOnes_lifted (os : Os) (started : os.Started) (H : Type) (enc : TypeId × Value → H) :
    ReturnsInHanded {} Try.checked os 12 .any (Rows.wholeOnesSpec.pre6 enc Try.checked.prog Try.f12 Rows.wholeOnesRow.domain false) (Rows.wholeOnesSpec.post enc Try.checked.prog Try.f12 false true false false) := by
  refine law_lifted (s := Rows.wholeOnesSpec) started (by kernel_rfl) Try.func12 (by rw [Try.params12]; exact of_decide_eq_true (by kernel_rfl)) rfl rfl
    (fun ds hl => by rw [show Try.f12.params.size = 4 from rfl] at hl; match ds, hl with | [d0, d1, d2, d3], _ => rfl)
    (ChangeSpec.witness6 (enc := enc) (C := Try.checked) false ⟨#[], #[.agg #[.string ByteArray.empty, .int .i64 0, .int .i64 0, .int .i64 0, .int .i64 0, .int .i64 0, .string ByteArray.empty, .string ByteArray.empty, .slice none 0 0], .slice none 0 0, .slice none 0 0, .slice none 0 0], []⟩ 8 (by kernel_rfl) (by kernel_rfl) (by kernel_rfl) (by kernel_rfl)) ?_
  intro W b args ds p hA hval hsz
  rw [Try.params12] at hA hval hsz
  obtain ⟨v0, vs0, d0, ds0, p0, q0, hargs, rfl, rfl, h0, r0⟩ := trodAll_cons hA
  obtain ⟨v1, vs1, d1, ds1, p1, q1, rfl, rfl, rfl, h1, r1⟩ := trodAll_cons r0
  obtain ⟨v2, vs2, d2, ds2, p2, q2, rfl, rfl, rfl, h2, r2⟩ := trodAll_cons r1
  obtain ⟨v3, vs3, d3, ds3, p3, q3, rfl, rfl, rfl, h3, r3⟩ := trodAll_cons r2
  obtain ⟨rfl, rfl, rfl⟩ := trodAll_nil r3
  have hargs' : args = #[v0, v1, v2, v3] := by apply Array.toList_inj.1; simpa using hargs
  subst hargs'
  have w0 := weightsEach_at _ _ hsz 0 _ _ rfl rfl
  obtain ⟨cs0, a0, rfl, s0, m0⟩ := arg_struct dec_Fld Try.underlying44 (hval 0 44 _ rfl rfl) h0 w0
  have w1 := weightsEach_at _ _ hsz 1 _ _ rfl rfl
  obtain ⟨A1, n1, c1, l1, rfl, i1, k1, s1, m1⟩ := arg_sl dec_Fcts Try.underlying57 (hval 1 57 _ rfl rfl) h1 w1
  have w2 := weightsEach_at _ _ hsz 2 _ _ rfl rfl
  obtain ⟨A2, n2, c2, l2, rfl, i2, k2, s2, m2⟩ := arg_sl dec_Fcts Try.underlying57 (hval 2 57 _ rfl rfl) h2 w2
  have w3 := weightsEach_at _ _ hsz 3 _ _ rfl rfl
  obtain ⟨A3, n3, c3, l3, rfl, i3, k3, s3, m3⟩ := arg_sl dec_Fcts Try.underlying57 (hval 3 57 _ rfl rfl) h3 w3
  exact law_WholeOnes W cs0 a0 s0 A1 n1 c1 l1 i1 k1 s1 A2 n2 c2 l2 i2 k2 s2 A3 n3 c3 l3 i3 k3 s3
theorem WholeOnes_holds : Rows.WholeOnesSaid :=
  OpenClaim.holds_of_wide 12 Try.f12 rfl rfl rfl rfl rfl rfl rfl ⟨rfl, rfl, rfl, rfl, rfl⟩ rfl rfl rfl rfl rfl (by kernel_rfl) Try.func12 (by kernel_rfl)
    (of_decide_eq_true (by kernel_rfl)) (by unfold Func.isWrapper; rw [if_neg (of_decide_eq_false (by kernel_rfl))]; exact ⟨rfl, rfl⟩)
    (fun os started H enc _ => WholeOnes_lifted os started H enc)
end Go.Proofs.Ytekeacihdmbbjaa
