/- The law ClientTells returns true for every input: client.Letter is as specified, client.Next agrees with the reference. No condition. -/
import Derived.Test.YtippmhlifbnnkaaOpen
import Derived.Test.YtippmhlifbnnkaaCli
namespace Go.Proofs.Ytippmhlifbnnkaa
open Go.ChangeShapes Go.WideShapes Go.ChangeAt Go.RowKit

theorem dec_Clls : Dec 35 (fun w => RSl 10 (fun _ _ => RCll) w (old w)) (fun l => (l.map fun v : Cll => v.key.s.size + v.has.s.size + 1).sum + 1) :=
  dec_sl (R := fun _ _ => RCll) Try.underlying35 cells_Cll (bytes := 96) (by kernel_rfl) (by decide) (by decide) dec_Cll

set_option maxHeartbeats 400000 in
theorem law_ClientTells (w : World) (name : ByteArray) (_ : inS name) (c : Cll) (_ : c.wf) (A : Option Addr) (n cp : Nat) (l : List Cll) (hn : inL n) (_ : n ≤ cp) (h : Sl w (old w) 10 RCll A n l) :
    Calls Try.prog 5 #[.string name, .agg c.cs.toArray, .slice A n cp] w fun e w' => e = .returned (.bool true) ∧ Below w.heap.size w w' := by
  obtain ⟨st, id, tr, ⟨kk, kn, ks⟩, ⟨hk, hkn, hks⟩, nx⟩ := c
  have HH := Lib.hid h
  clear h
  by_cases hst : st = 1
  · subst hst
    go_enter Try.func5, Try.ntmps5
    go_wp2_with fail
    refine (client_Letter_ask _ _ _ _ _ _ _ _ _ _ _ _ (by first | rfl | assumption)).mono ?_; rintro e w1 ⟨rfl, hb1⟩
    obtain ⟨hc1, hf1⟩ := bcell hb1; have hz1 := hb1.size; (try simp at hz1); (try (have hy1 := Nat.lt_of_succ_le hz1)); (try (have hx1 := Nat.lt_of_succ_lt hy1)); (try (have hl1_w : w.heap.size < w1.heap.size := by omega)); (try (have hm1_w : w.heap.size ≤ w1.heap.size := by omega))
    go_wp2_with fail
    refine (client_Next _ _ _ _ _ hn (HH.out.now (by repeat (first | exact Below.refl _ _ | assumption | refine below_drewN ?_ _ | refine Below.drew ?_ | refine below_alloc0 ?_ | refine below_alloc ?_ (by simp; try omega) | refine below_set ?_ (by simp; try omega) | refine below_chain ?_ (by assumption) | (refine below_step ?_ (by assumption) (by simp; try omega)))))).mono ?_; rintro e w2 ⟨rfl, hb2⟩
    obtain ⟨hc2, hf2⟩ := bcell hb2; have hz2 := hb2.size; (try simp at hz2); (try (have hy2 := Nat.lt_of_succ_le hz2)); (try (have hx2 := Nat.lt_of_succ_lt hy2)); (try (have hl2_w : w.heap.size < w2.heap.size := by omega)); (try (have hm2_w : w.heap.size ≤ w2.heap.size := by omega)); (try (have hl2_w1 : w1.heap.size < w2.heap.size := by omega)); (try (have hm2_w1 : w1.heap.size ≤ w2.heap.size := by omega))
    go_wp2_with fail
    refine (ref_ClientNext _ _ _ _ _ hn (HH.out.now (by repeat (first | exact Below.refl _ _ | assumption | refine below_drewN ?_ _ | refine Below.drew ?_ | refine below_alloc0 ?_ | refine below_alloc ?_ (by simp; try omega) | refine below_set ?_ (by simp; try omega) | refine below_chain ?_ (by assumption) | (refine below_step ?_ (by assumption) (by simp; try omega)))))).mono ?_; rintro e w3 ⟨rfl, hb3⟩
    obtain ⟨hc3, hf3⟩ := bcell hb3; have hz3 := hb3.size; (try simp at hz3); (try (have hy3 := Nat.lt_of_succ_le hz3)); (try (have hx3 := Nat.lt_of_succ_lt hy3)); (try (have hl3_w : w.heap.size < w3.heap.size := by omega)); (try (have hm3_w : w.heap.size ≤ w3.heap.size := by omega)); (try (have hl3_w1 : w1.heap.size < w3.heap.size := by omega)); (try (have hm3_w1 : w1.heap.size ≤ w3.heap.size := by omega)); (try (have hl3_w2 : w2.heap.size < w3.heap.size := by omega)); (try (have hm3_w2 : w2.heap.size ≤ w3.heap.size := by omega))
    go_wp2_with fail
    go_ret
    exact ⟨rfl, (by repeat (first | exact Below.refl _ _ | assumption | refine below_drewN ?_ _ | refine Below.drew ?_ | refine below_alloc0 ?_ | refine below_alloc ?_ (by simp; try omega) | refine below_set ?_ (by simp; try omega) | refine below_chain ?_ (by assumption) | (refine below_step ?_ (by assumption) (by simp; try omega))))⟩
  · have hst' : (st == 1) = false := by simpa using hst
    have hst2 : (st != 1) = true := by simpa using hst
    go_enter Try.func5, Try.ntmps5
    go_wp2_with fail
    refine (client_Letter_not _ _ _ _ _ _ _ _ _ _ _ _ (by first | rfl | assumption)).mono ?_; rintro e w1 ⟨rfl, hb1⟩
    obtain ⟨hc1, hf1⟩ := bcell hb1; have hz1 := hb1.size; (try simp at hz1); (try (have hy1 := Nat.lt_of_succ_le hz1)); (try (have hx1 := Nat.lt_of_succ_lt hy1)); (try (have hl1_w : w.heap.size < w1.heap.size := by omega)); (try (have hm1_w : w.heap.size ≤ w1.heap.size := by omega))
    go_wp2_with fail
    refine (client_Next _ _ _ _ _ hn (HH.out.now (by repeat (first | exact Below.refl _ _ | assumption | refine below_drewN ?_ _ | refine Below.drew ?_ | refine below_alloc0 ?_ | refine below_alloc ?_ (by simp; try omega) | refine below_set ?_ (by simp; try omega) | refine below_chain ?_ (by assumption) | (refine below_step ?_ (by assumption) (by simp; try omega)))))).mono ?_; rintro e w2 ⟨rfl, hb2⟩
    obtain ⟨hc2, hf2⟩ := bcell hb2; have hz2 := hb2.size; (try simp at hz2); (try (have hy2 := Nat.lt_of_succ_le hz2)); (try (have hx2 := Nat.lt_of_succ_lt hy2)); (try (have hl2_w : w.heap.size < w2.heap.size := by omega)); (try (have hm2_w : w.heap.size ≤ w2.heap.size := by omega)); (try (have hl2_w1 : w1.heap.size < w2.heap.size := by omega)); (try (have hm2_w1 : w1.heap.size ≤ w2.heap.size := by omega))
    go_wp2_with fail
    refine (ref_ClientNext _ _ _ _ _ hn (HH.out.now (by repeat (first | exact Below.refl _ _ | assumption | refine below_drewN ?_ _ | refine Below.drew ?_ | refine below_alloc0 ?_ | refine below_alloc ?_ (by simp; try omega) | refine below_set ?_ (by simp; try omega) | refine below_chain ?_ (by assumption) | (refine below_step ?_ (by assumption) (by simp; try omega)))))).mono ?_; rintro e w3 ⟨rfl, hb3⟩
    obtain ⟨hc3, hf3⟩ := bcell hb3; have hz3 := hb3.size; (try simp at hz3); (try (have hy3 := Nat.lt_of_succ_le hz3)); (try (have hx3 := Nat.lt_of_succ_lt hy3)); (try (have hl3_w : w.heap.size < w3.heap.size := by omega)); (try (have hm3_w : w.heap.size ≤ w3.heap.size := by omega)); (try (have hl3_w1 : w1.heap.size < w3.heap.size := by omega)); (try (have hm3_w1 : w1.heap.size ≤ w3.heap.size := by omega)); (try (have hl3_w2 : w2.heap.size < w3.heap.size := by omega)); (try (have hm3_w2 : w2.heap.size ≤ w3.heap.size := by omega))
    go_wp2_with fail
    go_ret
    exact ⟨rfl, (by repeat (first | exact Below.refl _ _ | assumption | refine below_drewN ?_ _ | refine Below.drew ?_ | refine below_alloc0 ?_ | refine below_alloc ?_ (by simp; try omega) | refine below_set ?_ (by simp; try omega) | refine below_chain ?_ (by assumption) | (refine below_step ?_ (by assumption) (by simp; try omega))))⟩
set_option maxRecDepth 100000 in
theorem ClientTells_lifted (os : Os) (started : os.Started) (H : Type) (enc : TypeId × Value → H) :
    ReturnsInHanded {} Try.checked os 5 .any (Rows.clientTellsSpec.pre6 enc Try.checked.prog Try.f5 Rows.clientTellsRow.domain false) (Rows.clientTellsSpec.post enc Try.checked.prog Try.f5 false true false false) := by
  refine law_lifted (s := Rows.clientTellsSpec) started (by kernel_rfl) Try.func5 (by rw [Try.params5]; exact of_decide_eq_true (by kernel_rfl)) rfl rfl
    (fun ds hl => by rw [show Try.f5.params.size = 3 from rfl] at hl; match ds, hl with | [d0, d1, d2], _ => rfl)
    (ChangeSpec.witness6 (enc := enc) (C := Try.checked) false ⟨#[], #[.string ByteArray.empty, .agg #[.int .i64 0, .int .i64 0, .int .i64 0, .int .i64 0, .int .i64 0, .string ByteArray.empty, .int .i64 0, .int .i64 0, .string ByteArray.empty, .int .i64 0], .slice none 0 0], []⟩ 8 (by kernel_rfl) (by kernel_rfl) (by kernel_rfl) (by kernel_rfl)) ?_
  intro W b args ds p hA hval hsz
  rw [Try.params5] at hA hval hsz
  obtain ⟨v0, vs0, d0, ds0, p0, q0, hargs, rfl, rfl, h0, r0⟩ := trodAll_cons hA
  obtain ⟨v1, vs1, d1, ds1, p1, q1, rfl, rfl, rfl, h1, r1⟩ := trodAll_cons r0
  obtain ⟨v2, vs2, d2, ds2, p2, q2, rfl, rfl, rfl, h2, r2⟩ := trodAll_cons r1
  obtain ⟨rfl, rfl, rfl⟩ := trodAll_nil r2
  have hargs' : args = #[v0, v1, v2] := by apply Array.toList_inj.1; simpa using hargs
  subst hargs'
  have w0 := weightsEach_at _ _ hsz 0 _ _ rfl rfl
  obtain ⟨a0, rfl, i0, m0⟩ := arg_str Try.underlying9 (hval 0 9 _ rfl rfl) h0 w0
  have w1 := weightsEach_at _ _ hsz 1 _ _ rfl rfl
  obtain ⟨cs1, a1, rfl, ⟨rfl, i1⟩, m1⟩ := arg_struct dec_Cll Try.underlying34 (hval 1 34 _ rfl rfl) h1 w1
  have w2 := weightsEach_at _ _ hsz 2 _ _ rfl rfl
  obtain ⟨A2, n2, c2, l2, rfl, i2, k2, s2, m2⟩ := arg_sl dec_Clls Try.underlying35 (hval 2 35 _ rfl rfl) h2 w2
  exact law_ClientTells W a0 i0 a1 i1 A2 n2 c2 l2 i2 k2 s2
theorem ClientTells_holds : Rows.ClientTellsSaid :=
  OpenClaim.holds_of_wide 5 Try.f5 rfl rfl rfl rfl rfl rfl rfl ⟨rfl, rfl, rfl, rfl, rfl⟩ rfl rfl rfl rfl rfl (by kernel_rfl) Try.func5 (by kernel_rfl)
    (of_decide_eq_true (by kernel_rfl)) (by unfold Func.isWrapper; rw [if_neg (of_decide_eq_false (by kernel_rfl))]; exact ⟨rfl, rfl⟩)
    (fun os started H enc _ => ClientTells_lifted os started H enc)
end Go.Proofs.Ytippmhlifbnnkaa
