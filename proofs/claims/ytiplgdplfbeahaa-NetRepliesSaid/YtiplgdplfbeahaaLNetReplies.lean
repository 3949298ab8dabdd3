/- The law NetReplies returns true for every input: net.Answer agrees with the reference. No condition. -/
import Derived.Test.YtiplgdplfbeahaaDecs
import Derived.Test.YtiplgdplfbeahaaNet3r
namespace Go.Proofs.Ytiplgdplfbeahaa
open Go.ChangeShapes Go.WideShapes Go.ChangeAt Go.RowKit

theorem ltrAnswer_wf {l : List Ltr} {i : Int} {v : Val} (hl : ∀ a ∈ l, a.wf) (hv : v.wf) : ∀ a ∈ (ltrAnswer l i v).1, a.wf := by
  unfold ltrAnswer
  by_cases h0 : (ltrAt l i).2 = 0
  · obtain ⟨_, k, x, rfl, hk, hx, e⟩ := ltrAt_ok h0
    rw [if_pos h0, e]
    split
    · intro a ha; simp at ha
    · split
      · intro a ha; simp at ha
      · intro a ha
        have hxw := hl x (List.mem_of_getElem? hx)
        rcases List.mem_or_eq_of_mem_set ha with h | h
        · exact hl a h
        · subst h
          exact ⟨hxw.1, hxw.2.1, hxw.2.2.1, hv⟩
  · rw [if_neg h0]
    intro a ha; simp at ha
theorem ltrAnswer_len (l : List Ltr) (i : Int) (v : Val) : (ltrAnswer l i v).1.length ≤ l.length := by
  unfold ltrAnswer
  (repeat' split) <;> simp
set_option maxRecDepth 100000 in
set_option maxHeartbeats 2000000 in
theorem law_NetReplies (w : World) (A : Option Addr) (n c : Nat) (l : List Ltr) (hn : inB 88 n) (hc : n ≤ c) (h : Sl w (old w) 8 RLtr A n l) (i : Int) (_ : inI i) (v : Val) (hv : v.wf) :
    Calls Try.prog 10 #[.slice A n c, .int .i64 i, .agg v.cs.toArray] w fun e w' => e = .returned (.bool true) ∧ Below w.heap.size w w' := by
  obtain ⟨vk, vn, vs⟩ := v
  have hvs : vs.size ≤ maxLen := inS_max hv.2.2
  have hl1 : inL (ltrAnswer l i ⟨vk, vn, vs⟩).1.length := by
    have := ltrAnswer_len l i ⟨vk, vn, vs⟩
    have h2 := hn.l (by decide)
    rw [h.len] at this
    unfold inL at *; omega
  have HH := Lib.hid (And.intro h hv)
  clear h hv
  go_enter Try.func10, Try.ntmps10
  go_wp2_with fail
  refine (net_Answer A n c l i vk vn vs _ hn hvs (HH.out.1.now (by repeat (first | with_reducible exact Below.refl _ _ | with_reducible assumption | with_reducible refine below_drewN ?_ _ | with_reducible refine Below.drew ?_ | with_reducible refine below_alloc0 ?_ | with_reducible refine below_alloc ?_ (by simp; try omega) | with_reducible refine below_set ?_ (by simp; try omega) | with_reducible refine below_chain ?_ (by assumption) | (with_reducible refine below_step ?_ (by assumption) (by simp; try omega)))))).mono ?_; rintro e w1 ⟨v1, rfl, ho1, hb1⟩; obtain ⟨hc1, hf1⟩ := bcell hb1; (try simp only [World.heap_drewN, World.cell?_drewN, World.frozen?_drewN] at hc1 hf1); have hz1 := hb1.size; (try simp at hz1); (try (have hy1 := Nat.lt_of_succ_le hz1)); (try (have hx1 := Nat.lt_of_succ_lt hy1)); (try (have hl1_w_0 : w.heap.size < w1.heap.size := by omega)); (try (have hm1_w_0 : w.heap.size ≤ w1.heap.size := by omega)); (try (have hl1_w_1 : w.heap.size + 1 < w1.heap.size := by omega)); (try (have hm1_w_1 : w.heap.size + 1 ≤ w1.heap.size := by omega)); (try (have hl1_w_2 : w.heap.size + 2 < w1.heap.size := by omega)); (try (have hm1_w_2 : w.heap.size + 2 ≤ w1.heap.size := by omega)); (try (have hl1_w_3 : w.heap.size + 3 < w1.heap.size := by omega)); (try (have hm1_w_3 : w.heap.size + 3 ≤ w1.heap.size := by omega)); (try (have hl1_w_4 : w.heap.size + 4 < w1.heap.size := by omega)); (try (have hm1_w_4 : w.heap.size + 4 ≤ w1.heap.size := by omega)); (try (have hl1_w_5 : w.heap.size + 5 < w1.heap.size := by omega)); (try (have hm1_w_5 : w.heap.size + 5 ≤ w1.heap.size := by omega)); (try (have hl1_w_6 : w.heap.size + 6 < w1.heap.size := by omega)); (try (have hm1_w_6 : w.heap.size + 6 ≤ w1.heap.size := by omega))
  go_wp2_with fail
  refine (ref_LettersAnswer A n c l i vk vn vs _ hn hc HH.out.2 (HH.out.1.now (by repeat (first | with_reducible exact Below.refl _ _ | with_reducible assumption | with_reducible refine below_drewN ?_ _ | with_reducible refine Below.drew ?_ | with_reducible refine below_alloc0 ?_ | with_reducible refine below_alloc ?_ (by simp; try omega) | with_reducible refine below_set ?_ (by simp; try omega) | with_reducible refine below_chain ?_ (by assumption) | (with_reducible refine below_step ?_ (by assumption) (by simp; try omega)))))).mono ?_; rintro e w2 ⟨v2, rfl, ho2, hb2⟩; obtain ⟨hc2, hf2⟩ := bcell hb2; (try simp only [World.heap_drewN, World.cell?_drewN, World.frozen?_drewN] at hc2 hf2); have hz2 := hb2.size; (try simp at hz2); (try (have hy2 := Nat.lt_of_succ_le hz2)); (try (have hx2 := Nat.lt_of_succ_lt hy2)); (try (have hl2_w_0 : w.heap.size < w2.heap.size := by omega)); (try (have hm2_w_0 : w.heap.size ≤ w2.heap.size := by omega)); (try (have hl2_w_1 : w.heap.size + 1 < w2.heap.size := by omega)); (try (have hm2_w_1 : w.heap.size + 1 ≤ w2.heap.size := by omega)); (try (have hl2_w_2 : w.heap.size + 2 < w2.heap.size := by omega)); (try (have hm2_w_2 : w.heap.size + 2 ≤ w2.heap.size := by omega)); (try (have hl2_w_3 : w.heap.size + 3 < w2.heap.size := by omega)); (try (have hm2_w_3 : w.heap.size + 3 ≤ w2.heap.size := by omega)); (try (have hl2_w_4 : w.heap.size + 4 < w2.heap.size := by omega)); (try (have hm2_w_4 : w.heap.size + 4 ≤ w2.heap.size := by omega)); (try (have hl2_w_5 : w.heap.size + 5 < w2.heap.size := by omega)); (try (have hm2_w_5 : w.heap.size + 5 ≤ w2.heap.size := by omega)); (try (have hl2_w_6 : w.heap.size + 6 < w2.heap.size := by omega)); (try (have hm2_w_6 : w.heap.size + 6 ≤ w2.heap.size := by omega)); (try (have hl2_w1_0 : w1.heap.size < w2.heap.size := by omega)); (try (have hm2_w1_0 : w1.heap.size ≤ w2.heap.size := by omega)); (try (have hl2_w1_1 : w1.heap.size + 1 < w2.heap.size := by omega)); (try (have hm2_w1_1 : w1.heap.size + 1 ≤ w2.heap.size := by omega)); (try (have hl2_w1_2 : w1.heap.size + 2 < w2.heap.size := by omega)); (try (have hm2_w1_2 : w1.heap.size + 2 ≤ w2.heap.size := by omega)); (try (have hl2_w1_3 : w1.heap.size + 3 < w2.heap.size := by omega)); (try (have hm2_w1_3 : w1.heap.size + 3 ≤ w2.heap.size := by omega)); (try (have hl2_w1_4 : w1.heap.size + 4 < w2.heap.size := by omega)); (try (have hm2_w1_4 : w1.heap.size + 4 ≤ w2.heap.size := by omega)); (try (have hl2_w1_5 : w1.heap.size + 5 < w2.heap.size := by omega)); (try (have hm2_w1_5 : w1.heap.size + 5 ≤ w2.heap.size := by omega)); (try (have hl2_w1_6 : w1.heap.size + 6 < w2.heap.size := by omega)); (try (have hm2_w1_6 : w1.heap.size + 6 ≤ w2.heap.size := by omega))
  have hwf := ltrAnswer_wf (i := i) HH.out.1.wfLtr HH.out.2
  obtain ⟨A1, c1, rfl, _, hs1⟩ := ownLtr ho1 rfl hwf
  obtain ⟨A2, c2, rfl, _, hs2⟩ := ownLtr ho2 rfl hwf
  have HS := Lib.hid (And.intro hs1 hs2)
  clear ho1 ho2 hs1 hs2 hwf
  go_wp2_with fail
  refine (same_Letters A1 _ c1 (ltrAnswer l i ⟨vk, vn, vs⟩).1 A2 _ c2 (ltrAnswer l i ⟨vk, vn, vs⟩).1 _ hl1 hl1 (HS.out.1.now (by repeat (first | with_reducible exact Below.refl _ _ | with_reducible assumption | with_reducible refine below_drewN ?_ _ | with_reducible refine Below.drew ?_ | with_reducible refine below_alloc0 ?_ | with_reducible refine below_alloc ?_ (by simp; try omega) | with_reducible refine below_set ?_ (by simp; try omega) | with_reducible refine below_chain ?_ (by assumption) | (with_reducible refine below_step ?_ (by assumption) (by simp; try omega))))) HS.out.2).mono ?_; rintro e w5 ⟨rfl, hb5⟩
  rw [decide_eq_true rfl]
  go_wp2_with fail
  go_ret
  exact ⟨rfl, (by repeat (first | with_reducible exact Below.refl _ _ | with_reducible assumption | with_reducible refine below_drewN ?_ _ | with_reducible refine Below.drew ?_ | with_reducible refine below_alloc0 ?_ | with_reducible refine below_alloc ?_ (by simp; try omega) | with_reducible refine below_set ?_ (by simp; try omega) | with_reducible refine below_chain ?_ (by assumption) | (with_reducible refine below_step ?_ (by assumption) (by simp; try omega))))⟩
set_option maxRecDepth 100000 in
theorem NetReplies_lifted (os : Os) (started : os.Started) (H : Type) (enc : TypeId × Value → H) :
    ReturnsInHanded {} Try.checked os 10 .any (Rows.netRepliesSpec.pre6 enc Try.checked.prog Try.f10 Rows.netRepliesRow.domain false) (Rows.netRepliesSpec.post enc Try.checked.prog Try.f10 false true false false) := by
  refine law_lifted (s := Rows.netRepliesSpec) started (by kernel_rfl) Try.func10 (by rw [Try.params10]; exact of_decide_eq_true (by kernel_rfl)) rfl rfl
    (fun ds hl => by rw [show Try.f10.params.size = 3 from rfl] at hl; match ds, hl with | [d0, d1, d2], _ => rfl)
    (ChangeSpec.witness6 (enc := enc) (C := Try.checked) false ⟨#[], #[.slice none 0 0, .int .i64 0, .agg #[.int .i64 0, .int .i64 0, .string ByteArray.empty]], []⟩ 8 (by kernel_rfl) (by kernel_rfl) (by kernel_rfl) (by kernel_rfl)) ?_
  intro W b args ds p hA hval hsz
  rw [Try.params10] at hA hval hsz
  obtain ⟨v0, vs0, d0, ds0, p0, q0, hargs, rfl, rfl, h0, r0⟩ := trodAll_cons hA
  obtain ⟨v1, vs1, d1, ds1, p1, q1, rfl, rfl, rfl, h1, r1⟩ := trodAll_cons r0
  obtain ⟨v2, vs2, d2, ds2, p2, q2, rfl, rfl, rfl, h2, r2⟩ := trodAll_cons r1
  obtain ⟨rfl, rfl, rfl⟩ := trodAll_nil r2
  have hargs' : args = #[v0, v1, v2] := by apply Array.toList_inj.1; simpa using hargs
  subst hargs'
  have w0 := weightsEach_at _ _ hsz 0 _ _ rfl rfl
  obtain ⟨A0, n0, c0, l0, rfl, i0, k0, s0, m0⟩ := arg_sl dec_Ltrs Try.underlying61 (hval 0 61 _ rfl rfl) h0 w0
  have w1 := weightsEach_at _ _ hsz 1 _ _ rfl rfl
  obtain ⟨a1, rfl, i1⟩ := arg_int Try.underlying3 (hval 1 3 _ rfl rfl) h1
  have w2 := weightsEach_at _ _ hsz 2 _ _ rfl rfl
  obtain ⟨cs2, a2, rfl, ⟨rfl, i2⟩, m2⟩ := arg_struct dec_Val Try.underlying35 (hval 2 35 _ rfl rfl) h2 w2
  exact law_NetReplies W A0 n0 c0 l0 i0 k0 s0 a1 i1 a2 i2
theorem NetReplies_holds : Rows.NetRepliesSaid :=
  OpenClaim.holds_of_wide 10 Try.f10 rfl rfl rfl rfl rfl rfl rfl ⟨rfl, rfl, rfl, rfl, rfl⟩ rfl rfl rfl rfl rfl (by kernel_rfl) Try.func10 (by kernel_rfl)
    (of_decide_eq_true (by kernel_rfl)) (by unfold Func.isWrapper; rw [if_neg (of_decide_eq_false (by kernel_rfl))]; exact ⟨rfl, rfl⟩)
    (fun os started H enc _ => NetReplies_lifted os started H enc)
end Go.Proofs.Ytiplgdplfbeahaa
