/- The law SubmitTells returns true for every input: submit.Text agrees with the reference. Listed: the variables of Go's library that the shown numbers lean on. -/
import Derived.Test.YtgmcojnhpedpnaaDoorOpen
import Derived.Test.YtgmcojnhpedpnaaDoorDecs
import Derived.Test.YtgmcojnhpedpnaaDoorGdKit
import Derived.Test.YtgmcojnhpedpnaaDoorSub
namespace Go.Proofs.YtgmcojnhpedpnaaDoor
open Go.ChangeShapes Go.WideShapes Go.ChangeAt Go.RowKit

theorem textR_len (l : List Fct) : (textR l).1.length ≤ l.length := by unfold textR; split <;> simp
set_option maxHeartbeats 1000000 in
theorem law_SubmitTells (w : World) (A : Option Addr) (n c : Nat) (l : List Fct) (hn : inB 80 n) (_ : n ≤ c) (h : Sl w (old w) 7 RFct A n l) (hL : laidMetH Tryd.prog Rows.submitTellsRow.laid w) (hsh : w.ShapedOpen Tryd.prog) :
    Calls Tryd.prog 4 #[.slice A n c] w fun e w' => e = .returned (.bool true) ∧ Below w.heap.size w w' := by
  have hg : Gd w := gd_of (by kernel_rfl) 2 _ rfl hL hsh
  have HG := Lib.hid (And.intro hg h)
  have h1 := fun w h h' => submit_Text A n c l w hn h h'
  have h2 := fun w h h' => ref_RecordText A n c l w hn h h'
  have hln := textR_len l
  rw [h.len] at hln
  clear hg hL hsh h
  unfold inB at hn
  generalize (textR l).1 = s at *
  generalize (textR l).2 = er at *
  go_enter Tryd.func4, Tryd.ntmps4
  go_wp2_with fail
  refine (h1 _ (HG.out.2.now bel) (HG.out.1.keep bel)).mono ?_; rintro e w1 ⟨v1, rfl, ho1, hb1⟩; obtain ⟨A1, c1, rfl, hc1, hs1⟩ := own_slw strCs (fun _ => True) (fun _ => rfl) ho1 rfl (fun _ _ => trivial); obtain ⟨hc1, hf1⟩ := bcell hb1; (try simp only [World.heap_drewN, World.cell?_drewN, World.frozen?_drewN] at hc1 hf1); have hz1 := hb1.size; (try simp at hz1); (try (have hy1 := Nat.lt_of_succ_le hz1)); (try (have hx1 := Nat.lt_of_succ_lt hy1)); (try (have hl1_w_0 : w.heap.size < w1.heap.size := by omega)); (try (have hm1_w_0 : w.heap.size ≤ w1.heap.size := by omega)); (try (have hl1_w_1 : w.heap.size + 1 < w1.heap.size := by omega)); (try (have hm1_w_1 : w.heap.size + 1 ≤ w1.heap.size := by omega)); (try (have hl1_w_2 : w.heap.size + 2 < w1.heap.size := by omega)); (try (have hm1_w_2 : w.heap.size + 2 ≤ w1.heap.size := by omega)); (try (have hl1_w_3 : w.heap.size + 3 < w1.heap.size := by omega)); (try (have hm1_w_3 : w.heap.size + 3 ≤ w1.heap.size := by omega)); (try (have hl1_w_4 : w.heap.size + 4 < w1.heap.size := by omega)); (try (have hm1_w_4 : w.heap.size + 4 ≤ w1.heap.size := by omega)); (try (have hl1_w_5 : w.heap.size + 5 < w1.heap.size := by omega)); (try (have hm1_w_5 : w.heap.size + 5 ≤ w1.heap.size := by omega)); (try (have hl1_w_6 : w.heap.size + 6 < w1.heap.size := by omega)); (try (have hm1_w_6 : w.heap.size + 6 ≤ w1.heap.size := by omega))
  have HS1 := Lib.hid hs1
  clear hs1 ho1
  go_wp2_with fail
  refine (h2 _ (HG.out.2.now bel) (HG.out.1.keep bel)).mono ?_; rintro e w2 ⟨v2, rfl, ho2, hb2⟩; obtain ⟨A2, c2, rfl, hc2, hs2⟩ := own_slw strCs (fun _ => True) (fun _ => rfl) ho2 rfl (fun _ _ => trivial); obtain ⟨hc2, hf2⟩ := bcell hb2; (try simp only [World.heap_drewN, World.cell?_drewN, World.frozen?_drewN] at hc2 hf2); have hz2 := hb2.size; (try simp at hz2); (try (have hy2 := Nat.lt_of_succ_le hz2)); (try (have hx2 := Nat.lt_of_succ_lt hy2)); (try (have hl2_w_0 : w.heap.size < w2.heap.size := by omega)); (try (have hm2_w_0 : w.heap.size ≤ w2.heap.size := by omega)); (try (have hl2_w_1 : w.heap.size + 1 < w2.heap.size := by omega)); (try (have hm2_w_1 : w.heap.size + 1 ≤ w2.heap.size := by omega)); (try (have hl2_w_2 : w.heap.size + 2 < w2.heap.size := by omega)); (try (have hm2_w_2 : w.heap.size + 2 ≤ w2.heap.size := by omega)); (try (have hl2_w_3 : w.heap.size + 3 < w2.heap.size := by omega)); (try (have hm2_w_3 : w.heap.size + 3 ≤ w2.heap.size := by omega)); (try (have hl2_w_4 : w.heap.size + 4 < w2.heap.size := by omega)); (try (have hm2_w_4 : w.heap.size + 4 ≤ w2.heap.size := by omega)); (try (have hl2_w_5 : w.heap.size + 5 < w2.heap.size := by omega)); (try (have hm2_w_5 : w.heap.size + 5 ≤ w2.heap.size := by omega)); (try (have hl2_w_6 : w.heap.size + 6 < w2.heap.size := by omega)); (try (have hm2_w_6 : w.heap.size + 6 ≤ w2.heap.size := by omega)); (try (have hl2_w1_0 : w1.heap.size < w2.heap.size := by omega)); (try (have hm2_w1_0 : w1.heap.size ≤ w2.heap.size := by omega)); (try (have hl2_w1_1 : w1.heap.size + 1 < w2.heap.size := by omega)); (try (have hm2_w1_1 : w1.heap.size + 1 ≤ w2.heap.size := by omega)); (try (have hl2_w1_2 : w1.heap.size + 2 < w2.heap.size := by omega)); (try (have hm2_w1_2 : w1.heap.size + 2 ≤ w2.heap.size := by omega)); (try (have hl2_w1_3 : w1.heap.size + 3 < w2.heap.size := by omega)); (try (have hm2_w1_3 : w1.heap.size + 3 ≤ w2.heap.size := by omega)); (try (have hl2_w1_4 : w1.heap.size + 4 < w2.heap.size := by omega)); (try (have hm2_w1_4 : w1.heap.size + 4 ≤ w2.heap.size := by omega)); (try (have hl2_w1_5 : w1.heap.size + 5 < w2.heap.size := by omega)); (try (have hm2_w1_5 : w1.heap.size + 5 ≤ w2.heap.size := by omega)); (try (have hl2_w1_6 : w1.heap.size + 6 < w2.heap.size := by omega)); (try (have hm2_w1_6 : w1.heap.size + 6 ≤ w2.heap.size := by omega))
  have HS2 := Lib.hid hs2
  clear hs2 ho2
  go_wp2_with fail
  refine (same_Texts A1 A2 s.length c1 s.length c2 s _ _ _ (by omega) (HS1.out.keep (w' := w2) (fun b hq => (bel : Below w1.heap.size w1 w2).block b hq) (fun _ _ h => h.1)) (HS2.out.keep (w' := w2) (fun b hq => rfl) (fun _ _ h => h.1))).mono ?_; rintro e w5 ⟨rfl, k5, rfl⟩
  go_wp2_with fail
  go_ret
  exact ⟨rfl, bel⟩
theorem SubmitTells_reads (os : Os) {H : Type} (enc : TypeId × Value → H) : ∃ places, DataW.whole enc Tryd.checked.prog ((World.laidAll Tryd.checked.prog os Rows.submitTellsRow.laid).forCall (fun _ _ => 0) ⟨#[], #[.slice none 0 0], []⟩).memory Tryd.f4.params.toList Rows.submitTellsSpec.vars false #[.slice none 0 0].toList 8 = some ([.nil], [], places) :=
  ⟨[], by kernel_rfl⟩
set_option maxRecDepth 100000 in
theorem SubmitTells_lifted (os : Os) (started : os.Started) (H : Type) (enc : TypeId × Value → H) (FS : Stop.Interp) :
    ReturnsInHanded {} Tryd.checked os 4 .any ((OpenSpec.ofChange Rows.submitTellsSpec).preRow enc Tryd.checked.prog Tryd.f4 Rows.submitTellsRow.domain false Rows.submitTellsRow.laid) (((OpenSpec.ofChange Rows.submitTellsSpec).at FS).post enc Tryd.checked.prog Tryd.f4 false true false false) := by
  obtain ⟨places, hx⟩ := SubmitTells_reads os enc
  refine law_lifted_laid (s := Rows.submitTellsSpec) (FS := FS) started (by kernel_rfl) Tryd.func4 (by rw [Tryd.params4]; exact of_decide_eq_true (by kernel_rfl)) rfl rfl
    (fun ds hl => by rw [show Tryd.f4.params.size = 1 from rfl] at hl; match ds, hl with | [d0], _ => rfl)
    (witness_zip (World.laidAll Tryd.checked.prog os Rows.submitTellsRow.laid) #[.slice none 0 0] (World.laidAll_os _ _ _) (World.shaped_of_ZipB (by kernel_rfl) (by kernel_rfl)) (by kernel_rfl)
      (OpenSpec.preRow_of_cond 8 hx (by kernel_rfl) (fun k hk => by cases hk) (by kernel_rfl) (by rw [MakeChecks.laidMetH_plain _ _ _ (by kernel_rfl)]; exact laidMet_laidAll _ (by kernel_rfl) (by kernel_rfl)))) ?_
  intro W b args ds p hA hval hsz hL hsh
  rw [Tryd.params4] at hA hval hsz
  obtain ⟨v0, vs0, d0, ds0, p0, q0, hargs, rfl, rfl, h0, r0⟩ := trodAll_cons hA
  obtain ⟨rfl, rfl, rfl⟩ := trodAll_nil r0
  have hargs' : args = #[v0] := by apply Array.toList_inj.1; simpa using hargs
  subst hargs'
  have w0 := weightsEach_at _ _ hsz 0 _ _ rfl rfl
  obtain ⟨A0, n0, c0, l0, rfl, i0, k0, s0, m0⟩ := arg_sl dec_Fcts Tryd.underlying28 (hval 0 28 _ rfl rfl) h0 w0
  exact law_SubmitTells W A0 n0 c0 l0 i0 k0 s0  hL hsh
theorem SubmitTells_row : Rows.SubmitTellsSaid :=
  OpenClaim.holds_of_cond 4 Tryd.f4 rfl rfl rfl rfl rfl rfl rfl ⟨rfl, rfl, rfl, rfl, rfl⟩ rfl rfl rfl rfl rfl (by kernel_rfl) Tryd.func4 (by kernel_rfl)
    (of_decide_eq_true (by kernel_rfl)) (by unfold Func.isWrapper; first | (rw [if_pos (by decide +kernel)]; kernel_rfl) | (rw [if_neg (by decide +kernel)]; exact ⟨rfl, rfl⟩))
    (fun os started H enc _ FS => by rw [OpenClaim.pre_eq_preRow]; exact SubmitTells_lifted os started H enc FS)
theorem SubmitTells_plain (f : FuncId) (fn : Func) (hf : Tryd.pinned.checked.prog.funcNamed "lychway/lychwaylaw.SubmitTells" = some f) (hfn : Tryd.pinned.checked.prog.funcs[f]? = some fn) :
    true = Tryd.pinned.checked.prog.looks [] ∧ ∀ (j : Nat) t, fn.params[j]? = some t → Tryd.pinned.checked.prog.wantsStandIn t = false := by
  obtain rfl : f = 4 := Option.some.inj ((show Tryd.prog.funcNamed "lychway/lychwaylaw.SubmitTells" = some 4 by kernel_rfl).symm.trans hf) |>.symm
  obtain rfl : fn = Tryd.f4 := (Option.some.inj (Tryd.func4.symm.trans hfn)).symm
  refine ⟨by kernel_rfl, fun j t ht => ?_⟩
  have hall : (Tryd.f4.params.toList.all fun u => !Tryd.prog.wantsStandIn u) = true := by kernel_rfl
  have hm : t ∈ Tryd.f4.params.toList := Array.mem_toList_iff.2 (Array.mem_of_getElem? ht)
  exact (show Tryd.prog.wantsStandIn t = false by simpa using List.all_eq_true.1 hall t hm)
theorem SubmitTells_holds : Rows.SubmitTellsCardSaid :=
  Claim7.holds_tied_plain_at .later [] _ _ _ _ SubmitTells_row (fun _ h => by cases h) (by kernel_rfl) (fun _ h => by cases h) submitTells_row_tie rfl ⟨rfl, rfl⟩ (by kernel_rfl) rfl SubmitTells_plain (by kernel_rfl)
end Go.Proofs.YtgmcojnhpedpnaaDoor
