/- The law NamesTells returns true for every input of bulk at most 1048576: names.Of and names.Has agree with the references. -/
import Derived.Test.YtgmcojnhpedpnaaOpen
import Derived.Test.YtgmcojnhpedpnaaRis
import Derived.Test.YtgmcojnhpedpnaaSame1
namespace Go.Proofs.Ytgmcojnhpedpnaa
open Go.ChangeShapes Go.WideShapes Go.ChangeAt Go.RowKit

mutual
theorem bulk_nodes : ∀ x : Exp, x.nodes ≤ x.bulk
  | .mk op v nm args => by
    have := bulks_nodes args
    simp only [Exp.bulk, Exp.nodes]
    omega
theorem bulks_nodes : ∀ l : List Exp, nodesL l ≤ Exp.bulk.bulks l
  | [] => by simp [nodesL]
  | a :: l => by
    have := bulk_nodes a
    have := bulks_nodes l
    simp only [Exp.bulk.bulks, nodesL]
    omega
end
theorem namesR_inS {w : World} {S : Nat → Prop} {cs : List Value} {x : Exp} (h : XRep w S cs x) : ∀ s ∈ (namesR x).1, inS s := by
  intro s hs
  unfold namesR at hs
  split at hs
  · exact askN_inS h s ((rise_mem _ _).1 hs)
  · cases hs
theorem namesR_len (x : Exp) : (namesR x).1.length ≤ x.nodes := by
  unfold namesR
  split
  · exact Nat.le_trans (rise_len _) (askN_nodes x)
  · simp

set_option maxRecDepth 100000 in
set_option maxHeartbeats 2000000 in
theorem law_NamesTells (w : World) (cx : List Value) (x : Exp) (hx : XRep w (old w) cx x) (name : ByteArray) (_ : inS name) (hb : x.bulk ≤ 1048576) (_ : name.size + 1 ≤ 1048576) :
    Calls Try.prog 3 #[.agg cx.toArray, .string name] w fun e w' => e = .returned (.bool true) ∧ Below w.heap.size w w' := by
  obtain ⟨A, c, rfl, _⟩ := hx.open_
  have hN : x.nodes ≤ 1048576 := Nat.le_trans (bulk_nodes x) hb
  have hin := namesR_inS hx
  have hln := namesR_len x
  have HX := Lib.hid (And.intro hx hin)
  have h1 := fun w h => names_Of x A c w hN h
  have h2 := fun w h => names_Has x A c name w h
  have h3 := fun w h => ref_NamesOf x A c w hN h
  have h4 := fun w h => ref_NamesHas x A c name w hN h
  clear hx hin
  generalize (namesR x).1 = l at *
  generalize (namesR x).2 = er at *
  generalize (askN x).any (isStr name) = bo at *
  go_enter Try.func3, Try.ntmps3
  go_wp2_with fail
  refine (h1 _ (HX.out.1.keep (old_keep bel))).mono ?_; rintro e w1 ⟨v1, rfl, ho1, hb1⟩; obtain ⟨A1, c1, rfl, hc1, hs1⟩ := ownStr ho1 rfl HX.out.2; obtain ⟨hc1, hf1⟩ := bcell hb1; (try simp only [World.heap_drewN, World.cell?_drewN, World.frozen?_drewN] at hc1 hf1); have hz1 := hb1.size; (try simp at hz1); (try (have hy1 := Nat.lt_of_succ_le hz1)); (try (have hx1 := Nat.lt_of_succ_lt hy1)); (try (have hl1_w_0 : w.heap.size < w1.heap.size := by omega)); (try (have hm1_w_0 : w.heap.size ≤ w1.heap.size := by omega)); (try (have hl1_w_1 : w.heap.size + 1 < w1.heap.size := by omega)); (try (have hm1_w_1 : w.heap.size + 1 ≤ w1.heap.size := by omega)); (try (have hl1_w_2 : w.heap.size + 2 < w1.heap.size := by omega)); (try (have hm1_w_2 : w.heap.size + 2 ≤ w1.heap.size := by omega)); (try (have hl1_w_3 : w.heap.size + 3 < w1.heap.size := by omega)); (try (have hm1_w_3 : w.heap.size + 3 ≤ w1.heap.size := by omega)); (try (have hl1_w_4 : w.heap.size + 4 < w1.heap.size := by omega)); (try (have hm1_w_4 : w.heap.size + 4 ≤ w1.heap.size := by omega)); (try (have hl1_w_5 : w.heap.size + 5 < w1.heap.size := by omega)); (try (have hm1_w_5 : w.heap.size + 5 ≤ w1.heap.size := by omega)); (try (have hl1_w_6 : w.heap.size + 6 < w1.heap.size := by omega)); (try (have hm1_w_6 : w.heap.size + 6 ≤ w1.heap.size := by omega))
  have HS1 := Lib.hid hs1
  have l1 : w.heap.size < w1.heap.size := by have := hb1.size; simp at this; omega
  clear hs1 ho1
  go_wp2_with fail
  refine (h2 _ (HX.out.1.keep (old_keep bel))).mono ?_; rintro e w2 ⟨rfl, hb2⟩; obtain ⟨hc2, hf2⟩ := bcell hb2; (try simp only [World.heap_drewN, World.cell?_drewN, World.frozen?_drewN] at hc2 hf2); have hz2 := hb2.size; (try simp at hz2); (try (have hy2 := Nat.lt_of_succ_le hz2)); (try (have hx2 := Nat.lt_of_succ_lt hy2)); (try (have hl2_w_0 : w.heap.size < w2.heap.size := by omega)); (try (have hm2_w_0 : w.heap.size ≤ w2.heap.size := by omega)); (try (have hl2_w_1 : w.heap.size + 1 < w2.heap.size := by omega)); (try (have hm2_w_1 : w.heap.size + 1 ≤ w2.heap.size := by omega)); (try (have hl2_w_2 : w.heap.size + 2 < w2.heap.size := by omega)); (try (have hm2_w_2 : w.heap.size + 2 ≤ w2.heap.size := by omega)); (try (have hl2_w_3 : w.heap.size + 3 < w2.heap.size := by omega)); (try (have hm2_w_3 : w.heap.size + 3 ≤ w2.heap.size := by omega)); (try (have hl2_w_4 : w.heap.size + 4 < w2.heap.size := by omega)); (try (have hm2_w_4 : w.heap.size + 4 ≤ w2.heap.size := by omega)); (try (have hl2_w_5 : w.heap.size + 5 < w2.heap.size := by omega)); (try (have hm2_w_5 : w.heap.size + 5 ≤ w2.heap.size := by omega)); (try (have hl2_w_6 : w.heap.size + 6 < w2.heap.size := by omega)); (try (have hm2_w_6 : w.heap.size + 6 ≤ w2.heap.size := by omega)); (try (have hl2_w1_0 : w1.heap.size < w2.heap.size := by omega)); (try (have hm2_w1_0 : w1.heap.size ≤ w2.heap.size := by omega)); (try (have hl2_w1_1 : w1.heap.size + 1 < w2.heap.size := by omega)); (try (have hm2_w1_1 : w1.heap.size + 1 ≤ w2.heap.size := by omega)); (try (have hl2_w1_2 : w1.heap.size + 2 < w2.heap.size := by omega)); (try (have hm2_w1_2 : w1.heap.size + 2 ≤ w2.heap.size := by omega)); (try (have hl2_w1_3 : w1.heap.size + 3 < w2.heap.size := by omega)); (try (have hm2_w1_3 : w1.heap.size + 3 ≤ w2.heap.size := by omega)); (try (have hl2_w1_4 : w1.heap.size + 4 < w2.heap.size := by omega)); (try (have hm2_w1_4 : w1.heap.size + 4 ≤ w2.heap.size := by omega)); (try (have hl2_w1_5 : w1.heap.size + 5 < w2.heap.size := by omega)); (try (have hm2_w1_5 : w1.heap.size + 5 ≤ w2.heap.size := by omega)); (try (have hl2_w1_6 : w1.heap.size + 6 < w2.heap.size := by omega)); (try (have hm2_w1_6 : w1.heap.size + 6 ≤ w2.heap.size := by omega))
  go_wp2_with fail
  refine (h3 _ (HX.out.1.keep (old_keep bel))).mono ?_; rintro e w3 ⟨v3, rfl, ho3, hb3⟩; obtain ⟨A3, c3, rfl, hc3, hs3⟩ := ownStr ho3 rfl HX.out.2; obtain ⟨hc3, hf3⟩ := bcell hb3; (try simp only [World.heap_drewN, World.cell?_drewN, World.frozen?_drewN] at hc3 hf3); have hz3 := hb3.size; (try simp at hz3); (try (have hy3 := Nat.lt_of_succ_le hz3)); (try (have hx3 := Nat.lt_of_succ_lt hy3)); (try (have hl3_w_0 : w.heap.size < w3.heap.size := by omega)); (try (have hm3_w_0 : w.heap.size ≤ w3.heap.size := by omega)); (try (have hl3_w_1 : w.heap.size + 1 < w3.heap.size := by omega)); (try (have hm3_w_1 : w.heap.size + 1 ≤ w3.heap.size := by omega)); (try (have hl3_w_2 : w.heap.size + 2 < w3.heap.size := by omega)); (try (have hm3_w_2 : w.heap.size + 2 ≤ w3.heap.size := by omega)); (try (have hl3_w_3 : w.heap.size + 3 < w3.heap.size := by omega)); (try (have hm3_w_3 : w.heap.size + 3 ≤ w3.heap.size := by omega)); (try (have hl3_w_4 : w.heap.size + 4 < w3.heap.size := by omega)); (try (have hm3_w_4 : w.heap.size + 4 ≤ w3.heap.size := by omega)); (try (have hl3_w_5 : w.heap.size + 5 < w3.heap.size := by omega)); (try (have hm3_w_5 : w.heap.size + 5 ≤ w3.heap.size := by omega)); (try (have hl3_w_6 : w.heap.size + 6 < w3.heap.size := by omega)); (try (have hm3_w_6 : w.heap.size + 6 ≤ w3.heap.size := by omega)); (try (have hl3_w1_0 : w1.heap.size < w3.heap.size := by omega)); (try (have hm3_w1_0 : w1.heap.size ≤ w3.heap.size := by omega)); (try (have hl3_w1_1 : w1.heap.size + 1 < w3.heap.size := by omega)); (try (have hm3_w1_1 : w1.heap.size + 1 ≤ w3.heap.size := by omega)); (try (have hl3_w1_2 : w1.heap.size + 2 < w3.heap.size := by omega)); (try (have hm3_w1_2 : w1.heap.size + 2 ≤ w3.heap.size := by omega)); (try (have hl3_w1_3 : w1.heap.size + 3 < w3.heap.size := by omega)); (try (have hm3_w1_3 : w1.heap.size + 3 ≤ w3.heap.size := by omega)); (try (have hl3_w1_4 : w1.heap.size + 4 < w3.heap.size := by omega)); (try (have hm3_w1_4 : w1.heap.size + 4 ≤ w3.heap.size := by omega)); (try (have hl3_w1_5 : w1.heap.size + 5 < w3.heap.size := by omega)); (try (have hm3_w1_5 : w1.heap.size + 5 ≤ w3.heap.size := by omega)); (try (have hl3_w1_6 : w1.heap.size + 6 < w3.heap.size := by omega)); (try (have hm3_w1_6 : w1.heap.size + 6 ≤ w3.heap.size := by omega)); (try (have hl3_w2_0 : w2.heap.size < w3.heap.size := by omega)); (try (have hm3_w2_0 : w2.heap.size ≤ w3.heap.size := by omega)); (try (have hl3_w2_1 : w2.heap.size + 1 < w3.heap.size := by omega)); (try (have hm3_w2_1 : w2.heap.size + 1 ≤ w3.heap.size := by omega)); (try (have hl3_w2_2 : w2.heap.size + 2 < w3.heap.size := by omega)); (try (have hm3_w2_2 : w2.heap.size + 2 ≤ w3.heap.size := by omega)); (try (have hl3_w2_3 : w2.heap.size + 3 < w3.heap.size := by omega)); (try (have hm3_w2_3 : w2.heap.size + 3 ≤ w3.heap.size := by omega)); (try (have hl3_w2_4 : w2.heap.size + 4 < w3.heap.size := by omega)); (try (have hm3_w2_4 : w2.heap.size + 4 ≤ w3.heap.size := by omega)); (try (have hl3_w2_5 : w2.heap.size + 5 < w3.heap.size := by omega)); (try (have hm3_w2_5 : w2.heap.size + 5 ≤ w3.heap.size := by omega)); (try (have hl3_w2_6 : w2.heap.size + 6 < w3.heap.size := by omega)); (try (have hm3_w2_6 : w2.heap.size + 6 ≤ w3.heap.size := by omega))
  have HS3 := Lib.hid hs3
  clear hs3 ho3
  go_wp2_with fail
  refine (h4 _ (HX.out.1.keep (old_keep bel))).mono ?_; rintro e w4 ⟨rfl, hb4⟩; obtain ⟨hc4, hf4⟩ := bcell hb4; (try simp only [World.heap_drewN, World.cell?_drewN, World.frozen?_drewN] at hc4 hf4); have hz4 := hb4.size; (try simp at hz4); (try (have hy4 := Nat.lt_of_succ_le hz4)); (try (have hx4 := Nat.lt_of_succ_lt hy4)); (try (have hl4_w_0 : w.heap.size < w4.heap.size := by omega)); (try (have hm4_w_0 : w.heap.size ≤ w4.heap.size := by omega)); (try (have hl4_w_1 : w.heap.size + 1 < w4.heap.size := by omega)); (try (have hm4_w_1 : w.heap.size + 1 ≤ w4.heap.size := by omega)); (try (have hl4_w_2 : w.heap.size + 2 < w4.heap.size := by omega)); (try (have hm4_w_2 : w.heap.size + 2 ≤ w4.heap.size := by omega)); (try (have hl4_w_3 : w.heap.size + 3 < w4.heap.size := by omega)); (try (have hm4_w_3 : w.heap.size + 3 ≤ w4.heap.size := by omega)); (try (have hl4_w_4 : w.heap.size + 4 < w4.heap.size := by omega)); (try (have hm4_w_4 : w.heap.size + 4 ≤ w4.heap.size := by omega)); (try (have hl4_w_5 : w.heap.size + 5 < w4.heap.size := by omega)); (try (have hm4_w_5 : w.heap.size + 5 ≤ w4.heap.size := by omega)); (try (have hl4_w_6 : w.heap.size + 6 < w4.heap.size := by omega)); (try (have hm4_w_6 : w.heap.size + 6 ≤ w4.heap.size := by omega)); (try (have hl4_w1_0 : w1.heap.size < w4.heap.size := by omega)); (try (have hm4_w1_0 : w1.heap.size ≤ w4.heap.size := by omega)); (try (have hl4_w1_1 : w1.heap.size + 1 < w4.heap.size := by omega)); (try (have hm4_w1_1 : w1.heap.size + 1 ≤ w4.heap.size := by omega)); (try (have hl4_w1_2 : w1.heap.size + 2 < w4.heap.size := by omega)); (try (have hm4_w1_2 : w1.heap.size + 2 ≤ w4.heap.size := by omega)); (try (have hl4_w1_3 : w1.heap.size + 3 < w4.heap.size := by omega)); (try (have hm4_w1_3 : w1.heap.size + 3 ≤ w4.heap.size := by omega)); (try (have hl4_w1_4 : w1.heap.size + 4 < w4.heap.size := by omega)); (try (have hm4_w1_4 : w1.heap.size + 4 ≤ w4.heap.size := by omega)); (try (have hl4_w1_5 : w1.heap.size + 5 < w4.heap.size := by omega)); (try (have hm4_w1_5 : w1.heap.size + 5 ≤ w4.heap.size := by omega)); (try (have hl4_w1_6 : w1.heap.size + 6 < w4.heap.size := by omega)); (try (have hm4_w1_6 : w1.heap.size + 6 ≤ w4.heap.size := by omega)); (try (have hl4_w2_0 : w2.heap.size < w4.heap.size := by omega)); (try (have hm4_w2_0 : w2.heap.size ≤ w4.heap.size := by omega)); (try (have hl4_w2_1 : w2.heap.size + 1 < w4.heap.size := by omega)); (try (have hm4_w2_1 : w2.heap.size + 1 ≤ w4.heap.size := by omega)); (try (have hl4_w2_2 : w2.heap.size + 2 < w4.heap.size := by omega)); (try (have hm4_w2_2 : w2.heap.size + 2 ≤ w4.heap.size := by omega)); (try (have hl4_w2_3 : w2.heap.size + 3 < w4.heap.size := by omega)); (try (have hm4_w2_3 : w2.heap.size + 3 ≤ w4.heap.size := by omega)); (try (have hl4_w2_4 : w2.heap.size + 4 < w4.heap.size := by omega)); (try (have hm4_w2_4 : w2.heap.size + 4 ≤ w4.heap.size := by omega)); (try (have hl4_w2_5 : w2.heap.size + 5 < w4.heap.size := by omega)); (try (have hm4_w2_5 : w2.heap.size + 5 ≤ w4.heap.size := by omega)); (try (have hl4_w2_6 : w2.heap.size + 6 < w4.heap.size := by omega)); (try (have hm4_w2_6 : w2.heap.size + 6 ≤ w4.heap.size := by omega)); (try (have hl4_w3_0 : w3.heap.size < w4.heap.size := by omega)); (try (have hm4_w3_0 : w3.heap.size ≤ w4.heap.size := by omega)); (try (have hl4_w3_1 : w3.heap.size + 1 < w4.heap.size := by omega)); (try (have hm4_w3_1 : w3.heap.size + 1 ≤ w4.heap.size := by omega)); (try (have hl4_w3_2 : w3.heap.size + 2 < w4.heap.size := by omega)); (try (have hm4_w3_2 : w3.heap.size + 2 ≤ w4.heap.size := by omega)); (try (have hl4_w3_3 : w3.heap.size + 3 < w4.heap.size := by omega)); (try (have hm4_w3_3 : w3.heap.size + 3 ≤ w4.heap.size := by omega)); (try (have hl4_w3_4 : w3.heap.size + 4 < w4.heap.size := by omega)); (try (have hm4_w3_4 : w3.heap.size + 4 ≤ w4.heap.size := by omega)); (try (have hl4_w3_5 : w3.heap.size + 5 < w4.heap.size := by omega)); (try (have hm4_w3_5 : w3.heap.size + 5 ≤ w4.heap.size := by omega)); (try (have hl4_w3_6 : w3.heap.size + 6 < w4.heap.size := by omega)); (try (have hm4_w3_6 : w3.heap.size + 6 ≤ w4.heap.size := by omega))
  go_wp2_with fail
  refine (same_Texts A1 A3 l.length c1 l.length c3 l _ _ _ (by omega) (HS1.out.keep (w' := w4) (fun b hq => (bel : Below w1.heap.size w1 w4).block b hq) (fun _ _ h => h.1)) (HS3.out.keep (w' := w4) (fun b hq => (bel : Below w3.heap.size w3 w4).block b hq) (fun _ _ h => h.1))).mono ?_; rintro e w5 ⟨rfl, k5, rfl⟩
  go_wp2_with fail
  go_ret
  exact ⟨rfl, bel⟩
set_option maxRecDepth 100000 in
theorem NamesTellsUpto_lifted (os : Os) (started : os.Started) (H : Type) (enc : TypeId × Value → H) (FS : Stop.Interp) :
    ReturnsInHanded {} Try.checked os 3 .any ((Rows.OpenSpec.upto Rows.namesTellsSpec).pre6 enc Try.checked.prog Try.f3 Rows.namesTellsUptoRow.domain false) (((Rows.OpenSpec.upto Rows.namesTellsSpec).at FS).post enc Try.checked.prog Try.f3 false true false false) := by
  refine law_lifted_upto (s := Rows.namesTellsSpec) (FS := FS) started (by kernel_rfl) Try.func3 (by rw [Try.params3]; exact of_decide_eq_true (by kernel_rfl)) rfl rfl
    (fun ds hl => by rw [show Try.f3.params.size = 2 from rfl] at hl; match ds, hl with | [d0, d1], _ => rfl)
    (OpenSpec.witness (enc := enc) (C := Try.checked) (s := Rows.OpenSpec.upto Rows.namesTellsSpec) (k := Rows.uptoSmall) rfl false ⟨#[], #[.agg #[.int .i64 0, .int .i64 0, .int .i64 0, .string ByteArray.empty, .string ByteArray.empty, .slice none 0 0], .string ByteArray.empty], []⟩ 8 (by kernel_rfl) (by kernel_rfl) (by kernel_rfl) (x := ([.agg [.lit (.int .i64 0), .agg [.lit (.int .i64 0), .lit (.int .i64 0), .lit (.string [])], .lit (.string []), .nil], .lit (.string [])], [], [])) (by kernel_rfl) rfl (by kernel_rfl)) ?_
  intro W b args ds p hA hval hsz hbulk
  rw [Try.params3] at hA hval hsz
  obtain ⟨v0, vs0, d0, ds0, p0, q0, hargs, rfl, rfl, h0, r0⟩ := trodAll_cons hA
  obtain ⟨v1, vs1, d1, ds1, p1, q1, rfl, rfl, rfl, h1, r1⟩ := trodAll_cons r0
  obtain ⟨rfl, rfl, rfl⟩ := trodAll_nil r1
  have hargs' : args = #[v0, v1] := by apply Array.toList_inj.1; simpa using hargs
  subst hargs'
  have w0 := weightsEach_at _ _ hsz 0 _ _ rfl rfl
  obtain ⟨cs0, a0, rfl, s0, m0⟩ := arg_struct dec_Exp Try.underlying26 (hval 0 26 _ rfl rfl) h0 w0
  have w1 := weightsEach_at _ _ hsz 1 _ _ rfl rfl
  obtain ⟨a1, rfl, i1, m1⟩ := arg_str Try.underlying9 (hval 1 9 _ rfl rfl) h1 w1
  simp only [Rows.uptoBulkAll] at hbulk
  exact law_NamesTells W cs0 a0 s0 a1 i1 (Nat.le_trans m0 (by omega)) (Nat.le_trans m1 (by omega))
theorem NamesTellsUpto_holds : Rows.NamesTellsUptoSaid :=
  OpenClaim.holds_of_cond 3 Try.f3 rfl rfl rfl rfl rfl rfl rfl ⟨rfl, rfl, rfl, rfl, rfl⟩ rfl rfl rfl rfl rfl (by kernel_rfl) Try.func3 (by kernel_rfl)
    (of_decide_eq_true (by kernel_rfl)) (by unfold Func.isWrapper; rw [if_neg (of_decide_eq_false (by kernel_rfl))]; exact ⟨rfl, rfl⟩)
    (fun os started H enc _ FS => NamesTellsUpto_lifted os started H enc FS)
end Go.Proofs.Ytgmcojnhpedpnaa
