/- The law WholeAlls returns true for every input of bulk at most 1048576: whole.Check and whole.All agree with the references. -/
import Derived.Test.YtbhkpepinogigaaGreatFrmB
import Derived.Test.YtbhkpepinogigaaGreatWhl3
namespace Go.Proofs.YtbhkpepinogigaaGreat
open Go.ChangeShapes Go.WideShapes Go.ChangeAt Go.RowKit

set_option maxRecDepth 100000 in
set_option maxHeartbeats 4000000 in
theorem law_WholeAlls (w : World) (cs : List Value) (f : Frm) (hf : RFrm w (old w) cs f) (A1 : Option Addr) (n1 c1 : Nat) (ins : List Fct) (hn1 : inB 80 n1) (hc1 : n1 ≤ c1) (hs1 : Sl w (old w) 7 RFct A1 n1 ins)
    (A2 : Option Addr) (n2 c2 : Nat) (orc : List Fct) (hn2 : inB 80 n2) (hc2 : n2 ≤ c2) (hs2 : Sl w (old w) 7 RFct A2 n2 orc) (hb : f.bulk ≤ 1048576)
    (_ : (ins.map fun v : Fct => v.name.size + v.key.s.size + v.has.s.size + 1).sum + 1 ≤ 1048576) (_ : (orc.map fun v : Fct => v.name.size + v.key.s.size + v.has.s.size + 1).sum + 1 ≤ 1048576) :
    Calls Tryz.prog 7 #[.agg cs.toArray, .slice A1 n1 c1, .slice A2 n2 c2] w fun e w' => e = .returned (.bool true) ∧ Below w.heap.size w w' := by
  obtain ⟨A, n, c, A3, n3, c3, rfl, hX, hO⟩ := hf.parts hb
  have hY : RIO w A1 n1 c1 ins A2 n2 c2 orc := ⟨hn1, hc1, hn2, hc2, hs1, hs2⟩
  have h1 := fun w h h' => whole_Check A n c f.fields A3 n3 c3 f.pages A1 n1 c1 ins A2 n2 c2 orc w h hO h'
  have h2 := fun w h h' => whole_All A n c f.fields A3 n3 c3 f.pages A1 n1 c1 ins A2 n2 c2 orc w h hO h'
  have h3 := fun w h h' => ref_ToldFault A n c f.fields A3 n3 c3 f.pages A1 n1 c1 ins A2 n2 c2 orc w h hO h'
  have h4 := fun w h h' => ref_AllOf A n c f.fields A3 n3 c3 f.pages A1 n1 c1 ins A2 n2 c2 orc w h hO h'
  have hli : ∀ a ∈ (allR f.fields f.pages ins orc).1, a.wf := by
    intro a ha
    unfold allR at ha
    split at ha
    · cases ha
    · rename_i he
      exact val_wf (finV_ok (toldErr_ok (by simpa using he)) a ha)
  have hll : (allR f.fields f.pages ins orc).1.length ≤ 14 := by
    unfold allR
    split
    · exact Nat.zero_le _
    · rename_i he
      have hk := toldErr_ok (F := f.fields) (P := f.pages) (ins := ins) (orc := orc) (by simpa using he)
      show (finV f.fields ins orc).length ≤ 14
      rw [finV_len]
      exact (fieldsErr_all (rankR_zero hk.1).1).1
  have HX := Lib.hid (And.intro hX (And.intro hY hli))
  clear hX hO hY hli hn1 hc1 hs1 hn2 hc2 hs2 hb
  generalize toldErr f.fields f.pages ins orc = er at *
  generalize (allR f.fields f.pages ins orc).2 = e2 at *
  generalize (allR f.fields f.pages ins orc).1 = l at *
  go_enter Tryz.func7, Tryz.ntmps7
  go_wp2_with fail
  refine (h1 _ (HX.out.1.now bel) (HX.out.2.1.now bel)).mono ?_; rintro e w1 ⟨rfl, hb1⟩; obtain ⟨hc1, hf1⟩ := bcell hb1; (try simp only [bqh, bqc, bqf] at hc1 hf1); have hz1 := hb1.size; (try simp at hz1); (try have hy1 := nl1 hz1); (try have hx1 := nl2 hy1); refine szz w1 w ?_; intros
  go_wp2_with fail
  refine (h2 _ (HX.out.1.now bel) (HX.out.2.1.now bel)).mono ?_; rintro e w2 ⟨v2, rfl, ho2, hb2⟩; obtain ⟨B2, d2, rfl, hd2, hs2⟩ := ownValR ho2 rfl HX.out.2.2; obtain ⟨hc2, hf2⟩ := bcell hb2; (try simp only [bqh, bqc, bqf] at hc2 hf2); have hz2 := hb2.size; (try simp at hz2); (try have hy2 := nl1 hz2); (try have hx2 := nl2 hy2); refine szz w2 w ?_; intros; refine szz w2 w1 ?_; intros
  have HS2 := Lib.hid hs2
  clear ho2 hs2
  go_wp2_with fail
  refine (h3 _ (HX.out.1.now bel) (HX.out.2.1.now bel)).mono ?_; rintro e w3 ⟨rfl, hb3⟩; obtain ⟨hc3, hf3⟩ := bcell hb3; (try simp only [bqh, bqc, bqf] at hc3 hf3); have hz3 := hb3.size; (try simp at hz3); (try have hy3 := nl1 hz3); (try have hx3 := nl2 hy3); refine szz w3 w ?_; intros; refine szz w3 w1 ?_; intros; refine szz w3 w2 ?_; intros
  go_wp2_with fail
  refine (h4 _ (HX.out.1.now bel) (HX.out.2.1.now bel)).mono ?_; rintro e w4 ⟨v4, rfl, ho4, hb4⟩; obtain ⟨B4, d4, rfl, hd4, hs4⟩ := ownValR ho4 rfl HX.out.2.2; obtain ⟨hc4, hf4⟩ := bcell hb4; (try simp only [bqh, bqc, bqf] at hc4 hf4); have hz4 := hb4.size; (try simp at hz4); (try have hy4 := nl1 hz4); (try have hx4 := nl2 hy4); refine szz w4 w ?_; intros; refine szz w4 w1 ?_; intros; refine szz w4 w2 ?_; intros; refine szz w4 w3 ?_; intros
  have HS4 := Lib.hid hs4
  clear ho4 hs4
  have hil : inL l.length := by unfold inL; omega
  go_wp2_with fail
  refine (same_Values B2 _ d2 l B4 _ d4 l _ hil hil (HS2.out.now bel) (HS4.out.now bel)).mono ?_; rintro e w5 ⟨rfl, hb5⟩
  rw [decide_eq_true rfl]
  go_wp2_with fail
  go_ret
  exact ⟨rfl, bel⟩
set_option maxRecDepth 100000 in
theorem WholeAllsUpto_lifted (os : Os) (started : os.Started) (H : Type) (enc : TypeId × Value → H) (FS : Stop.Interp) :
    ReturnsInHanded {} Tryz.checked os 7 .any ((Rows.OpenSpec.upto Rows.wholeAllsSpec).pre6 enc Tryz.checked.prog Tryz.f7 Rows.wholeAllsUptoRow.domain false) (((Rows.OpenSpec.upto Rows.wholeAllsSpec).at FS).post enc Tryz.checked.prog Tryz.f7 false true false false) := by
  refine law_lifted_upto (s := Rows.wholeAllsSpec) (FS := FS) started (by kernel_rfl) Tryz.func7 (by rw [Tryz.params7]; exact of_decide_eq_true (by kernel_rfl)) rfl rfl
    (fun ds hl => by rw [show Tryz.f7.params.size = 3 from rfl] at hl; match ds, hl with | [d0, d1, d2], _ => rfl)
    (OpenSpec.witness (enc := enc) (C := Tryz.checked) (s := Rows.OpenSpec.upto Rows.wholeAllsSpec) (k := Rows.uptoSmall) rfl false ⟨#[], #[.agg #[.slice none 0 0, .slice none 0 0], .slice none 0 0, .slice none 0 0], []⟩ 8 (by kernel_rfl) (by kernel_rfl) (by kernel_rfl) (x := ([.agg [.nil, .nil], .nil, .nil], [], [])) (by kernel_rfl) rfl (by kernel_rfl)) ?_
  intro W b args ds p hA hval hsz hbulk
  rw [Tryz.params7] at hA hval hsz
  obtain ⟨v0, vs0, d0, ds0, p0, q0, hargs, rfl, rfl, h0, r0⟩ := trodAll_cons hA
  obtain ⟨v1, vs1, d1, ds1, p1, q1, rfl, rfl, rfl, h1, r1⟩ := trodAll_cons r0
  obtain ⟨v2, vs2, d2, ds2, p2, q2, rfl, rfl, rfl, h2, r2⟩ := trodAll_cons r1
  obtain ⟨rfl, rfl, rfl⟩ := trodAll_nil r2
  have hargs' : args = #[v0, v1, v2] := by apply Array.toList_inj.1; simpa using hargs
  subst hargs'
  have w0 := weightsEach_at _ _ hsz 0 _ _ rfl rfl
  obtain ⟨cs0, a0, rfl, s0, m0⟩ := arg_struct dec_Frm Tryz.underlying32 (hval 0 32 _ rfl rfl) h0 w0
  have w1 := weightsEach_at _ _ hsz 1 _ _ rfl rfl
  obtain ⟨A1, n1, c1, l1, rfl, i1, k1, s1, m1⟩ := arg_sl dec_Fcts Tryz.underlying42 (hval 1 42 _ rfl rfl) h1 w1
  have w2 := weightsEach_at _ _ hsz 2 _ _ rfl rfl
  obtain ⟨A2, n2, c2, l2, rfl, i2, k2, s2, m2⟩ := arg_sl dec_Fcts Tryz.underlying42 (hval 2 42 _ rfl rfl) h2 w2
  simp only [Rows.uptoBulkAll] at hbulk
  exact law_WholeAlls W cs0 a0 s0 A1 n1 c1 l1 i1 k1 s1 A2 n2 c2 l2 i2 k2 s2 (Nat.le_trans m0 (by omega)) (Nat.le_trans m1 (by omega)) (Nat.le_trans m2 (by omega))
theorem WholeAllsUpto_holds : Rows.WholeAllsUptoSaid :=
  OpenClaim.holds_of_cond 7 Tryz.f7 rfl rfl rfl rfl rfl rfl rfl ⟨rfl, rfl, rfl, rfl, rfl⟩ rfl rfl rfl rfl rfl (by kernel_rfl) Tryz.func7 (by kernel_rfl)
    (of_decide_eq_true (by kernel_rfl)) (by unfold Func.isWrapper; rw [if_neg (of_decide_eq_false (by kernel_rfl))]; exact ⟨rfl, rfl⟩)
    (fun os started H enc _ FS => WholeAllsUpto_lifted os started H enc FS)
end Go.Proofs.YtbhkpepinogigaaGreat
