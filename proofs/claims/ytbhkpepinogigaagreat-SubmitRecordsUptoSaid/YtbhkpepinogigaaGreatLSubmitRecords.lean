/- The law SubmitRecords returns true for every input of bulk at most 1048576: submit.Record agrees with the reference. -/
import Derived.Test.YtbhkpepinogigaaGreatFrmB
import Derived.Test.YtbhkpepinogigaaGreatRec1
import Derived.Test.YtbhkpepinogigaaGreatRec2
namespace Go.Proofs.YtbhkpepinogigaaGreat
open Go.ChangeShapes Go.WideShapes Go.ChangeAt Go.RowKit

set_option maxRecDepth 100000 in
set_option maxHeartbeats 4000000 in
theorem law_SubmitRecords (w : World) (cs : List Value) (f : Frm) (hf : RFrm w (old w) cs f) (Vb : Option Addr) (nv cv : Nat) (V : List Val) (hnv : inB 32 nv) (hcv : nv ≤ cv) (hV : Sl w (old w) 3 RVal Vb nv V)
    (cs2 : List Value) (x : Wlk) (hx : RWlk w (old w) cs2 x) (hb : f.bulk ≤ 1048576) (_ : (V.map fun v : Val => v.s.size + 1).sum + 1 ≤ 1048576) (_ : x.bulk ≤ 1048576) :
    Calls Tryz.prog 5 #[.agg cs.toArray, .slice Vb nv cv, .agg cs2.toArray] w fun e w' => e = .returned (.bool true) ∧ Below w.heap.size w w' := by
  obtain ⟨A, n, c, A2, n2, c2, rfl, hX, hO⟩ := hf.parts hb
  obtain ⟨hia, Q, q, cq, rfl, hq8, hcq, hQ⟩ := hx
  have hY : RVp w Vb nv cv V Q q cq x.path := ⟨hnv, hcv, hq8, hcq, hV, hQ⟩
  have h1 := fun w h h' => submit_Record A n c f.fields A2 n2 c2 f.pages Vb nv cv V x Q q cq w h hO h' hia
  have h2 := fun w h h' => ref_RecordOf A n c f.fields A2 n2 c2 f.pages Vb nv cv V x Q q cq w h hO h' hia
  have hli : ∀ a ∈ (recR f.fields f.pages V x).1, a.wf := recR_in (Sl.all_wf hV fun _ _ h => h.2) (pag_fields hX.2.2.2.2.2)
  have hll := recR_len (F := f.fields) (P := f.pages) (V := V) x
  have HX := Lib.hid (And.intro hX (And.intro hY hli))
  clear hX hO hY hli hq8 hQ hV hnv hcv hcq hb hia
  generalize (recR f.fields f.pages V x).2 = e2 at *
  generalize (recR f.fields f.pages V x).1 = l at *
  go_enter Tryz.func5, Tryz.ntmps5
  go_wp2_with fail
  refine (h1 _ (HX.out.1.now bel) (HX.out.2.1.now bel)).mono ?_; rintro e w1 ⟨v1, rfl, ho1, hb1⟩; obtain ⟨B1, d1, rfl, hd1, hs1⟩ := ownFct ho1 rfl HX.out.2.2; obtain ⟨hc1, hf1⟩ := bcell hb1; (try simp only [World.heap_drewN, World.cell?_drewN, World.frozen?_drewN] at hc1 hf1); have hz1 := hb1.size; (try simp at hz1); (try (have hy1 := Nat.lt_of_succ_le hz1)); (try (have hx1 := Nat.lt_of_succ_lt hy1)); refine szz w1 w ?_; intros
  have HS1 := Lib.hid hs1
  clear ho1 hs1
  go_wp2_with fail
  refine (h2 _ (HX.out.1.now bel) (HX.out.2.1.now bel)).mono ?_; rintro e w2 ⟨v2, rfl, ho2, hb2⟩; obtain ⟨B2, d2, rfl, hd2, hs2⟩ := ownFct ho2 rfl HX.out.2.2; obtain ⟨hc2, hf2⟩ := bcell hb2; (try simp only [World.heap_drewN, World.cell?_drewN, World.frozen?_drewN] at hc2 hf2); have hz2 := hb2.size; (try simp at hz2); (try (have hy2 := Nat.lt_of_succ_le hz2)); (try (have hx2 := Nat.lt_of_succ_lt hy2)); refine szz w2 w ?_; intros; refine szz w2 w1 ?_; intros
  have HS2 := Lib.hid hs2
  clear ho2 hs2
  have hil : inL l.length := by unfold inL; omega
  go_wp2_with fail
  refine (same_Facts B1 _ d1 l B2 _ d2 l _ hil hil (HS1.out.now bel) (HS2.out.now bel)).mono ?_; rintro e w5 ⟨rfl, hb5⟩
  rw [decide_eq_true rfl]
  go_wp2_with fail
  go_ret
  exact ⟨rfl, bel⟩
set_option maxRecDepth 100000 in
theorem SubmitRecordsUpto_lifted (os : Os) (started : os.Started) (H : Type) (enc : TypeId × Value → H) (FS : Stop.Interp) :
    ReturnsInHanded {} Tryz.checked os 5 .any ((Rows.OpenSpec.upto Rows.submitRecordsSpec).pre6 enc Tryz.checked.prog Tryz.f5 Rows.submitRecordsUptoRow.domain false) (((Rows.OpenSpec.upto Rows.submitRecordsSpec).at FS).post enc Tryz.checked.prog Tryz.f5 false true false false) := by
  refine law_lifted_upto (s := Rows.submitRecordsSpec) (FS := FS) started (by kernel_rfl) Tryz.func5 (by rw [Tryz.params5]; exact of_decide_eq_true (by kernel_rfl)) rfl rfl
    (fun ds hl => by rw [show Tryz.f5.params.size = 3 from rfl] at hl; match ds, hl with | [d0, d1, d2], _ => rfl)
    (OpenSpec.witness (enc := enc) (C := Tryz.checked) (s := Rows.OpenSpec.upto Rows.submitRecordsSpec) (k := Rows.uptoSmall) rfl false ⟨#[], #[.agg #[.slice none 0 0, .slice none 0 0], .slice none 0 0, .agg #[.int .i64 0, .slice none 0 0, .bool false]], []⟩ 8 (by kernel_rfl) (by kernel_rfl) (by kernel_rfl) (x := ([.agg [.nil, .nil], .nil, .agg [.lit (.int .i64 0), .nil, .lit (.bool false)]], [], [])) (by kernel_rfl) rfl (by kernel_rfl)) ?_
  intro W b args ds p hA hval hsz hbulk
  rw [Tryz.params5] at hA hval hsz
  obtain ⟨v0, vs0, d0, ds0, p0, q0, hargs, rfl, rfl, h0, r0⟩ := trodAll_cons hA
  obtain ⟨v1, vs1, d1, ds1, p1, q1, rfl, rfl, rfl, h1, r1⟩ := trodAll_cons r0
  obtain ⟨v2, vs2, d2, ds2, p2, q2, rfl, rfl, rfl, h2, r2⟩ := trodAll_cons r1
  obtain ⟨rfl, rfl, rfl⟩ := trodAll_nil r2
  have hargs' : args = #[v0, v1, v2] := by apply Array.toList_inj.1; simpa using hargs
  subst hargs'
  have w0 := weightsEach_at _ _ hsz 0 _ _ rfl rfl
  obtain ⟨cs0, a0, rfl, s0, m0⟩ := arg_struct dec_Frm Tryz.underlying32 (hval 0 32 _ rfl rfl) h0 w0
  have w1 := weightsEach_at _ _ hsz 1 _ _ rfl rfl
  obtain ⟨A1, n1, c1, l1, rfl, i1, k1, s1, m1⟩ := arg_sl dec_Vals Tryz.underlying33 (hval 1 33 _ rfl rfl) h1 w1
  have w2 := weightsEach_at _ _ hsz 2 _ _ rfl rfl
  obtain ⟨cs2, a2, rfl, s2, m2⟩ := arg_struct dec_Wlk Tryz.underlying35 (hval 2 35 _ rfl rfl) h2 w2
  simp only [Rows.uptoBulkAll] at hbulk
  exact law_SubmitRecords W cs0 a0 s0 A1 n1 c1 l1 i1 k1 s1 cs2 a2 s2 (Nat.le_trans m0 (by omega)) (Nat.le_trans m1 (by omega)) (Nat.le_trans m2 (by omega))
theorem SubmitRecordsUpto_holds : Rows.SubmitRecordsUptoSaid :=
  OpenClaim.holds_of_cond 5 Tryz.f5 rfl rfl rfl rfl rfl rfl rfl ⟨rfl, rfl, rfl, rfl, rfl⟩ rfl rfl rfl rfl rfl (by kernel_rfl) Tryz.func5 (by kernel_rfl)
    (of_decide_eq_true (by kernel_rfl)) (by unfold Func.isWrapper; rw [if_neg (of_decide_eq_false (by kernel_rfl))]; exact ⟨rfl, rfl⟩)
    (fun os started H enc _ FS => SubmitRecordsUpto_lifted os started H enc FS)
end Go.Proofs.YtbhkpepinogigaaGreat
