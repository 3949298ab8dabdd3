/- The law NavChecks returns true for every input of bulk at most 1048576: nav.Check and nav.Lacks agree with the references. -/
import Derived.Test.YtbhkpepinogigaaGreatFrmB
import Derived.Test.YtbhkpepinogigaaGreatNav2
import Derived.Test.YtbhkpepinogigaaGreatSamf
namespace Go.Proofs.YtbhkpepinogigaaGreat
open Go.ChangeShapes Go.WideShapes Go.ChangeAt Go.RowKit

set_option maxRecDepth 100000 in
set_option maxHeartbeats 4000000 in
theorem law_NavChecks (w : World) (cs : List Value) (f : Frm) (hf : RFrm w (old w) cs f) (Vb : Option Addr) (nv cv : Nat) (V : List Val) (hnv : inB 32 nv) (hcv : nv ≤ cv) (hV : Sl w (old w) 3 RVal Vb nv V)
    (cs2 : List Value) (x : Wlk) (hx : RWlk w (old w) cs2 x) (at_ : Int) (_ : inI at_) (hb : f.bulk ≤ 1048576) (_ : (V.map fun v : Val => v.s.size + 1).sum + 1 ≤ 1048576) (_ : x.bulk ≤ 1048576) :
    Calls Tryz.prog 4 #[.agg cs.toArray, .slice Vb nv cv, .agg cs2.toArray, .int .i64 at_] w fun e w' => e = .returned (.bool true) ∧ Below w.heap.size w w' := by
  obtain ⟨A, n, c, A2, n2, c2, rfl, hX, hO⟩ := hf.parts hb
  obtain ⟨hia, Q, q, cq, rfl, hq8, hcq, hQ⟩ := hx
  have hY : RVp w Vb nv cv V Q q cq x.path := ⟨hnv, hcv, hq8, hcq, hV, hQ⟩
  have hY0 : RVp w Vb nv cv V none 0 0 [] := ⟨hnv, hcv, by unfold inB; omega, Nat.le_refl _, hV, Sl.nil⟩
  have h1 := fun w h h' => nav_Check A n c f.fields A2 n2 c2 f.pages Vb nv cv V x Q q cq w h hO h' hia
  have h2 := fun w h h' => nav_Lacks A n c f.fields A2 n2 c2 f.pages Vb nv cv V at_ w h hO h'
  have h3 := fun w h h' => ref_WalkFault A n c f.fields A2 n2 c2 f.pages Vb nv cv V x Q q cq w h hO h' hia
  have h4 := fun w h h' => ref_WalkLacks A n c f.fields A2 n2 c2 f.pages Vb nv cv V at_ w h hO h'
  have hli : ∀ s ∈ (lackR f.fields f.pages V at_).1, inS s := by
    intro s hs
    by_cases he : walkErr f.fields f.pages V ⟨0, [], false⟩ = 0
    · by_cases ha : at_ < 0 ∨ (f.pages.length : Int) ≤ at_
      · rw [lackR_out he ha] at hs; cases hs
      · obtain ⟨k, rfl⟩ : ∃ k : Nat, at_ = k := ⟨at_.toNat, by omega⟩
        have hp : f.pages[k]? = some (f.pages[k]'(by omega)) := List.getElem?_eq_getElem _
        rw [lackR_in he hp] at hs
        exact lackL_in (pag_fields hX.2.2.2.2.2 _ (List.mem_of_getElem? hp)) s hs
    · rw [lackR_err he] at hs; cases hs
  have hll : (lackR f.fields f.pages V at_).1.length ≤ 14 := lackR_len (by rw [hX.2.2.2.2.2.len]; exact hX.2.2.1.l (by decide))
  have HX := Lib.hid (And.intro hX (And.intro hY (And.intro hY0 hli)))
  clear hX hO hY hY0 hli hq8 hQ hV hnv hcv hcq hb hia
  generalize walkErr f.fields f.pages V x = er at *
  generalize (lackR f.fields f.pages V at_).2 = e2 at *
  generalize (lackR f.fields f.pages V at_).1 = l at *
  go_enter Tryz.func4, Tryz.ntmps4
  go_wp2_with fail
  refine (h1 _ (HX.out.1.now bel) (HX.out.2.1.now bel)).mono ?_; rintro e w1 ⟨rfl, hb1⟩; obtain ⟨hc1, hf1⟩ := bcell hb1; (try simp only [World.heap_drewN, World.cell?_drewN, World.frozen?_drewN] at hc1 hf1); have hz1 := hb1.size; (try simp at hz1); (try (have hy1 := Nat.lt_of_succ_le hz1)); (try (have hx1 := Nat.lt_of_succ_lt hy1)); refine szz w1 w ?_; intros
  go_wp2_with fail
  refine (h2 _ (HX.out.1.now bel) (HX.out.2.2.1.now bel)).mono ?_; rintro e w2 ⟨v2, rfl, ho2, hb2⟩; obtain ⟨B2, d2, rfl, hd2, hs2⟩ := ownStr ho2 rfl HX.out.2.2.2; obtain ⟨hc2, hf2⟩ := bcell hb2; (try simp only [World.heap_drewN, World.cell?_drewN, World.frozen?_drewN] at hc2 hf2); have hz2 := hb2.size; (try simp at hz2); (try (have hy2 := Nat.lt_of_succ_le hz2)); (try (have hx2 := Nat.lt_of_succ_lt hy2)); refine szz w2 w ?_; intros; refine szz w2 w1 ?_; intros
  have HS2 := Lib.hid hs2
  clear ho2 hs2
  go_wp2_with fail
  refine (h3 _ (HX.out.1.now bel) (HX.out.2.1.now bel)).mono ?_; rintro e w3 ⟨rfl, hb3⟩; obtain ⟨hc3, hf3⟩ := bcell hb3; (try simp only [World.heap_drewN, World.cell?_drewN, World.frozen?_drewN] at hc3 hf3); have hz3 := hb3.size; (try simp at hz3); (try (have hy3 := Nat.lt_of_succ_le hz3)); (try (have hx3 := Nat.lt_of_succ_lt hy3)); refine szz w3 w ?_; intros; refine szz w3 w1 ?_; intros; refine szz w3 w2 ?_; intros
  go_wp2_with fail
  refine (h4 _ (HX.out.1.now bel) (HX.out.2.2.1.now bel)).mono ?_; rintro e w4 ⟨v4, rfl, ho4, hb4⟩; obtain ⟨B4, d4, rfl, hd4, hs4⟩ := ownStr ho4 rfl HX.out.2.2.2; obtain ⟨hc4, hf4⟩ := bcell hb4; (try simp only [World.heap_drewN, World.cell?_drewN, World.frozen?_drewN] at hc4 hf4); have hz4 := hb4.size; (try simp at hz4); (try (have hy4 := Nat.lt_of_succ_le hz4)); (try (have hx4 := Nat.lt_of_succ_lt hy4)); refine szz w4 w ?_; intros; refine szz w4 w1 ?_; intros; refine szz w4 w2 ?_; intros; refine szz w4 w3 ?_; intros
  have HS4 := Lib.hid hs4
  clear ho4 hs4
  go_wp2_with fail
  refine (same_Texts B2 B4 _ d2 _ d4 l _ _ _ (by omega) (HS2.out.keep (w' := w4) (fun b hq => (bel : Below w2.heap.size w2 w4).block b hq) (fun _ _ h => h.1)) (HS4.out.keep (w' := w4) (fun b hq => rfl) (fun _ _ h => h.1))).mono ?_; rintro e w7 ⟨rfl, k7, rfl⟩
  go_wp2_with fail
  go_ret
  exact ⟨rfl, bel⟩
set_option maxRecDepth 100000 in
theorem NavChecksUpto_lifted (os : Os) (started : os.Started) (H : Type) (enc : TypeId × Value → H) (FS : Stop.Interp) :
    ReturnsInHanded {} Tryz.checked os 4 .any ((Rows.OpenSpec.upto Rows.navChecksSpec).pre6 enc Tryz.checked.prog Tryz.f4 Rows.navChecksUptoRow.domain false) (((Rows.OpenSpec.upto Rows.navChecksSpec).at FS).post enc Tryz.checked.prog Tryz.f4 false true false false) := by
  refine law_lifted_upto (s := Rows.navChecksSpec) (FS := FS) started (by kernel_rfl) Tryz.func4 (by rw [Tryz.params4]; exact of_decide_eq_true (by kernel_rfl)) rfl rfl
    (fun ds hl => by rw [show Tryz.f4.params.size = 4 from rfl] at hl; match ds, hl with | [d0, d1, d2, d3], _ => rfl)
    (OpenSpec.witness (enc := enc) (C := Tryz.checked) (s := Rows.OpenSpec.upto Rows.navChecksSpec) (k := Rows.uptoSmall) rfl false ⟨#[], #[.agg #[.slice none 0 0, .slice none 0 0], .slice none 0 0, .agg #[.int .i64 0, .slice none 0 0, .bool false], .int .i64 0], []⟩ 8 (by kernel_rfl) (by kernel_rfl) (by kernel_rfl) (x := ([.agg [.nil, .nil], .nil, .agg [.lit (.int .i64 0), .nil, .lit (.bool false)], .lit (.int .i64 0)], [], [])) (by kernel_rfl) rfl (by kernel_rfl)) ?_
  intro W b args ds p hA hval hsz hbulk
  rw [Tryz.params4] at hA hval hsz
  obtain ⟨v0, vs0, d0, ds0, p0, q0, hargs, rfl, rfl, h0, r0⟩ := trodAll_cons hA
  obtain ⟨v1, vs1, d1, ds1, p1, q1, rfl, rfl, rfl, h1, r1⟩ := trodAll_cons r0
  obtain ⟨v2, vs2, d2, ds2, p2, q2, rfl, rfl, rfl, h2, r2⟩ := trodAll_cons r1
  obtain ⟨v3, vs3, d3, ds3, p3, q3, rfl, rfl, rfl, h3, r3⟩ := trodAll_cons r2
  obtain ⟨rfl, rfl, rfl⟩ := trodAll_nil r3
  have hargs' : args = #[v0, v1, v2, v3] := by apply Array.toList_inj.1; simpa using hargs
  subst hargs'
  have w0 := weightsEach_at _ _ hsz 0 _ _ rfl rfl
  obtain ⟨cs0, a0, rfl, s0, m0⟩ := arg_struct dec_Frm Tryz.underlying32 (hval 0 32 _ rfl rfl) h0 w0
  have w1 := weightsEach_at _ _ hsz 1 _ _ rfl rfl
  obtain ⟨A1, n1, c1, l1, rfl, i1, k1, s1, m1⟩ := arg_sl dec_Vals Tryz.underlying33 (hval 1 33 _ rfl rfl) h1 w1
  have w2 := weightsEach_at _ _ hsz 2 _ _ rfl rfl
  obtain ⟨cs2, a2, rfl, s2, m2⟩ := arg_struct dec_Wlk Tryz.underlying35 (hval 2 35 _ rfl rfl) h2 w2
  have w3 := weightsEach_at _ _ hsz 3 _ _ rfl rfl
  obtain ⟨a3, rfl, i3⟩ := arg_int Tryz.underlying3 (hval 3 3 _ rfl rfl) h3
  simp only [Rows.uptoBulkAll] at hbulk
  exact law_NavChecks W cs0 a0 s0 A1 n1 c1 l1 i1 k1 s1 cs2 a2 s2 a3 i3 (Nat.le_trans m0 (by omega)) (Nat.le_trans m1 (by omega)) (Nat.le_trans m2 (by omega))
theorem NavChecksUpto_holds : Rows.NavChecksUptoSaid :=
  OpenClaim.holds_of_cond 4 Tryz.f4 rfl rfl rfl rfl rfl rfl rfl ⟨rfl, rfl, rfl, rfl, rfl⟩ rfl rfl rfl rfl rfl (by kernel_rfl) Tryz.func4 (by kernel_rfl)
    (of_decide_eq_true (by kernel_rfl)) (by unfold Func.isWrapper; rw [if_neg (of_decide_eq_false (by kernel_rfl))]; exact ⟨rfl, rfl⟩)
    (fun os started H enc _ FS => NavChecksUpto_lifted os started H enc FS)
end Go.Proofs.YtbhkpepinogigaaGreat
