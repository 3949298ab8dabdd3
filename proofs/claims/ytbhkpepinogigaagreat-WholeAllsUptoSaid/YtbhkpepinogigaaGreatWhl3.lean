/- The reference AllOf. -/
import Derived.Test.YtbhkpepinogigaaGreatWhl2
namespace Go.Proofs.YtbhkpepinogigaaGreat
open Go.RowKit

theorem rnds_next {F : List Fld} {ins orc : List Fct} {k j : Nat} {f : Fld} (hf : (F)[j]? = some f) : (rnds F ins orc (k + 1)).take (j + 1) = (rnds F ins orc (k + 1)).take j ++ [oneV f ins orc (namedF F (rnds F ins orc k))] := by
  rw [List.take_add_one, rnds_at hf]; rfl
theorem namedF_wf {F : List Fld} {vs : List Val} (hF : ∀ f ∈ F, inS f.name) (hv : ∀ v ∈ vs, v.wf) : ∀ a ∈ namedF F vs, a.wf := by
  intro a ha
  obtain ⟨i, f, v, hf, hq, rfl⟩ := namedF_mem ha
  exact ⟨hF f (List.mem_of_getElem? hf), noVal_wf, hv v (List.mem_of_getElem? hq)⟩
set_option maxRecDepth 100000 in
set_option maxHeartbeats 4000000 in
theorem ref_AllOf (B : Option Addr) (m d : Nat) (F : List Fld) (A : Option Addr) (n c : Nat) (P : List Pag) (A1 : Option Addr) (n1 c1 : Nat) (ins : List Fct) (A2 : Option Addr) (n2 c2 : Nat) (orc : List Fct) (w : World)
    (hX : RFo w B m d F A n c P) (hO : FldsOk F) (hY : RIO w A1 n1 c1 ins A2 n2 c2 orc) :
    Calls Tryz.prog 35 #[.agg #[.slice B m d, .slice A n c], .slice A1 n1 c1, .slice A2 n2 c2] w (OwnRowC Val.cs 73 3 w (allR F P ins orc).1 (allR F P ins orc).2) := by
  have h1 := fun w h h' => ref_ToldFault B m d F A n c P A1 n1 c1 ins A2 n2 c2 orc w h hO h'
  have hml := hX.2.2.2.2.1.len
  have HX := Lib.hid (And.intro hX hY)
  by_cases he : toldErr F P ins orc = 0
  · have hok := toldErr_ok he
    have hfn := hO.2
    have h14 : m ≤ 14 := by rw [← hml]; exact (fieldsErr_all (rankR_zero hok.1).1).1
    have hra : allR F P ins orc = (rnds F ins orc m, 0) := by unfold allR; rw [if_neg (by simpa using he)]; unfold finV; rw [hml]
    rw [hra]
    rw [he] at h1
    obtain ⟨i0, ei, ez0, ez1, ez2⟩ := info_parts Tryz.infoValR
    have hwf : ∀ k, ∀ v ∈ rnds F ins orc k, v.wf := fun k v hv => val_wf (rnds_ok hok k v hv)
    have hnw : ∀ k, ∀ a ∈ namedF F (rnds F ins orc k), a.wf := fun k => namedF_wf (fun f hf => (hfn f hf).1) (hwf k)
    have hrl : ∀ k, (rnds F ins orc k).length = m := fun k => by rw [rnds_len, hml]
    have hnl : ∀ k, (namedF F (rnds F ins orc k)).length = m := fun k => by rw [namedF_len (rnds_len F ins orc k), hml]
    have HE := Lib.hid (And.intro hml (And.intro hwf (And.intro hnw (And.intro hrl hnl))))
    clear hX hY he hml hok hra hO hfn hwf hnw hrl hnl
    go_enter Tryz.func35, Tryz.ntmps35
    go_wp2_with (go_at_call 34; refine (h1 _ (HX.out.1.now bel) (HX.out.2.now bel)).mono ?_; rintro e w1 ⟨rfl, hb1⟩; obtain ⟨hc1, hf1⟩ := bcell hb1; (try simp only [bqh, bqc, bqf] at hc1 hf1); have hz1 := hb1.size; (try simp at hz1); (try have hy1 := nl1 hz1); (try have hx1 := nl2 hy1); refine szz w1 w ?_; intros)
    have hB1 : Below w.heap.size w w1 := bel
    have hlw : w.heap.size < w1.heap.size := by have := hb1.size; simp at this; omega
    have q0 : w1.cell? ⟨w.heap.size, 0, none⟩ = some (.slice B m d) := (hb1.cell (p := ⟨w.heap.size, 0, none⟩) (by simp)).trans (by go_simp)
    clear hb1 h1
    go_loopw [9, 24] (fun v i wr => ∃ j : Nat, j ≤ m ∧ i = .int .i64 j ∧ Hid (wr.ownsRow w1.heap.size 73 3 v j ((List.replicate j pendV).flatMap Val.cs)) ∧ Below w1.heap.size w1 wr) (fun _ i _ => m - (intOf i).toNat)
    case atStart => exact ⟨0, by omega, rfl, Lib.hid (by simpa using World.ownsRow_nil _ _ _ _), Below.refl _ _⟩
    case round =>
      obtain ⟨j, hj, rfl, hown, hbr⟩ := hrel
      have hBr : Below w.heap.size w wr := below_step hB1 hbr (by omega)
      have r0 := cell_keep q0 hbr
      have hlr : w.heap.size < wr.heap.size := Nat.lt_of_lt_of_le hlw hbr.size
      by_cases hlt : j < m
      · have hji : (j : Int) < (m : Int) := by omega
        go_wp2_with (at_builtin; refine wpList_append1 rfl _ _ 33 rfl w1.heap.size 73 i0 _ 3 32 Tryz.underlying33 ei ez0 ez1 ez2 rfl (by decide) _ j _ rfl hown.out pendV.cs 73 rfl _ rfl (by first | rfl | simp) rfl (by simp [Value.oneCell']) (by omega) (by unfold maxLen; omega) (by have := hbr.size; first | omega | (simp; omega)) ?_; intro v6 w6 hown6 hb6 hz6 _)
        go_roundw
        case rel => exact ⟨j + 1, by omega, by go_num, Lib.hid (by rw [List.replicate_succ', List.flatMap_append]; simpa using hown6), below_step hbr hb6 (Nat.le_refl _)⟩
        case measure => simp [intOf]; omega
      · have hke : j = m := by omega
        subst hke
        have ho : Hid (wr.ownsRow w1.heap.size 73 3 u9 j ((rnds F ins orc 0).flatMap Val.cs)) := Lib.hid (by rw [rnds, HE.out.1]; exact hown.out)
        clear hown
        go_wp2_with fail
        generalize hwq : wr = wq at *
        clear hwq
        go_loopw [9, 34] (fun v i wr => ∃ k : Nat, k ≤ j ∧ i = .int .i64 k ∧ Hid (wr.ownsRow w1.heap.size 73 3 v j ((rnds F ins orc k).flatMap Val.cs)) ∧ Below w1.heap.size w1 wr) (fun _ i _ => j - (intOf i).toNat)
        case atStart => exact ⟨0, by omega, rfl, ho, hbr⟩
        case round =>
          obtain ⟨k, hk, rfl, hown, hbr2⟩ := hrel
          have hBr2 : Below w.heap.size w wr := below_step hB1 hbr2 (by omega)
          have s0 := cell_keep q0 hbr2
          have hlr2 : w.heap.size < wr.heap.size := Nat.lt_of_lt_of_le hlw hbr2.size
          by_cases hlt : k < j
          · have hki : (k : Int) < (j : Int) := by omega
            obtain ⟨A9, c9, hv9, hc9, hs9⟩ := ownValR hown.out (HE.out.2.2.2.1 k) (HE.out.2.1 k)
            subst hv9
            have h2 := fun w h h' => ref_named B j d F A9 c9 (rnds F ins orc k) w h14 h h'
            have HS9 := Lib.hid hs9
            clear hs9
            go_wp2_with (go_at_call 78; refine (h2 _ (HX.out.1.2.2.2.2.1.nowN keeps_Fld (show Below w.heap.size w _ from bel)) (HS9.out.now bel)).mono ?_; rintro e w4 ⟨v4, rfl, ho4, hb4⟩; rw [HE.out.2.2.2.2 k] at ho4; obtain ⟨A10, c10, rfl, hc10, hs10⟩ := ownFct ho4 (HE.out.2.2.2.2 k) (HE.out.2.2.1 k); obtain ⟨hc4, hf4⟩ := bcell hb4; (try simp only [bqh, bqc, bqf] at hc4 hf4); have hz4 := hb4.size; (try simp at hz4); (try have hy4 := nl1 hz4); (try have hx4 := nl2 hy4); refine szz w4 wr ?_; intros)
            have HS10 := Lib.hid hs10
            have hb14 : Below w1.heap.size w1 w4 := below_step hbr2 (show Below wr.heap.size wr w4 from bel) hbr2.size
            have hB4 : Below w.heap.size w w4 := below_step hB1 hb14 (by omega)
            have t0 := cell_keep q0 hb14
            have hl4 : w.heap.size < w4.heap.size := Nat.lt_of_lt_of_le hlw hb14.size
            clear hs10 ho4 h2
            generalize hwq2 : wr = wq2 at *
            clear hwq2
            go_loopw [11, 43] (fun v i wr => ∃ p : Nat, p ≤ j ∧ i = .int .i64 p ∧ Hid (wr.ownsRow w4.heap.size 73 3 v p (((rnds F ins orc (k + 1)).take p).flatMap Val.cs)) ∧ Below w4.heap.size w4 wr) (fun _ i _ => j - (intOf i).toNat)
            case atStart => exact ⟨0, by omega, rfl, Lib.hid (by simpa using World.ownsRow_nil _ _ _ _), Below.refl _ _⟩
            case round =>
              obtain ⟨p, hp, rfl, hown3, hbr3⟩ := hrel
              have hBr3 : Below w.heap.size w wr := below_step hB4 hbr3 (by omega)
              by_cases hlt3 : p < j
              · have hpi : (p : Int) < (j : Int) := by omega
                obtain ⟨b2, o2, f, X, C, hBe, hbl2, hlf, hrep, x0, x1, x2, x3, x4, x5, x6, x7, x8⟩ := Fld_at (HX.out.1.2.2.2.2.1.nowN keeps_Fld hBr3) hlt3
                have HBE := Lib.hid hBe
                subst hBe
                have hbl2' : b2 < wr.heap.size := hbl2
                have h3 := fun w hr k1 k2 k3 => ref_OneOf f X C A1 n1 c1 ins A2 n2 c2 orc A10 j c10 (namedF F (rnds F ins orc k)) w (HX.out.2.1.l (by decide)) (HX.out.2.2.2.1.l (by decide)) (by unfold inL; omega) hr k1 k2 k3
                have hnx := rnds_next (ins := ins) (orc := orc) (k := k) hlf
                generalize hvq : oneV f ins orc (namedF F (rnds F ins orc k)) = vq at *
                have HN := Lib.hid (And.intro hnx hrep)
                clear hnx hrep hvq hlf hbl2
                go_wp2_with (first
                  | (go_at_call 84; refine (h3 _ (HN.out.2.now bel) (HX.out.2.2.2.2.2.1.now (show Below w.heap.size w _ from bel)) (HX.out.2.2.2.2.2.2.now (show Below w.heap.size w _ from bel)) (HS10.out.now (show Below w4.heap.size w4 _ from bel))).mono ?_; rintro e w5 ⟨rfl, hb5⟩; obtain ⟨hc5, hf5⟩ := bcell hb5; (try simp only [bqh, bqc, bqf] at hc5 hf5); have hz5 := hb5.size; (try simp at hz5); (try have hy5 := nl1 hz5); (try have hx5 := nl2 hy5); refine szz w5 wr ?_; intros)
                  | (at_builtin; refine wpList_append1 rfl _ _ 33 rfl w4.heap.size 73 i0 _ 3 32 Tryz.underlying33 ei ez0 ez1 ez2 rfl (by decide) _ p _ rfl (ownsRow_keep hown3.out (show Below wr.heap.size wr w5 from bel)) vq.cs 73 rfl _ rfl (by first | rfl | simp) rfl (by simp [Value.oneCell']) (by omega) (by unfold maxLen; omega) (by have := hbr3.size; first | omega | (simp; omega)) ?_; intro v6 w6 hown6 hb6 hz6 _))
                go_roundw
                case rel => exact ⟨p + 1, by omega, by go_num, Lib.hid (by rw [HN.out.1, List.flatMap_append]; simpa using hown6), below_step (below_step hbr3 (show Below wr.heap.size wr w5 from bel) hbr3.size) hb6 (Nat.le_refl _)⟩
                case measure => simp [intOf]; omega
              · have hke : p = j := by omega
                subst hke
                have ho3 := hown3.out
                rw [List.take_of_length_le (by rw [HE.out.2.2.2.1]; exact Nat.le_refl _)] at ho3
                have HO3 := Lib.hid ho3
                clear hown3 ho3
                go_wp2_with fail
                go_roundw
                case rel => exact ⟨k + 1, by omega, by go_num, Lib.hid (ownsRow_base HO3.out hb14.size), below_step hb14 hbr3 hb14.size⟩
                case measure => simp [intOf]; omega
          · have hke : k = j := by omega
            subst hke
            have HO := Lib.hid hown.out
            clear hown
            go_wp2_with fail
            go_ret2
            refine ⟨_, rfl, ?_, hBr2⟩
            rw [HE.out.2.2.2.1]
            exact ownsRow_base HO.out hB1.size
  · have hra : allR F P ins orc = ([], toldErr F P ins orc) := by unfold allR; rw [if_pos he]
    rw [hra]
    have g1 : (toldErr F P ins orc != 0) = true := by simpa using he
    generalize toldErr F P ins orc = er at *
    clear hX hY hO he hra hml
    go_enter Tryz.func35, Tryz.ntmps35
    go_wp2_with (go_at_call 34; refine (h1 _ (HX.out.1.now bel) (HX.out.2.now bel)).mono ?_; rintro e w1 ⟨rfl, hb1⟩; obtain ⟨hc1, hf1⟩ := bcell hb1; (try simp only [bqh, bqc, bqf] at hc1 hf1); have hz1 := hb1.size; (try simp at hz1); (try have hy1 := nl1 hz1); (try have hx1 := nl2 hy1); refine szz w1 w ?_; intros)
    go_ret2
    exact NilC.own _ _ _ ⟨rfl, bel⟩
end Go.Proofs.YtbhkpepinogigaaGreat
