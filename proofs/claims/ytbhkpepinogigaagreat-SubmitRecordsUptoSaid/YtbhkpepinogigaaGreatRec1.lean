/- submit.Record. -/
import Derived.Test.YtbhkpepinogigaaGreatRecP
import Derived.Test.YtbhkpepinogigaaGreatRowF
import Derived.Test.YtbhkpepinogigaaGreatNav2
namespace Go.Proofs.YtbhkpepinogigaaGreat
open Go.RowKit

set_option maxRecDepth 100000 in
set_option maxHeartbeats 4000000 in
theorem submit_Record (B : Option Addr) (m d : Nat) (F : List Fld) (A : Option Addr) (n c : Nat) (P : List Pag) (Vb : Option Addr) (nv cv : Nat) (V : List Val) (x : Wlk) (Q : Option Addr) (q cq : Nat) (w : World)
    (hX : RFo w B m d F A n c P) (hO : FldsOk F) (hY : RVp w Vb nv cv V Q q cq x.path) (hia : inI x.at_) :
    Calls Tryz.prog 24 #[.agg #[.slice B m d, .slice A n c], .slice Vb nv cv, .agg #[.int .i64 x.at_, .slice Q q cq, .bool x.done]] w (OwnRowC Fct.cs 109 7 w (recR F P V x).1 (recR F P V x).2) := by
  have h1 := fun w h h' => nav_Check B m d F A n c P Vb nv cv V x Q q cq w h hO h' hia
  have hml := hX.2.2.2.2.1.len
  have hpl := hX.2.2.2.2.2.len
  have hvl := hY.2.2.2.2.1.len
  have hql := hY.2.2.2.2.2.len
  have hn3 := hX.1.l (by decide)
  have hn4 := hY.2.2.1
  unfold inB at hn4
  have HX := Lib.hid (And.intro hX hY)
  by_cases he : walkErr F P V x = 0
  · rw [he] at h1
    cases hd : x.done
    · rw [recR_not he hd]
      rw [hd] at h1
      clear hX hY he hml hpl hvl hql hO hd
      go_enter Tryz.func24, Tryz.ntmps24
      go_wp2_with (go_at_call 19; refine (h1 _ (HX.out.1.now bel) (HX.out.2.now bel)).mono ?_; rintro e w1 ⟨rfl, hb1⟩; obtain ⟨hc1, hf1⟩ := bcell hb1; (try simp only [World.heap_drewN, World.cell?_drewN, World.frozen?_drewN] at hc1 hf1); have hz1 := hb1.size; (try simp at hz1); (try (have hy1 := Nat.lt_of_succ_le hz1)); (try (have hx1 := Nat.lt_of_succ_lt hy1)); refine szz w1 w ?_; intros)
      go_ret2
      exact NilC.own _ _ _ ⟨rfl, bel⟩
    · rw [hd] at h1
      have hz := walkErr_zero he
      have hwp := walkOk_path hz.2.2.2
      have hwl := walkOk_len hz.2.2.2
      have hp6 := (pagesErr_len (formErr_pages hz.1)).2
      have hnm := fun k g s => pages_names (k := k) (p := g) (s := s) (formErr_pages hz.1)
      have h14 := fsOf_len hz.1
      obtain ⟨i0, ei, ez0, ez1, ez2⟩ := info_parts Tryz.infoFct
      obtain ⟨rr, hrr⟩ : ∃ rr, rr = recR F P V x := ⟨_, rfl⟩
      rw [← hrr]
      have HE := Lib.hid (And.intro hz (And.intro hwp (And.intro hnm (And.intro h14 (And.intro hml (And.intro hpl (And.intro hvl hql)))))))
      have HRR := Lib.hid (And.intro hrr (And.intro he hd))
      have hfi := fun s w h => field_Find B m d F s w hn3 h
      have hq6 : q ≤ 6 := by omega
      clear hX hY he hml hpl hvl hql hO hd hz hwp hnm h14 hrr hwl hp6
      go_enter Tryz.func24, Tryz.ntmps24
      go_upto_region 7 with (go_at_call 19; refine (h1 _ (HX.out.1.now bel) (HX.out.2.now bel)).mono ?_; rintro e w1 ⟨rfl, hb1⟩; obtain ⟨hc1, hf1⟩ := bcell hb1; (try simp only [World.heap_drewN, World.cell?_drewN, World.frozen?_drewN] at hc1 hf1); have hz1 := hb1.size; (try simp at hz1); (try (have hy1 := Nat.lt_of_succ_le hz1)); (try (have hx1 := Nat.lt_of_succ_lt hy1)); refine szz w1 w ?_; intros)
      have hB1 : Below w.heap.size w w1 := bel
      have hlw : w.heap.size + 1 < w1.heap.size := by have := hb1.size; simp at this; omega
      have q0 : w1.cell? ⟨w.heap.size, 0, none⟩ = some (.slice B m d) := (hb1.cell (p := ⟨w.heap.size, 0, none⟩) (by simp; try omega)).trans (by go_simp)
      have q1 : w1.cell? ⟨w.heap.size, 1, none⟩ = some (.slice A n c) := (hb1.cell (p := ⟨w.heap.size, 1, none⟩) (by simp; try omega)).trans (by go_simp)
      have p1 : w1.cell? ⟨w.heap.size + 1, 1, none⟩ = some (.slice Q q cq) := (hb1.cell (p := ⟨w.heap.size + 1, 1, none⟩) (by simp; try omega)).trans (by go_simp)
      clear h1 hb1
      go_wp2_with fail
      go_loopw [9, 29] (fun v i wr => ∃ k : Nat, k ≤ q ∧ i = .int .i64 k ∧ Hid ((x.path.take k).any (recBad F P V) = false) ∧ Hid (wr.ownsRow w1.heap.size 109 7 v (recTo F P V (x.path.take k)).length ((recTo F P V (x.path.take k)).flatMap Fct.cs)) ∧ Below w1.heap.size w1 wr) (fun _ i _ => q - (intOf i).toNat)
      case atStart => exact ⟨0, by omega, rfl, Lib.hid (by simp), Lib.hid (by simpa [recTo] using World.ownsRow_nil _ _ _ _), Below.refl _ _⟩
      case round =>
        obtain ⟨k, hk, rfl, hbad, hown, hbr⟩ := hrel
        have hBr : Below w.heap.size w wr := below_step hB1 hbr hB1.size
        have r0 := cell_keep q0 hbr
        have r1 := cell_keep q1 hbr
        have hlr : w.heap.size < wr.heap.size := by have := hbr.size; omega
        by_cases hlt : k < q
        · obtain ⟨b, o, pi, hQe, hbl, hlp, hpi, y0⟩ := Int_at (HX.out.2.2.2.2.2.2.now hBr) hlt
          subst hQe
          have hbl' : b < wr.heap.size := hbl
          obtain ⟨hp0, hpa, _⟩ := HE.out.2.1.2.2.2 k pi hlp
          have hpn := HE.out.2.1.2.1
          rw [HE.out.2.2.2.2.2.1] at hpn
          obtain ⟨kp, rfl⟩ : ∃ kp : Nat, pi = kp := ⟨pi.toNat, by omega⟩
          have hkpn : kp < n := by omega
          have hkpi : (kp : Int) < (n : Int) := by omega
          obtain ⟨b2, o2, g, Y, D, X, C, hAe, hbl2, hlg, hrep, x0, x1, x2, x3, x4, x5, x6, x7⟩ := Pag_at HX.out.1.2.2.2.2.2 hkpn
          have z1 := cell_keep x1 hBr
          have hAE := Lib.hid hAe
          subst hAe
          have hbl2' : b2 < wr.heap.size := Nat.lt_of_lt_of_le hbl2 hBr.size
          obtain ⟨_, r2, r3, r4, _⟩ := hrep.open_
          have HR4 := Lib.hid r4
          have hfs : fsOf P (kp : Int) = g.fields := fsOf_at hlg
          have hg14 : g.fields.length ≤ 14 := by rw [← hfs]; exact HE.out.2.2.2.1 _
          have hto := recTo_len (F := F) (V := V) HE.out.2.2.2.1 (x.path.take k)
          rw [List.length_take] at hto
          have HL := Lib.hid (And.intro hlp (And.intro hlg hfs))
          clear hbl hlp hpi hp0 hpa hpn hbl2 hlg hrep r2 r3 r4 hfs x0 x1 x2 x3 x4 x5 x6 x7
          go_wp2_with fail
          generalize hwq : wr = wq at *
          clear hwq
          go_loopw [9, 40] (fun v i wr => ∃ j : Nat, j ≤ g.fields.length ∧ i = .int .i64 j ∧ Hid ((g.fields.take j).any (lacks F V) = false) ∧ Hid (wr.ownsRow w1.heap.size 109 7 v (recTo F P V (x.path.take k) ++ recL F V (g.fields.take j)).length ((recTo F P V (x.path.take k) ++ recL F V (g.fields.take j)).flatMap Fct.cs)) ∧ Below w1.heap.size w1 wr) (fun _ i _ => g.fields.length - (intOf i).toNat)
          case atStart => exact ⟨0, by omega, rfl, Lib.hid (by simp), Lib.hid (by simpa [recL] using hown.out), hbr⟩
          case round =>
            obtain ⟨j, hj, rfl, hno, hown2, hbj⟩ := hrel
            have hB1j := hbj
            have hBj : Below w.heap.size w wr := below_step hB1 hbj hB1.size
            have t0 := cell_keep q0 hbj
            have hlj : w.heap.size < wr.heap.size := by have := hbj.size; omega
            by_cases hltj : j < g.fields.length
            · obtain ⟨b3, o3, s, hYe, hbl3, hls, hsi, z0⟩ := Str_at (HR4.out.now hBj) hltj
              subst hYe
              have hbl3' : b3 < wr.heap.size := hbl3
              have hany := HE.out.2.2.1 kp g s HL.out.2.1 (List.mem_of_getElem? hls)
              obtain ⟨hfa, v, hv, hvo⟩ := valOf_at hany HE.out.1.2.1
              have hfa' : fieldAt F s < nv := by rw [← HE.out.2.2.2.2.2.2.1]; exact hfa
              obtain ⟨b4, o4, v', hVe, hbl4, hlv, hwf, v0, v1, v2⟩ := Val_at (HX.out.2.2.2.2.2.1.now hBj) hfa'
              obtain rfl : v = v' := Option.some.inj (hv.symm.trans hlv)
              have hvc := valsErr_ok HE.out.1.2.2.1 v (List.mem_of_getElem? hv)
              have hkn := fun w => value_Known v.k v.n v.s w (inS_max hwf.2.2)
              rw [show (⟨v.k, v.n, v.s⟩ : Val) = v from rfl, lacks_known hvo hvc] at hkn
              have hVE := Lib.hid hVe
              subst hVe
              have hbl4' : b4 < wr.heap.size := hbl4
              have hfr : findRes (hasName s) F = ((fieldAt F s : Int), 0) := by unfold findRes; rw [hany]; rfl
              have hfi' := fun w h => hfi s w h
              rw [hfr] at hfi'
              generalize fieldAt F s = fa at *
              have hfai : (fa : Int) < (nv : Int) := by omega
              dsimp only at hfi'
              have htl : (recTo F P V (x.path.take k) ++ recL F V (g.fields.take j)).length ≤ 98 := by
                rw [List.length_append, recL_len, List.length_take]
                omega
              cases hlk : lacks F V s
              · rw [hlk] at hkn
                have HT := Lib.hid (And.intro (recL_next hls hvo) (any_next hno.out hls hlk))
                clear hlk hls hv hvo hlv hwf hvc hbl3 hbl4 hany hfa hfa' hfr hsi
                go_wp2_with (first
                  | (go_at_call 57; refine (hfi' _ (HX.out.1.2.2.2.2.1.nowN keeps_Fld (show Below w.heap.size w _ from bel))).mono ?_; rintro e w4 ⟨rfl, hb4⟩; obtain ⟨hc4, hf4⟩ := bcell hb4; (try simp only [World.heap_drewN, World.cell?_drewN, World.frozen?_drewN] at hc4 hf4); have hz4 := hb4.size; (try simp at hz4); (try (have hy4 := Nat.lt_of_succ_le hz4)); (try (have hx4 := Nat.lt_of_succ_lt hy4)); refine szz w4 wr ?_; intros; have hb44 : b4 < w4.heap.size := (by omega); have hb45 : b3 < w4.heap.size := (by omega))
                  | (go_at_call 69; refine (hkn _).mono ?_; rintro e w5 ⟨rfl, hb5⟩; obtain ⟨hc5, hf5⟩ := bcell hb5; (try simp only [World.heap_drewN, World.cell?_drewN, World.frozen?_drewN] at hc5 hf5); have hz5 := hb5.size; (try simp at hz5); (try (have hy5 := Nat.lt_of_succ_le hz5)); (try (have hx5 := Nat.lt_of_succ_lt hy5)); refine szz w5 wr ?_; intros; refine szz w5 w4 ?_; intros)
                  | (at_builtin; refine wpList_append1 rfl _ _ 42 rfl w1.heap.size 109 i0 _ 7 80 Tryz.underlying42 ei ez0 ez1 ez2 rfl (by decide) _ (recTo F P V (x.path.take k) ++ recL F V (g.fields.take j)).length _ rfl (ownsRow_keep hown2.out (show Below wr.heap.size wr w5 from bel)) (Fct.mk s noVal v).cs 109 rfl _ rfl (by first | rfl | simp) rfl (by simp [Value.oneCell']) (by omega) (by unfold maxLen; omega) (by have := hB1j.size; first | omega | (simp; omega)) ?_; intro v6 w6 hown6 hb6 hz6 _))
                go_roundw
                case rel => exact ⟨j + 1, by omega, by go_num, Lib.hid HT.out.2, Lib.hid (by rw [HT.out.1, ← List.append_assoc, List.flatMap_append, List.length_append]; simpa using hown6), below_step (below_step hbj (show Below wr.heap.size wr w5 from bel) hbj.size) hb6 (Nat.le_refl _)⟩
                case measure => simp [intOf]; omega
              · rw [hlk] at hkn
                have hbd : x.path.any (recBad F P V) = true := by
                  rw [List.any_eq_true]
                  refine ⟨(kp : Int), List.mem_of_getElem? HL.out.1, ?_⟩
                  unfold recBad
                  rw [HL.out.2.2, List.any_eq_true]
                  exact ⟨s, List.mem_of_getElem? hls, hlk⟩
                have HR := Lib.hid (HRR.out.1.trans (recR_bad HRR.out.2.1 hbd))
                clear hlk hls hv hvo hlv hwf hvc hbl3 hbl4 hany hfa hfa' hfr hsi hbd
                go_wp2_with (first
                  | (go_at_call 57; refine (hfi' _ (HX.out.1.2.2.2.2.1.nowN keeps_Fld (show Below w.heap.size w _ from bel))).mono ?_; rintro e w4 ⟨rfl, hb4⟩; obtain ⟨hc4, hf4⟩ := bcell hb4; (try simp only [World.heap_drewN, World.cell?_drewN, World.frozen?_drewN] at hc4 hf4); have hz4 := hb4.size; (try simp at hz4); (try (have hy4 := Nat.lt_of_succ_le hz4)); (try (have hx4 := Nat.lt_of_succ_lt hy4)); refine szz w4 wr ?_; intros; have hb44 : b4 < w4.heap.size := (by omega); have hb45 : b3 < w4.heap.size := (by omega))
                  | (go_at_call 69; refine (hkn _).mono ?_; rintro e w5 ⟨rfl, hb5⟩; obtain ⟨hc5, hf5⟩ := bcell hb5; (try simp only [World.heap_drewN, World.cell?_drewN, World.frozen?_drewN] at hc5 hf5); have hz5 := hb5.size; (try simp at hz5); (try (have hy5 := Nat.lt_of_succ_le hz5)); (try (have hx5 := Nat.lt_of_succ_lt hy5)); refine szz w5 wr ?_; intros; refine szz w5 w4 ?_; intros))
                go_ret2
                rw [HR.out]
                exact NilC.own _ _ _ ⟨rfl, bel⟩
            · have hke : j = g.fields.length := by omega
              subst hke
              have ho := hown2.out
              rw [List.take_length] at ho
              have HO := Lib.hid (And.intro ho (any_next hbad.out HL.out.1 (by unfold recBad; rw [HL.out.2.2]; have := hno.out; rwa [List.take_length] at this)))
              clear hown2 ho
              go_wp2_with fail
              go_roundw
              case rel => exact ⟨k + 1, by omega, by go_num, Lib.hid HO.out.2, Lib.hid (by rw [recTo_next HL.out.1, HL.out.2.2]; exact HO.out.1), hB1j⟩
              case measure => simp [intOf]; omega
        · have hke : k = q := by omega
          subst hke
          have ho := hown.out
          have hb9 := hbad.out
          rw [List.take_of_length_le (by rw [HE.out.2.2.2.2.2.2.2]; exact Nat.le_refl _)] at ho hb9
          have HO := Lib.hid (And.intro ho (HRR.out.1.trans (recR_ok HRR.out.2.1 HRR.out.2.2 hb9)))
          clear hown ho hb9 hbad
          go_wp2_with fail
          go_ret2
          rw [HO.out.2]
          exact ⟨_, rfl, ownsRow_base HO.out.1 hB1.size, hBr⟩
  · rw [recR_err he]
    have he' : (walkErr F P V x != 0) = true := by simpa using he
    generalize walkErr F P V x = er at *
    clear hX hY hO he hml hpl hvl hql
    go_enter Tryz.func24, Tryz.ntmps24
    go_wp2_with (go_at_call 19; refine (h1 _ (HX.out.1.now bel) (HX.out.2.now bel)).mono ?_; rintro e w1 ⟨rfl, hb1⟩; obtain ⟨hc1, hf1⟩ := bcell hb1; (try simp only [World.heap_drewN, World.cell?_drewN, World.frozen?_drewN] at hc1 hf1); have hz1 := hb1.size; (try simp at hz1); (try (have hy1 := Nat.lt_of_succ_le hz1)); (try (have hx1 := Nat.lt_of_succ_lt hy1)); refine szz w1 w ?_; intros)
    go_ret2
    exact NilC.own _ _ _ ⟨rfl, bel⟩
end Go.Proofs.YtbhkpepinogigaaGreat
