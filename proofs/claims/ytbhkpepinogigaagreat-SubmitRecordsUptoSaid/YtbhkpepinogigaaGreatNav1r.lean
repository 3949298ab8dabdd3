/- The reference WalkFault. -/
import Derived.Test.YtbhkpepinogigaaGreatNav1
namespace Go.Proofs.YtbhkpepinogigaaGreat
open Go.RowKit

set_option maxRecDepth 100000 in
set_option maxHeartbeats 4000000 in
theorem ref_WalkFault (B : Option Addr) (m d : Nat) (F : List Fld) (A : Option Addr) (n c : Nat) (P : List Pag) (Vb : Option Addr) (nv cv : Nat) (V : List Val) (x : Wlk) (Q : Option Addr) (q cq : Nat) (w : World)
    (hX : RFo w B m d F A n c P) (hO : FldsOk F) (hY : RVp w Vb nv cv V Q q cq x.path) (_hia : inI x.at_) :
    Calls Tryz.prog 21 #[.agg #[.slice B m d, .slice A n c], .slice Vb nv cv, .agg #[.int .i64 x.at_, .slice Q q cq, .bool x.done]] w (RetI w (walkErr F P V x)) := by
  have h1 := fun w h => ref_FormFault B m d F A n c P w h hO
  have hml := hX.2.2.2.2.1.len
  have hpl := hX.2.2.2.2.2.len
  have hvl := hY.2.2.2.2.1.len
  have hql := hY.2.2.2.2.2.len
  have hn1 := hX.2.2.1.l (by decide)
  have hn2 := hY.1.l (by decide)
  have hn3 := hX.1.l (by decide)
  have hn4 := hY.2.2.1
  unfold inL at hn1 hn2 hn3
  unfold inB at hn4
  have HX := Lib.hid (And.intro hX hY)
  by_cases he : formErr F P = 0
  · rw [he] at h1
    by_cases hl : V.length = F.length
    · obtain rfl : nv = m := by omega
      have g0 : ((nv : Int) != (nv : Int)) = false := by simp
      obtain ⟨er, her⟩ : ∃ er, er = walkErr F P V x := ⟨_, rfl⟩
      rw [← her]
      have HE := Lib.hid (And.intro he (And.intro hl (And.intro her (And.intro hpl (And.intro hvl hql)))))
      clear hX hY he hl her hml hpl hvl hql hO
      go_enter Tryz.func21, Tryz.ntmps21
      go_wp2_with (go_at_call 70; refine (h1 _ (HX.out.1.now bel)).mono ?_; rintro e w1 ⟨rfl, hb1⟩; obtain ⟨hc1, hf1⟩ := bcell hb1; (try simp only [World.heap_drewN, World.cell?_drewN, World.frozen?_drewN] at hc1 hf1); have hz1 := hb1.size; (try simp at hz1); (try (have hy1 := Nat.lt_of_succ_le hz1)); (try (have hx1 := Nat.lt_of_succ_lt hy1)); refine szz w1 w ?_; intros)
      have hB1 : Below w.heap.size w w1 := bel
      have hlw : w.heap.size + 1 < w1.heap.size := by have := hb1.size; simp at this; omega
      have q0 : w1.cell? ⟨w.heap.size, 0, none⟩ = some (.slice B nv d) := (hb1.cell (p := ⟨w.heap.size, 0, none⟩) (by simp; try omega)).trans (by go_simp)
      have q1 : w1.cell? ⟨w.heap.size, 1, none⟩ = some (.slice A n c) := (hb1.cell (p := ⟨w.heap.size, 1, none⟩) (by simp; try omega)).trans (by go_simp)
      have p0 : w1.cell? ⟨w.heap.size + 1, 0, none⟩ = some (.int .i64 x.at_) := (hb1.cell (p := ⟨w.heap.size + 1, 0, none⟩) (by simp; try omega)).trans (by go_simp)
      have p1 : w1.cell? ⟨w.heap.size + 1, 1, none⟩ = some (.slice Q q cq) := (hb1.cell (p := ⟨w.heap.size + 1, 1, none⟩) (by simp; try omega)).trans (by go_simp)
      have p2 : w1.cell? ⟨w.heap.size + 1, 2, none⟩ = some (.bool x.done) := (hb1.cell (p := ⟨w.heap.size + 1, 2, none⟩) (by simp; try omega)).trans (by go_simp)
      go_loopw [28] (fun i wr => ∃ k : Nat, k ≤ nv ∧ i = .int .i64 k ∧ Hid (firstErr (valErr V) k = 0) ∧ Below w1.heap.size w1 wr) (fun i _ => nv - (intOf i).toNat)
      case atStart => exact ⟨0, by omega, rfl, Lib.hid rfl, Below.refl _ _⟩
      case round =>
        obtain ⟨k, hk, rfl, hz, hbr⟩ := hrel
        have hBr : Below w.heap.size w wr := below_step hB1 hbr (by omega)
        have hlr : w.heap.size + 1 < wr.heap.size := Nat.lt_of_lt_of_le hlw hbr.size
        by_cases hlt : k < nv
        · obtain ⟨b, o, v, hAe, hbl, hlv, hwf, x0, x1, x2⟩ := Val_at (HX.out.2.2.2.2.2.1.now hBr) hlt
          subst hAe
          have hbl' : b < wr.heap.size := hbl
          have hch := fun w => ref_ValueFault v.k v.n v.s w (inS_max hwf.2.2)
          rw [show (⟨v.k, v.n, v.s⟩ : Val) = v from rfl] at hch
          by_cases hv : valCheck v = 0
          · rw [hv] at hch
            have HL := Lib.hid (And.intro hlv hv)
            clear hlv hwf hbl hv
            go_wp2_with (go_at_call 71; refine (hch _).mono ?_; rintro e w2 ⟨rfl, hb2⟩; obtain ⟨hc2, hf2⟩ := bcell hb2; (try simp only [World.heap_drewN, World.cell?_drewN, World.frozen?_drewN] at hc2 hf2); have hz2 := hb2.size; (try simp at hz2); (try (have hy2 := Nat.lt_of_succ_le hz2)); (try (have hx2 := Nat.lt_of_succ_lt hy2)); refine szz w2 wr ?_; intros)
            go_roundw
            case rel => exact ⟨k + 1, by omega, by go_num, Lib.hid (firstErr_next hz.out ((valErr_at HL.out.1).trans HL.out.2)), below_step hbr (show Below wr.heap.size wr w2 from bel) hbr.size⟩
            case measure => simp [intOf]; omega
          · have gv : (valCheck v != 0) = true := by simpa using hv
            have HL := Lib.hid (And.intro hlv hv)
            clear hlv hwf hbl hv
            obtain ⟨ve, hve⟩ : ∃ ve, ve = valCheck v := ⟨_, rfl⟩
            rw [← hve] at gv
            simp only [← hve] at hch
            have HV := Lib.hid hve
            clear hve
            go_wp2_with (go_at_call 71; refine (hch _).mono ?_; rintro e w2 ⟨rfl, hb2⟩; obtain ⟨hc2, hf2⟩ := bcell hb2; (try simp only [World.heap_drewN, World.cell?_drewN, World.frozen?_drewN] at hc2 hf2); have hz2 := hb2.size; (try simp at hz2); (try (have hy2 := Nat.lt_of_succ_le hz2)); (try (have hx2 := Nat.lt_of_succ_lt hy2)); refine szz w2 wr ?_; intros)
            go_ret
            refine ⟨ret_int ?_, below_step hBr (show Below wr.heap.size wr w2 from bel) hBr.size⟩
            have hh := valsErr_hit hz.out HL.out.1 HL.out.2
            rw [HE.out.2.2.1, walkErr_val HE.out.1 HE.out.2.1 (by rw [hh]; exact HL.out.2), hh, HV.out]
        · have hke : k = nv := by omega
          subst hke
          have hval : valsErr V = 0 := by unfold valsErr; rw [HE.out.2.2.2.2.1]; exact hz.out
          have HVL := Lib.hid hval
          have r0 := cell_keep q0 hbr
          have r1 := cell_keep q1 hbr
          have s0 := cell_keep p0 hbr
          have s1 := cell_keep p1 hbr
          have s2 := cell_keep p2 hbr
          clear hval q0 q1 p0 p1 p2
          clear r0 hbr hz hb1
          go_upto_region 14 with fail
          go_cut [12] (fun s12 wx => s12 = .bool (refGood n x 0) ∧ Below wr.heap.size wr wx)
          case first =>
            have hg : refGood n x 0 = (decide (0 ≤ x.at_) && decide (x.at_ ≤ n) && (x.done == decide (x.at_ = n))) := rfl
            by_cases ha : 0 ≤ x.at_
            · have g1 : decide (0 ≤ x.at_) = true := by simpa using ha
              by_cases hb : x.at_ ≤ n
              · have g2 : decide (x.at_ ≤ (n : Int)) = true := by simpa using hb
                rw [g1, g2, Bool.true_and, Bool.true_and] at hg
                have HG := Lib.hid hg
                clear hg
                cases hc : (x.at_ == (n : Int))
                · have hd : decide (x.at_ = n) = false := by simpa using hc
                  have HD := Lib.hid hd
                  clear hd
                  go_wp2_with fail
                  go_meet
                  refine ⟨by rw [HG.out, HD.out]; cases x.done <;> rfl, Below.refl _ _⟩
                · have hd : decide (x.at_ = n) = true := by simpa using hc
                  have HD := Lib.hid hd
                  clear hd
                  go_wp2_with fail
                  go_meet
                  refine ⟨by rw [HG.out, HD.out]; cases x.done <;> rfl, Below.refl _ _⟩
              · have g2 : decide (x.at_ ≤ (n : Int)) = false := by simpa using hb
                rw [g1, g2, Bool.true_and, Bool.false_and] at hg
                have HG := Lib.hid hg
                clear hg
                go_wp2_with fail
                go_meet
                refine ⟨by rw [HG.out], Below.refl _ _⟩
            · have g1 : decide (0 ≤ x.at_) = false := by simpa using ha
              rw [g1, Bool.false_and, Bool.false_and] at hg
              have HG := Lib.hid hg
              clear hg
              go_wp2_with fail
              go_meet
              refine ⟨by rw [HG.out], Below.refl _ _⟩
          case rest =>
            obtain ⟨rfl, hb9⟩ := hcut
            generalize hwq : wr = wq at *
            clear hwq
            have hzc := hb9.size
            have s0' := cell_keep s0 hb9
            have s1' := cell_keep s1 hb9
            have hBc : Below w.heap.size w wc := below_step hBr hb9 (by omega)
            clear r1 s0 s1 s2
            go_wp2_with fail
            go_loopw [12, 62] (fun la i wz => ∃ j : Nat, j ≤ q ∧ i = .int .i64 j ∧ la = .bool (refGood n x j) ∧ Below wc.heap.size wc wz) (fun _ i _ => q - (intOf i).toNat)
            case atStart => exact ⟨0, by omega, rfl, rfl, Below.refl _ _⟩
            case round =>
              obtain ⟨j, hj, rfl, rfl, hbz⟩ := hrel
              have hBz : Below w.heap.size w wr := below_step hBc hbz (by omega)
              have t0 := cell_keep s0' hbz
              have t1 := cell_keep s1' hbz
              obtain ⟨gd, hgd⟩ : ∃ gd, gd = refGood n x j := ⟨_, rfl⟩
              rw [← hgd]
              by_cases hlt : j < q
              · obtain ⟨b, o, p, hAe, hbl, hlp, hpi, y0⟩ := Int_at (HX.out.2.2.2.2.2.2.now hBz) hlt
                have hbl' : b < wr.heap.size := hbl
                have hnx : refGood n x (j + 1) = (gd && (decide (0 ≤ p) && decide (p < x.at_) && (j == 0 || decide (prevAt x.path j < p)))) := by rw [hgd, refGood, hlp]
                have HAE := Lib.hid hAe
                subst hAe
                clear hgd
                cases gd
                · rw [Bool.false_and] at hnx
                  have HL := Lib.hid hnx
                  clear hnx hlp hpi hbl
                  go_wp2_with fail
                  go_roundw
                  case rel => exact ⟨j + 1, by omega, by go_num, by rw [HL.out], bel⟩
                  case measure => simp [intOf]; omega
                · rw [Bool.true_and] at hnx
                  by_cases hp1 : 0 ≤ p
                  · have g1 : decide (0 ≤ p) = true := by simpa using hp1
                    by_cases hp2 : p < x.at_
                    · have g2 : decide (p < x.at_) = true := by simpa using hp2
                      rw [g1, g2, Bool.true_and, Bool.true_and] at hnx
                      rcases j with _ | j
                      · have HL := Lib.hid hnx
                        clear hnx hlp hpi hbl
                        have g3 : (((0 : Nat) : Int) == 0) = true := rfl
                        rw [Nat.add_zero] at y0
                        go_wp2_with fail
                        go_roundw
                        case rel => exact ⟨0 + 1, by omega, by go_num, by rw [HL.out]; rfl, bel⟩
                        case measure => simp [intOf]; omega
                      · obtain ⟨b', o', p', hAe', hbl2, hlp', hpi', y1⟩ := Int_at (HX.out.2.2.2.2.2.2.now hBz) (show j < q by omega)
                        cases hAe'
                        have g3 : ((j : Int) + 1 == 0) = false := by simp only [beq_eq_false_iff_ne, ne_eq]; omega
                        have hpv : prevAt x.path (j + 1) = p' := by simp only [prevAt, hlp', Option.getD_some]
                        have hj0 : (j + 1 == 0) = false := rfl
                        rw [hpv, hj0, Bool.false_or] at hnx
                        have HL := Lib.hid hnx
                        clear hnx hlp hpi hbl hlp' hpi' hbl2 hpv hj0
                        cases hp3 : decide (p' < p)
                        all_goals
                          go_wp2_with fail
                          go_roundw
                          case rel => exact ⟨j + 1 + 1, by omega, by go_num, by rw [HL.out, hp3], bel⟩
                          case measure => simp [intOf]; omega
                    · have g2 : decide (p < x.at_) = false := by simpa using hp2
                      rw [g1, g2, Bool.true_and, Bool.false_and] at hnx
                      have HL := Lib.hid hnx
                      clear hnx hlp hpi hbl
                      go_wp2_with fail
                      go_roundw
                      case rel => exact ⟨j + 1, by omega, by go_num, by rw [HL.out], bel⟩
                      case measure => simp [intOf]; omega
                  · have g1 : decide (0 ≤ p) = false := by simpa using hp1
                    rw [g1, Bool.false_and, Bool.false_and] at hnx
                    have HL := Lib.hid hnx
                    clear hnx hlp hpi hbl
                    go_wp2_with fail
                    go_roundw
                    case rel => exact ⟨j + 1, by omega, by go_num, by rw [HL.out], bel⟩
                    case measure => simp [intOf]; omega
              · obtain rfl : j = q := by omega
                have hre : er = if gd then 0 else 15 := by
                  rw [HE.out.2.2.1, walkErr_walk HE.out.1 HE.out.2.1 HVL.out, HE.out.2.2.2.1, hgd, ← walkOk_ref, HE.out.2.2.2.2.2]
                clear hgd
                cases gd
                · have HR := Lib.hid (show er = 15 from hre)
                  clear hre
                  go_wp2_with fail
                  go_ret
                  exact ⟨ret_int HR.out.symm, bel⟩
                · have HR := Lib.hid (show er = 0 from hre)
                  clear hre
                  go_wp2_with fail
                  go_ret
                  exact ⟨ret_int HR.out.symm, bel⟩
    · obtain ⟨er, her⟩ : ∃ er, er = walkErr F P V x := ⟨_, rfl⟩
      rw [← her]
      rw [walkErr_len he hl] at her
      subst her
      have g0 : ((nv : Int) != (m : Int)) = true := by simp; omega
      clear hX hY he hl hml hpl hvl hql hO
      go_enter Tryz.func21, Tryz.ntmps21
      go_wp2_with (go_at_call 70; refine (h1 _ (HX.out.1.now bel)).mono ?_; rintro e w1 ⟨rfl, hb1⟩; obtain ⟨hc1, hf1⟩ := bcell hb1; (try simp only [World.heap_drewN, World.cell?_drewN, World.frozen?_drewN] at hc1 hf1); have hz1 := hb1.size; (try simp at hz1); (try (have hy1 := Nat.lt_of_succ_le hz1)); (try (have hx1 := Nat.lt_of_succ_lt hy1)); refine szz w1 w ?_; intros)
      go_ret
      exact ⟨rfl, bel⟩
  · obtain ⟨er, her⟩ : ∃ er, er = walkErr F P V x := ⟨_, rfl⟩
    rw [← her]
    rw [walkErr_form he] at her
    have g0 : (er != 0) = true := by rw [her]; simpa using he
    rw [← her] at h1
    clear hX hY he her hml hpl hvl hql hO
    go_enter Tryz.func21, Tryz.ntmps21
    go_wp2_with (go_at_call 70; refine (h1 _ (HX.out.1.now bel)).mono ?_; rintro e w1 ⟨rfl, hb1⟩; obtain ⟨hc1, hf1⟩ := bcell hb1; (try simp only [World.heap_drewN, World.cell?_drewN, World.frozen?_drewN] at hc1 hf1); have hz1 := hb1.size; (try simp at hz1); (try (have hy1 := Nat.lt_of_succ_le hz1)); (try (have hx1 := Nat.lt_of_succ_lt hy1)); refine szz w1 w ?_; intros)
    go_ret
    exact ⟨rfl, bel⟩
end Go.Proofs.YtbhkpepinogigaaGreat
