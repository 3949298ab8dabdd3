/- nav.Lacks and the reference WalkLacks. -/
import Derived.Test.YtbhkpepinogigaaGreatNav1r
namespace Go.Proofs.YtbhkpepinogigaaGreat
open Go.RowKit

theorem inI0 : inI 0 := by unfold inI; decide +kernel
set_option maxRecDepth 100000 in
set_option maxHeartbeats 4000000 in
theorem nav_Lacks (B : Option Addr) (m d : Nat) (F : List Fld) (A : Option Addr) (n c : Nat) (P : List Pag) (Vb : Option Addr) (nv cv : Nat) (V : List Val) (at_ : Int) (w : World)
    (hX : RFo w B m d F A n c P) (hO : FldsOk F) (hY : RVp w Vb nv cv V none 0 0 []) :
    Calls Tryz.prog 20 #[.agg #[.slice B m d, .slice A n c], .slice Vb nv cv, .int .i64 at_] w (OwnRowC strCs 9 1 w (lackR F P V at_).1 (lackR F P V at_).2) := by
  have h1 := fun w h h' => nav_Check B m d F A n c P Vb nv cv V ⟨0, [], false⟩ none 0 0 w h hO h' inI0
  have hml := hX.2.2.2.2.1.len
  have hpl := hX.2.2.2.2.2.len
  have hvl := hY.2.2.2.2.1.len
  have hn3 := hX.1.l (by decide)
  have HX := Lib.hid (And.intro hX hY)
  dsimp only at h1
  by_cases he : walkErr F P V ⟨0, [], false⟩ = 0
  · rw [he] at h1
    by_cases ha : at_ < 0 ∨ (P.length : Int) ≤ at_
    · rw [lackR_out he ha]
      rw [hpl] at ha
      clear hX hY he hml hpl hvl hO
      by_cases ha0 : at_ < 0
      · have g1 : decide (at_ < 0) = true := by simpa using ha0
        go_enter Tryz.func20, Tryz.ntmps20
        go_wp2_with (go_at_call 19; refine (h1 _ (HX.out.1.now bel) (HX.out.2.now bel)).mono ?_; rintro e w1 ⟨rfl, hb1⟩; obtain ⟨hc1, hf1⟩ := bcell hb1; (try simp only [World.heap_drewN, World.cell?_drewN, World.frozen?_drewN] at hc1 hf1); have hz1 := hb1.size; (try simp at hz1); (try (have hy1 := Nat.lt_of_succ_le hz1)); (try (have hx1 := Nat.lt_of_succ_lt hy1)); refine szz w1 w ?_; intros)
        go_ret2
        exact NilC.own _ _ _ ⟨rfl, bel⟩
      · have ha1 : (n : Int) ≤ at_ := by omega
        have g1 : decide (at_ < 0) = false := by simpa using ha0
        have g2 : decide ((n : Int) ≤ at_) = true := by simpa using ha1
        go_enter Tryz.func20, Tryz.ntmps20
        go_wp2_with (go_at_call 19; refine (h1 _ (HX.out.1.now bel) (HX.out.2.now bel)).mono ?_; rintro e w1 ⟨rfl, hb1⟩; obtain ⟨hc1, hf1⟩ := bcell hb1; (try simp only [World.heap_drewN, World.cell?_drewN, World.frozen?_drewN] at hc1 hf1); have hz1 := hb1.size; (try simp at hz1); (try (have hy1 := Nat.lt_of_succ_le hz1)); (try (have hx1 := Nat.lt_of_succ_lt hy1)); refine szz w1 w ?_; intros)
        go_ret2
        exact NilC.own _ _ _ ⟨rfl, bel⟩
    · obtain ⟨k0, hk0⟩ : ∃ k0 : Nat, at_ = k0 := ⟨at_.toNat, by omega⟩
      subst hk0
      have hk0n : k0 < n := by omega
      have hpp : P[k0]? = some (P[k0]'(by omega)) := List.getElem?_eq_getElem _
      obtain ⟨p, hp⟩ : ∃ p, P[k0]? = some p := ⟨_, hpp⟩
      rw [lackR_in he hp]
      have hz := walkErr_zero he
      have hfl := page_fields_len (formErr_pages hz.1) hp
      have hf14 := (fieldsErr_all (formErr_flds hz.1)).1
      have hnm := fun s => pages_names (s := s) (formErr_pages hz.1) hp
      have g1 : decide ((k0 : Int) < 0) = false := by simp
      have g2 : decide (n ≤ k0) = false := by simp; omega
      have hk0i : (k0 : Int) < (n : Int) := by omega
      obtain ⟨i0, ei, ez0, ez1, ez2⟩ := info_parts Tryz.infoStr'
      have HE := Lib.hid (And.intro hz (And.intro hp (And.intro hnm (And.intro hml (And.intro hpl hvl)))))
      have hfi := fun s w h => field_Find B m d F s w hn3 h
      clear hX hY he hml hpl hvl hO ha hp hpp hz hnm
      go_enter Tryz.func20, Tryz.ntmps20
      go_upto_region 7 with (go_at_call 19; refine (h1 _ (HX.out.1.now bel) (HX.out.2.now bel)).mono ?_; rintro e w1 ⟨rfl, hb1⟩; obtain ⟨hc1, hf1⟩ := bcell hb1; (try simp only [World.heap_drewN, World.cell?_drewN, World.frozen?_drewN] at hc1 hf1); have hz1 := hb1.size; (try simp at hz1); (try (have hy1 := Nat.lt_of_succ_le hz1)); (try (have hx1 := Nat.lt_of_succ_lt hy1)); refine szz w1 w ?_; intros)
      have hB1 : Below w.heap.size w w1 := bel
      have hlw : w.heap.size < w1.heap.size := by have := hb1.size; simp at this; omega
      have q0 : w1.cell? ⟨w.heap.size, 0, none⟩ = some (.slice B m d) := (hb1.cell (p := ⟨w.heap.size, 0, none⟩) (by simp)).trans (by go_simp)
      have q1 : w1.cell? ⟨w.heap.size, 1, none⟩ = some (.slice A n c) := (hb1.cell (p := ⟨w.heap.size, 1, none⟩) (by simp)).trans (by go_simp)
      obtain ⟨b, o, p', Y, D, X, C, hAe, hbl, hlp, hrep, x0, x1, x2, x3, x4, x5, x6, x7⟩ := Pag_at (HX.out.1.2.2.2.2.2.nowN keeps_Pag hB1) hk0n
      obtain rfl : p = p' := Option.some.inj (HE.out.2.1.symm.trans hlp)
      subst hAe
      have hbl' : b < w1.heap.size := hbl
      obtain ⟨_, r2, r3, r4, _⟩ := hrep.open_
      have HR4 := Lib.hid r4
      have hfl14 : p.fields.length ≤ 14 := by omega
      clear hbl hlp hrep r2 r3 r4
      go_wp2_with fail
      go_loopw [9, 37] (fun v i wr => ∃ k : Nat, k ≤ p.fields.length ∧ i = .int .i64 k ∧ Hid (wr.ownsRow w1.heap.size 9 1 v (lackL F V (p.fields.take k)).length ((lackL F V (p.fields.take k)).flatMap strCs)) ∧ Below w1.heap.size w1 wr) (fun _ i _ => p.fields.length - (intOf i).toNat)
      case atStart => exact ⟨0, by omega, rfl, Lib.hid (by simpa [lackL] using World.ownsRow_nil _ _ _ _), Below.refl _ _⟩
      case round =>
        obtain ⟨k, hk, rfl, hown, hbr⟩ := hrel
        have hBr : Below w.heap.size w wr := below_step hB1 hbr hB1.size
        have r0 := cell_keep q0 hbr
        have hlr : w.heap.size < wr.heap.size := Nat.lt_of_lt_of_le hlw hbr.size
        by_cases hlt : k < p.fields.length
        · obtain ⟨b2, o2, s, hYe, hbl, hls, hsi, y0⟩ := Str_at (HR4.out.now hbr) hlt
          subst hYe
          have hbl2 : b2 < wr.heap.size := hbl
          have hany := HE.out.2.2.1 s (List.mem_of_getElem? hls)
          obtain ⟨hfa, v, hv, hvo⟩ := valOf_at hany HE.out.1.2.1
          have hfa' : fieldAt F s < nv := by rw [← HE.out.2.2.2.2.2]; exact hfa
          obtain ⟨b3, o3, v', hVe, hbl3, hlv, hwf, z0, z1, z2⟩ := Val_at (HX.out.2.2.2.2.2.1.now hBr) hfa'
          obtain rfl : v = v' := Option.some.inj (hv.symm.trans hlv)
          have hvc := valsErr_ok HE.out.1.2.2.1 v (List.mem_of_getElem? hv)
          have hkn := fun w => value_Known v.k v.n v.s w (inS_max hwf.2.2)
          rw [show (⟨v.k, v.n, v.s⟩ : Val) = v from rfl, lacks_known hvo hvc] at hkn
          have hVE := Lib.hid hVe
          subst hVe
          have hbl3' : b3 < wr.heap.size := hbl3
          have hfr : findRes (hasName s) F = ((fieldAt F s : Int), 0) := by unfold findRes; rw [hany]; rfl
          have hfi' := fun w h => hfi s w h
          rw [hfr] at hfi'
          generalize fieldAt F s = fa at *
          have hfai : (fa : Int) < (nv : Int) := by omega
          have htl : (lackL F V (p.fields.take k)).length ≤ 14 := by
            have := lackL_len F V (p.fields.take k)
            rw [List.length_take] at this
            omega
          dsimp only at hfi'
          cases hlk : lacks F V s
          · rw [hlk] at hkn
            have HT := Lib.hid (lackL_no hls hlk)
            clear hlk hls hv hvo hlv hwf hvc hbl hbl3 hany hfa hfa' hfr hsi
            go_wp2_with (first
              | (go_at_call 57; refine (hfi' _ (HX.out.1.2.2.2.2.1.nowN keeps_Fld (show Below w.heap.size w _ from bel))).mono ?_; rintro e w4 ⟨rfl, hb4⟩; obtain ⟨hc4, hf4⟩ := bcell hb4; (try simp only [World.heap_drewN, World.cell?_drewN, World.frozen?_drewN] at hc4 hf4); have hz4 := hb4.size; (try simp at hz4); (try (have hy4 := Nat.lt_of_succ_le hz4)); (try (have hx4 := Nat.lt_of_succ_lt hy4)); refine szz w4 wr ?_; intros)
              | (go_at_call 69; refine (hkn _).mono ?_; rintro e w5 ⟨rfl, hb5⟩; obtain ⟨hc5, hf5⟩ := bcell hb5; (try simp only [World.heap_drewN, World.cell?_drewN, World.frozen?_drewN] at hc5 hf5); have hz5 := hb5.size; (try simp at hz5); (try (have hy5 := Nat.lt_of_succ_le hz5)); (try (have hx5 := Nat.lt_of_succ_lt hy5)); refine szz w5 wr ?_; intros; refine szz w5 w4 ?_; intros))
            go_roundw
            case rel => exact ⟨k + 1, by omega, by go_num, Lib.hid (by rw [HT.out]; exact ownsRow_keep hown.out (show Below wr.heap.size wr w5 from bel)), below_step hbr (show Below wr.heap.size wr w5 from bel) hbr.size⟩
            case measure => simp [intOf]; omega
          · rw [hlk] at hkn
            have HT := Lib.hid (lackL_yes hls hlk)
            clear hlk hls hv hvo hlv hwf hvc hbl hbl3 hany hfa hfa' hfr hsi
            go_wp2_with (first
              | (go_at_call 57; refine (hfi' _ (HX.out.1.2.2.2.2.1.nowN keeps_Fld (show Below w.heap.size w _ from bel))).mono ?_; rintro e w4 ⟨rfl, hb4⟩; obtain ⟨hc4, hf4⟩ := bcell hb4; (try simp only [World.heap_drewN, World.cell?_drewN, World.frozen?_drewN] at hc4 hf4); have hz4 := hb4.size; (try simp at hz4); (try (have hy4 := Nat.lt_of_succ_le hz4)); (try (have hx4 := Nat.lt_of_succ_lt hy4)); refine szz w4 wr ?_; intros)
              | (go_at_call 69; refine (hkn _).mono ?_; rintro e w5 ⟨rfl, hb5⟩; obtain ⟨hc5, hf5⟩ := bcell hb5; (try simp only [World.heap_drewN, World.cell?_drewN, World.frozen?_drewN] at hc5 hf5); have hz5 := hb5.size; (try simp at hz5); (try (have hy5 := Nat.lt_of_succ_le hz5)); (try (have hx5 := Nat.lt_of_succ_lt hy5)); refine szz w5 wr ?_; intros; refine szz w5 w4 ?_; intros)
              | (at_builtin; refine wpList_append1 rfl _ _ 37 rfl w1.heap.size 9 i0 (.string ⟨#[]⟩) 1 16 Tryz.underlying37 ei ez0 ez1 ez2 rfl (by decide) _ (lackL F V (p.fields.take k)).length _ rfl (ownsRow_keep hown.out (show Below wr.heap.size wr w5 from bel)) [.string s] 9 rfl _ rfl (by first | rfl | simp) rfl (by simp [Value.oneCell']) (by omega) (by unfold maxLen; omega) (by have := hbr.size; first | omega | (simp; omega)) ?_; intro v6 w6 hown6 hb6 hz6 _))
            go_roundw
            case rel => exact ⟨k + 1, by omega, by go_num, Lib.hid (by rw [HT.out]; rw [List.flatMap_append, List.length_append]; simpa using hown6), below_step (below_step hbr (show Below wr.heap.size wr w5 from bel) hbr.size) hb6 (Nat.le_refl _)⟩
            case measure => simp [intOf]; omega
        · have hke : k = p.fields.length := by omega
          subst hke
          have ho := hown.out
          rw [List.take_length] at ho
          have HO := Lib.hid ho
          clear hown ho
          go_wp2_with fail
          go_ret2
          exact ⟨_, rfl, ownsRow_base HO.out hB1.size, hBr⟩
  · have hr : lackR F P V at_ = ([], walkErr F P V ⟨0, [], false⟩) := lackR_err he
    rw [hr]
    have he' : (walkErr F P V ⟨0, [], false⟩ != 0) = true := by simpa using he
    generalize walkErr F P V ⟨0, [], false⟩ = er at *
    clear hX hY hO he hr hml hpl hvl
    go_enter Tryz.func20, Tryz.ntmps20
    go_wp2_with (go_at_call 19; refine (h1 _ (HX.out.1.now bel) (HX.out.2.now bel)).mono ?_; rintro e w1 ⟨rfl, hb1⟩; obtain ⟨hc1, hf1⟩ := bcell hb1; (try simp only [World.heap_drewN, World.cell?_drewN, World.frozen?_drewN] at hc1 hf1); have hz1 := hb1.size; (try simp at hz1); (try (have hy1 := Nat.lt_of_succ_le hz1)); (try (have hx1 := Nat.lt_of_succ_lt hy1)); refine szz w1 w ?_; intros)
    go_ret2
    exact NilC.own _ _ _ ⟨rfl, bel⟩
set_option maxRecDepth 100000 in
set_option maxHeartbeats 4000000 in
theorem ref_WalkLacks (B : Option Addr) (m d : Nat) (F : List Fld) (A : Option Addr) (n c : Nat) (P : List Pag) (Vb : Option Addr) (nv cv : Nat) (V : List Val) (at_ : Int) (w : World)
    (hX : RFo w B m d F A n c P) (hO : FldsOk F) (hY : RVp w Vb nv cv V none 0 0 []) :
    Calls Tryz.prog 22 #[.agg #[.slice B m d, .slice A n c], .slice Vb nv cv, .int .i64 at_] w (OwnRowC strCs 9 1 w (lackR F P V at_).1 (lackR F P V at_).2) := by
  have h1 := fun w h h' => ref_WalkFault B m d F A n c P Vb nv cv V ⟨0, [], false⟩ none 0 0 w h hO h' inI0
  have hml := hX.2.2.2.2.1.len
  have hpl := hX.2.2.2.2.2.len
  have hvl := hY.2.2.2.2.1.len
  have hn3 := hX.1.l (by decide)
  have HX := Lib.hid (And.intro hX hY)
  dsimp only at h1
  by_cases he : walkErr F P V ⟨0, [], false⟩ = 0
  · rw [he] at h1
    by_cases ha : at_ < 0 ∨ (P.length : Int) ≤ at_
    · rw [lackR_out he ha]
      rw [hpl] at ha
      clear hX hY he hml hpl hvl hO
      by_cases ha0 : at_ < 0
      · have g1 : decide (at_ < 0) = true := by simpa using ha0
        go_enter Tryz.func22, Tryz.ntmps22
        go_wp2_with (go_at_call 21; refine (h1 _ (HX.out.1.now bel) (HX.out.2.now bel)).mono ?_; rintro e w1 ⟨rfl, hb1⟩; obtain ⟨hc1, hf1⟩ := bcell hb1; (try simp only [World.heap_drewN, World.cell?_drewN, World.frozen?_drewN] at hc1 hf1); have hz1 := hb1.size; (try simp at hz1); (try (have hy1 := Nat.lt_of_succ_le hz1)); (try (have hx1 := Nat.lt_of_succ_lt hy1)); refine szz w1 w ?_; intros)
        go_ret2
        exact NilC.own _ _ _ ⟨rfl, bel⟩
      · have ha1 : (n : Int) ≤ at_ := by omega
        have g1 : decide (at_ < 0) = false := by simpa using ha0
        have g2 : decide ((n : Int) ≤ at_) = true := by simpa using ha1
        go_enter Tryz.func22, Tryz.ntmps22
        go_wp2_with (go_at_call 21; refine (h1 _ (HX.out.1.now bel) (HX.out.2.now bel)).mono ?_; rintro e w1 ⟨rfl, hb1⟩; obtain ⟨hc1, hf1⟩ := bcell hb1; (try simp only [World.heap_drewN, World.cell?_drewN, World.frozen?_drewN] at hc1 hf1); have hz1 := hb1.size; (try simp at hz1); (try (have hy1 := Nat.lt_of_succ_le hz1)); (try (have hx1 := Nat.lt_of_succ_lt hy1)); refine szz w1 w ?_; intros)
        go_ret2
        exact NilC.own _ _ _ ⟨rfl, bel⟩
    · obtain ⟨k0, hk0⟩ : ∃ k0 : Nat, at_ = k0 := ⟨at_.toNat, by omega⟩
      subst hk0
      have hk0n : k0 < n := by omega
      have hpp : P[k0]? = some (P[k0]'(by omega)) := List.getElem?_eq_getElem _
      obtain ⟨p, hp⟩ : ∃ p, P[k0]? = some p := ⟨_, hpp⟩
      rw [lackR_in he hp]
      have hz := walkErr_zero he
      have hfl := page_fields_len (formErr_pages hz.1) hp
      have hf14 := (fieldsErr_all (formErr_flds hz.1)).1
      have hnm := fun s => pages_names (s := s) (formErr_pages hz.1) hp
      have g1 : decide ((k0 : Int) < 0) = false := by simp
      have g2 : decide (n ≤ k0) = false := by simp; omega
      have hk0i : (k0 : Int) < (n : Int) := by omega
      obtain ⟨i0, ei, ez0, ez1, ez2⟩ := info_parts Tryz.infoStr'
      have HE := Lib.hid (And.intro hz (And.intro hp (And.intro hnm (And.intro hml (And.intro hpl hvl)))))
      have hfi := fun s w h => ref_FieldAt B m d F s w hn3 h
      clear hX hY he hml hpl hvl hO ha hp hpp hz hnm
      go_enter Tryz.func22, Tryz.ntmps22
      go_upto_region 7 with (go_at_call 21; refine (h1 _ (HX.out.1.now bel) (HX.out.2.now bel)).mono ?_; rintro e w1 ⟨rfl, hb1⟩; obtain ⟨hc1, hf1⟩ := bcell hb1; (try simp only [World.heap_drewN, World.cell?_drewN, World.frozen?_drewN] at hc1 hf1); have hz1 := hb1.size; (try simp at hz1); (try (have hy1 := Nat.lt_of_succ_le hz1)); (try (have hx1 := Nat.lt_of_succ_lt hy1)); refine szz w1 w ?_; intros)
      have hB1 : Below w.heap.size w w1 := bel
      have hlw : w.heap.size < w1.heap.size := by have := hb1.size; simp at this; omega
      have q0 : w1.cell? ⟨w.heap.size, 0, none⟩ = some (.slice B m d) := (hb1.cell (p := ⟨w.heap.size, 0, none⟩) (by simp)).trans (by go_simp)
      have q1 : w1.cell? ⟨w.heap.size, 1, none⟩ = some (.slice A n c) := (hb1.cell (p := ⟨w.heap.size, 1, none⟩) (by simp)).trans (by go_simp)
      obtain ⟨b, o, p', Y, D, X, C, hAe, hbl, hlp, hrep, x0, x1, x2, x3, x4, x5, x6, x7⟩ := Pag_at (HX.out.1.2.2.2.2.2.nowN keeps_Pag hB1) hk0n
      obtain rfl : p = p' := Option.some.inj (HE.out.2.1.symm.trans hlp)
      subst hAe
      have hbl' : b < w1.heap.size := hbl
      obtain ⟨_, r2, r3, r4, _⟩ := hrep.open_
      have HR4 := Lib.hid r4
      have hfl14 : p.fields.length ≤ 14 := by omega
      clear hbl hlp hrep r2 r3 r4
      go_wp2_with fail
      go_loopw [9, 35] (fun v i wr => ∃ k : Nat, k ≤ p.fields.length ∧ i = .int .i64 k ∧ Hid (wr.ownsRow w1.heap.size 9 1 v (lackL F V (p.fields.take k)).length ((lackL F V (p.fields.take k)).flatMap strCs)) ∧ Below w1.heap.size w1 wr) (fun _ i _ => p.fields.length - (intOf i).toNat)
      case atStart => exact ⟨0, by omega, rfl, Lib.hid (by simpa [lackL] using World.ownsRow_nil _ _ _ _), Below.refl _ _⟩
      case round =>
        obtain ⟨k, hk, rfl, hown, hbr⟩ := hrel
        have hBr : Below w.heap.size w wr := below_step hB1 hbr hB1.size
        have r0 := cell_keep q0 hbr
        have hlr : w.heap.size < wr.heap.size := Nat.lt_of_lt_of_le hlw hbr.size
        by_cases hlt : k < p.fields.length
        · obtain ⟨b2, o2, s, hYe, hbl, hls, hsi, y0⟩ := Str_at (HR4.out.now hbr) hlt
          subst hYe
          have hbl2 : b2 < wr.heap.size := hbl
          have hany := HE.out.2.2.1 s (List.mem_of_getElem? hls)
          obtain ⟨hfa, v, hv, hvo⟩ := valOf_at hany HE.out.1.2.1
          have hfa' : fieldAt F s < nv := by rw [← HE.out.2.2.2.2.2]; exact hfa
          obtain ⟨b3, o3, v', hVe, hbl3, hlv, hwf, z0, z1, z2⟩ := Val_at (HX.out.2.2.2.2.2.1.now hBr) hfa'
          obtain rfl : v = v' := Option.some.inj (hv.symm.trans hlv)
          have hvc := valsErr_ok HE.out.1.2.2.1 v (List.mem_of_getElem? hv)
          have hkn : decide (3 < v.k) = lacks F V s := by unfold lacks; rw [hvo]
          have hVE := Lib.hid hVe
          subst hVe
          have hbl3' : b3 < wr.heap.size := hbl3
          have hfi' := fun w h => hfi s w h
          rw [show firstAt (hasName s) F = fieldAt F s from rfl] at hfi'
          generalize fieldAt F s = fa at *
          have hfai : (fa : Int) < (nv : Int) := by omega
          have htl : (lackL F V (p.fields.take k)).length ≤ 14 := by
            have := lackL_len F V (p.fields.take k)
            rw [List.length_take] at this
            omega
          cases hlk : lacks F V s
          · rw [hlk] at hkn
            have HT := Lib.hid (lackL_no hls hlk)
            clear hlk hls hv hvo hlv hwf hvc hbl hbl3 hany hfa hfa' hsi
            go_wp2_with (first
              | (go_at_call 62; refine (hfi' _ (HX.out.1.2.2.2.2.1.nowN keeps_Fld (show Below w.heap.size w _ from bel))).mono ?_; rintro e w4 ⟨rfl, hb4⟩; obtain ⟨hc4, hf4⟩ := bcell hb4; (try simp only [World.heap_drewN, World.cell?_drewN, World.frozen?_drewN] at hc4 hf4); have hz4 := hb4.size; (try simp at hz4); (try (have hy4 := Nat.lt_of_succ_le hz4)); (try (have hx4 := Nat.lt_of_succ_lt hy4)); refine szz w4 wr ?_; intros)
              | fail)
            go_roundw
            case rel => exact ⟨k + 1, by omega, by go_num, Lib.hid (by rw [HT.out]; exact ownsRow_keep hown.out (show Below wr.heap.size wr w4 from bel)), below_step hbr (show Below wr.heap.size wr w4 from bel) hbr.size⟩
            case measure => simp [intOf]; omega
          · rw [hlk] at hkn
            have HT := Lib.hid (lackL_yes hls hlk)
            clear hlk hls hv hvo hlv hwf hvc hbl hbl3 hany hfa hfa' hsi
            go_wp2_with (first
              | (go_at_call 62; refine (hfi' _ (HX.out.1.2.2.2.2.1.nowN keeps_Fld (show Below w.heap.size w _ from bel))).mono ?_; rintro e w4 ⟨rfl, hb4⟩; obtain ⟨hc4, hf4⟩ := bcell hb4; (try simp only [World.heap_drewN, World.cell?_drewN, World.frozen?_drewN] at hc4 hf4); have hz4 := hb4.size; (try simp at hz4); (try (have hy4 := Nat.lt_of_succ_le hz4)); (try (have hx4 := Nat.lt_of_succ_lt hy4)); refine szz w4 wr ?_; intros)
              | (at_builtin; refine wpList_append1 rfl _ _ 37 rfl w1.heap.size 9 i0 (.string ⟨#[]⟩) 1 16 Tryz.underlying37 ei ez0 ez1 ez2 rfl (by decide) _ (lackL F V (p.fields.take k)).length _ rfl (ownsRow_keep hown.out (show Below wr.heap.size wr w4 from bel)) [.string s] 9 rfl _ rfl (by first | rfl | simp) rfl (by simp [Value.oneCell']) (by omega) (by unfold maxLen; omega) (by have := hbr.size; first | omega | (simp; omega)) ?_; intro v6 w6 hown6 hb6 hz6 _))
            go_roundw
            case rel => exact ⟨k + 1, by omega, by go_num, Lib.hid (by rw [HT.out]; rw [List.flatMap_append, List.length_append]; simpa using hown6), below_step (below_step hbr (show Below wr.heap.size wr w4 from bel) hbr.size) hb6 (Nat.le_refl _)⟩
            case measure => simp [intOf]; omega
        · have hke : k = p.fields.length := by omega
          subst hke
          have ho := hown.out
          rw [List.take_length] at ho
          have HO := Lib.hid ho
          clear hown ho
          go_wp2_with fail
          go_ret2
          exact ⟨_, rfl, ownsRow_base HO.out hB1.size, hBr⟩
  · have hr : lackR F P V at_ = ([], walkErr F P V ⟨0, [], false⟩) := lackR_err he
    rw [hr]
    have he' : (walkErr F P V ⟨0, [], false⟩ != 0) = true := by simpa using he
    generalize walkErr F P V ⟨0, [], false⟩ = er at *
    clear hX hY hO he hr hml hpl hvl
    go_enter Tryz.func22, Tryz.ntmps22
    go_wp2_with (go_at_call 21; refine (h1 _ (HX.out.1.now bel) (HX.out.2.now bel)).mono ?_; rintro e w1 ⟨rfl, hb1⟩; obtain ⟨hc1, hf1⟩ := bcell hb1; (try simp only [World.heap_drewN, World.cell?_drewN, World.frozen?_drewN] at hc1 hf1); have hz1 := hb1.size; (try simp at hz1); (try (have hy1 := Nat.lt_of_succ_le hz1)); (try (have hx1 := Nat.lt_of_succ_lt hy1)); refine szz w1 w ?_; intros)
    go_ret2
    exact NilC.own _ _ _ ⟨rfl, bel⟩
end Go.Proofs.YtbhkpepinogigaaGreat
