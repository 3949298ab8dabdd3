/- The reference ValueBy. -/
import Derived.Test.YtekeacihdmbbjaaEvo
import Derived.Test.YtekeacihdmbbjaaValu
import Derived.Test.YtekeacihdmbbjaaPrt4
namespace Go.Proofs.Ytekeacihdmbbjaa
open Go.RowKit Go.Maps

set_option maxRecDepth 100000 in
set_option maxHeartbeats 8000000 in
theorem ref_ValueBy (l : List Fct) (L : Option Addr) (n d : Nat) (x : Exp) (A : Option Addr) (c : Nat) (w : World) (hn : inL n) (hx : XRep w (old w) (x.cs A c) x) (hl : Sl w (old w) 7 RFct L n l) :
    Calls Try.prog 51 #[.agg (x.cs A c).toArray, .slice L n d] w (RetVE w (evalRes l x)) := by
  have hck := fun w h => ref_ExprFault x A c w h
  have hn' := hn
  unfold inL at hn
  have HH := Lib.hid (And.intro hx (And.intro hl hl.len))
  clear hx hl
  by_cases he : exprErr x = 0
  · have HP := Lib.hid (And.intro he (prt_of_exprErr he))
    obtain ⟨res, hres⟩ : ∃ r, evalRes l x = r := ⟨_, rfl⟩
    rw [hres]
    have HR := Lib.hid hres
    have HN := Lib.hid hn'
    simp only [he] at hck
    clear he hres hn'
    go_enter Try.func51, Try.ntmps51
    go_wp2_with (go_at_call 23; refine (hck _ (HH.out.1.keep (old_keep bel))).mono ?_; rintro e w1 ⟨rfl, hb1⟩; obtain ⟨hc1, hf1⟩ := bcell hb1; (try simp only [World.heap_drewN, World.cell?_drewN, World.frozen?_drewN] at hc1 hf1); have hz1 := hb1.size; (try simp at hz1); (try (have hy1 := Nat.lt_of_succ_le hz1)); (try (have hx1 := Nat.lt_of_succ_lt hy1)); (try (have hl1_w_0 : w.heap.size < w1.heap.size := by omega)); (try (have hm1_w_0 : w.heap.size ≤ w1.heap.size := by omega)); (try (have hl1_w_1 : w.heap.size + 1 < w1.heap.size := by omega)); (try (have hm1_w_1 : w.heap.size + 1 ≤ w1.heap.size := by omega)); (try (have hl1_w_2 : w.heap.size + 2 < w1.heap.size := by omega)); (try (have hm1_w_2 : w.heap.size + 2 ≤ w1.heap.size := by omega)); (try (have hl1_w_3 : w.heap.size + 3 < w1.heap.size := by omega)); (try (have hm1_w_3 : w.heap.size + 3 ≤ w1.heap.size := by omega)); (try (have hl1_w_4 : w.heap.size + 4 < w1.heap.size := by omega)); (try (have hm1_w_4 : w.heap.size + 4 ≤ w1.heap.size := by omega)); (try (have hl1_w_5 : w.heap.size + 5 < w1.heap.size := by omega)); (try (have hm1_w_5 : w.heap.size + 5 ≤ w1.heap.size := by omega)); (try (have hl1_w_6 : w.heap.size + 6 < w1.heap.size := by omega)); (try (have hm1_w_6 : w.heap.size + 6 ≤ w1.heap.size := by omega)))
    have HB1 := Lib.hid (show Below w.heap.size w w1 from bel)
    have d0 : w1.cell? ⟨w.heap.size, 0, none⟩ = some (.int .i64 x.op) := by go_simp
    have d1 : w1.cell? ⟨w.heap.size, 1, none⟩ = some (.int .i64 x.v.k) := by go_simp
    have d2 : w1.cell? ⟨w.heap.size, 2, none⟩ = some (.int .i64 x.v.n) := by go_simp
    have d3 : w1.cell? ⟨w.heap.size, 3, none⟩ = some (.string x.v.s) := by go_simp
    have d4 : w1.cell? ⟨w.heap.size, 4, none⟩ = some (.string x.name) := by go_simp
    have d5 : w1.cell? ⟨w.heap.size, 5, none⟩ = some (.slice A x.args.length c) := by go_simp
    have r0 : w1.cell? ⟨w.heap.size + 1, 0, none⟩ = some (.int .i64 0) := by go_simp
    have r1 : w1.cell? ⟨w.heap.size + 1, 1, none⟩ = some (.int .i64 0) := by go_simp
    have r2 : w1.cell? ⟨w.heap.size + 1, 2, none⟩ = some (.string ⟨#[]⟩) := by go_simp
    have q0 : w1.frozen? ⟨w.heap.size + 1, 0, none⟩ = false := by go_simp
    have q1 : w1.frozen? ⟨w.heap.size + 1, 1, none⟩ = false := by go_simp
    have q2 : w1.frozen? ⟨w.heap.size + 1, 2, none⟩ = false := by go_simp
    have hs1 : w.heap.size < w1.heap.size := by omega
    have hs2 : w.heap.size + 1 < w1.heap.size := by omega
    clear hc1 hf1 hb1
    go_loopw [18] (fun i wr => ∃ k : Nat, k ≤ n ∧ i = .int .i64 k ∧ Hid (firstErr (hasErr l) k = 0) ∧ Below w1.heap.size w1 wr) (fun i _ => n - (intOf i).toNat)
    case atStart => exact ⟨0, by omega, rfl, Lib.hid rfl, Below.refl _ _⟩
    case round =>
      obtain ⟨k, hk, rfl, hz, hbr⟩ := hrel
      have HBr := Lib.hid (show Below w.heap.size w wr from below_step HB1.out hbr (by omega))
      obtain ⟨hcr, hfr⟩ := bcell hbr; (try simp only [World.heap_drewN, World.cell?_drewN, World.frozen?_drewN] at hcr hfr); have hzr := hbr.size; (try simp at hzr); (try (have hyr := Nat.lt_of_succ_le hzr)); (try (have hxr := Nat.lt_of_succ_lt hyr)); (try (have hlr_w_0 : w.heap.size < wr.heap.size := by omega)); (try (have hmr_w_0 : w.heap.size ≤ wr.heap.size := by omega)); (try (have hlr_w_1 : w.heap.size + 1 < wr.heap.size := by omega)); (try (have hmr_w_1 : w.heap.size + 1 ≤ wr.heap.size := by omega)); (try (have hlr_w_2 : w.heap.size + 2 < wr.heap.size := by omega)); (try (have hmr_w_2 : w.heap.size + 2 ≤ wr.heap.size := by omega)); (try (have hlr_w_3 : w.heap.size + 3 < wr.heap.size := by omega)); (try (have hmr_w_3 : w.heap.size + 3 ≤ wr.heap.size := by omega)); (try (have hlr_w_4 : w.heap.size + 4 < wr.heap.size := by omega)); (try (have hmr_w_4 : w.heap.size + 4 ≤ wr.heap.size := by omega)); (try (have hlr_w_5 : w.heap.size + 5 < wr.heap.size := by omega)); (try (have hmr_w_5 : w.heap.size + 5 ≤ wr.heap.size := by omega)); (try (have hlr_w_6 : w.heap.size + 6 < wr.heap.size := by omega)); (try (have hmr_w_6 : w.heap.size + 6 ≤ wr.heap.size := by omega)); (try (have hlr_w1_0 : w1.heap.size < wr.heap.size := by omega)); (try (have hmr_w1_0 : w1.heap.size ≤ wr.heap.size := by omega)); (try (have hlr_w1_1 : w1.heap.size + 1 < wr.heap.size := by omega)); (try (have hmr_w1_1 : w1.heap.size + 1 ≤ wr.heap.size := by omega)); (try (have hlr_w1_2 : w1.heap.size + 2 < wr.heap.size := by omega)); (try (have hmr_w1_2 : w1.heap.size + 2 ≤ wr.heap.size := by omega)); (try (have hlr_w1_3 : w1.heap.size + 3 < wr.heap.size := by omega)); (try (have hmr_w1_3 : w1.heap.size + 3 ≤ wr.heap.size := by omega)); (try (have hlr_w1_4 : w1.heap.size + 4 < wr.heap.size := by omega)); (try (have hmr_w1_4 : w1.heap.size + 4 ≤ wr.heap.size := by omega)); (try (have hlr_w1_5 : w1.heap.size + 5 < wr.heap.size := by omega)); (try (have hmr_w1_5 : w1.heap.size + 5 ≤ wr.heap.size := by omega)); (try (have hlr_w1_6 : w1.heap.size + 6 < wr.heap.size := by omega)); (try (have hmr_w1_6 : w1.heap.size + 6 ≤ wr.heap.size := by omega))
      have hBw := HBr.out
      by_cases hlt : k < n
      · obtain ⟨b, o, y, rfl, hbl, hy, hwf, x0, x1, x2, x3, x4, x5, x6⟩ := Fct_at (HH.out.2.1.now HBr.out) hlt
        have hbl' : b < wr.heap.size := hbl
        have hch := fun w => ref_ValueFault y.has.k y.has.n y.has.s w (inS_max hwf.2.2.2.2)
        rw [show (⟨y.has.k, y.has.n, y.has.s⟩ : Val) = y.has from rfl] at hch
        have HL := Lib.hid hy
        clear hy hwf hbl
        by_cases hv : valCheck y.has = 0
        · have HV := Lib.hid hv
          rw [hv] at hch
          clear hv
          go_wp2_with (go_at_call 90; refine (hch _).mono ?_; rintro e w2 ⟨rfl, hb2⟩; obtain ⟨hc2, hf2⟩ := bcell hb2; (try simp only [World.heap_drewN, World.cell?_drewN, World.frozen?_drewN] at hc2 hf2); have hz2 := hb2.size; (try simp at hz2); (try (have hy2 := Nat.lt_of_succ_le hz2)); (try (have hx2 := Nat.lt_of_succ_lt hy2)); (try (have hl2_w_0 : w.heap.size < w2.heap.size := by omega)); (try (have hm2_w_0 : w.heap.size ≤ w2.heap.size := by omega)); (try (have hl2_w_1 : w.heap.size + 1 < w2.heap.size := by omega)); (try (have hm2_w_1 : w.heap.size + 1 ≤ w2.heap.size := by omega)); (try (have hl2_w_2 : w.heap.size + 2 < w2.heap.size := by omega)); (try (have hm2_w_2 : w.heap.size + 2 ≤ w2.heap.size := by omega)); (try (have hl2_w_3 : w.heap.size + 3 < w2.heap.size := by omega)); (try (have hm2_w_3 : w.heap.size + 3 ≤ w2.heap.size := by omega)); (try (have hl2_w_4 : w.heap.size + 4 < w2.heap.size := by omega)); (try (have hm2_w_4 : w.heap.size + 4 ≤ w2.heap.size := by omega)); (try (have hl2_w_5 : w.heap.size + 5 < w2.heap.size := by omega)); (try (have hm2_w_5 : w.heap.size + 5 ≤ w2.heap.size := by omega)); (try (have hl2_w_6 : w.heap.size + 6 < w2.heap.size := by omega)); (try (have hm2_w_6 : w.heap.size + 6 ≤ w2.heap.size := by omega)); (try (have hl2_wr_0 : wr.heap.size < w2.heap.size := by omega)); (try (have hm2_wr_0 : wr.heap.size ≤ w2.heap.size := by omega)); (try (have hl2_wr_1 : wr.heap.size + 1 < w2.heap.size := by omega)); (try (have hm2_wr_1 : wr.heap.size + 1 ≤ w2.heap.size := by omega)); (try (have hl2_wr_2 : wr.heap.size + 2 < w2.heap.size := by omega)); (try (have hm2_wr_2 : wr.heap.size + 2 ≤ w2.heap.size := by omega)); (try (have hl2_wr_3 : wr.heap.size + 3 < w2.heap.size := by omega)); (try (have hm2_wr_3 : wr.heap.size + 3 ≤ w2.heap.size := by omega)); (try (have hl2_wr_4 : wr.heap.size + 4 < w2.heap.size := by omega)); (try (have hm2_wr_4 : wr.heap.size + 4 ≤ w2.heap.size := by omega)); (try (have hl2_wr_5 : wr.heap.size + 5 < w2.heap.size := by omega)); (try (have hm2_wr_5 : wr.heap.size + 5 ≤ w2.heap.size := by omega)); (try (have hl2_wr_6 : wr.heap.size + 6 < w2.heap.size := by omega)); (try (have hm2_wr_6 : wr.heap.size + 6 ≤ w2.heap.size := by omega)))
          go_roundw
          case rel => exact ⟨k + 1, by omega, by go_num, Lib.hid (firstErr_next hz.out ((hasErr_at HL.out).trans HV.out)), below_step hbr (show Below wr.heap.size wr _ from bel) (by omega)⟩
          case measure => simp [intOf]; omega
        · have HE := Lib.hid (show (noVal, valCheck y.has) = res by rw [← HR.out]; exact (evalRes_fct HP.out.1 (factsErr_hit hz.out HL.out hv) hv).symm)
          generalize valCheck y.has = ve at hch hv HE
          have hv' : (ve != 0) = true := by simpa using hv
          clear hv
          go_wp2_with (go_at_call 90; refine (hch _).mono ?_; rintro e w2 ⟨rfl, hb2⟩; obtain ⟨hc2, hf2⟩ := bcell hb2; (try simp only [World.heap_drewN, World.cell?_drewN, World.frozen?_drewN] at hc2 hf2); have hz2 := hb2.size; (try simp at hz2); (try (have hy2 := Nat.lt_of_succ_le hz2)); (try (have hx2 := Nat.lt_of_succ_lt hy2)); (try (have hl2_w_0 : w.heap.size < w2.heap.size := by omega)); (try (have hm2_w_0 : w.heap.size ≤ w2.heap.size := by omega)); (try (have hl2_w_1 : w.heap.size + 1 < w2.heap.size := by omega)); (try (have hm2_w_1 : w.heap.size + 1 ≤ w2.heap.size := by omega)); (try (have hl2_w_2 : w.heap.size + 2 < w2.heap.size := by omega)); (try (have hm2_w_2 : w.heap.size + 2 ≤ w2.heap.size := by omega)); (try (have hl2_w_3 : w.heap.size + 3 < w2.heap.size := by omega)); (try (have hm2_w_3 : w.heap.size + 3 ≤ w2.heap.size := by omega)); (try (have hl2_w_4 : w.heap.size + 4 < w2.heap.size := by omega)); (try (have hm2_w_4 : w.heap.size + 4 ≤ w2.heap.size := by omega)); (try (have hl2_w_5 : w.heap.size + 5 < w2.heap.size := by omega)); (try (have hm2_w_5 : w.heap.size + 5 ≤ w2.heap.size := by omega)); (try (have hl2_w_6 : w.heap.size + 6 < w2.heap.size := by omega)); (try (have hm2_w_6 : w.heap.size + 6 ≤ w2.heap.size := by omega)); (try (have hl2_wr_0 : wr.heap.size < w2.heap.size := by omega)); (try (have hm2_wr_0 : wr.heap.size ≤ w2.heap.size := by omega)); (try (have hl2_wr_1 : wr.heap.size + 1 < w2.heap.size := by omega)); (try (have hm2_wr_1 : wr.heap.size + 1 ≤ w2.heap.size := by omega)); (try (have hl2_wr_2 : wr.heap.size + 2 < w2.heap.size := by omega)); (try (have hm2_wr_2 : wr.heap.size + 2 ≤ w2.heap.size := by omega)); (try (have hl2_wr_3 : wr.heap.size + 3 < w2.heap.size := by omega)); (try (have hm2_wr_3 : wr.heap.size + 3 ≤ w2.heap.size := by omega)); (try (have hl2_wr_4 : wr.heap.size + 4 < w2.heap.size := by omega)); (try (have hm2_wr_4 : wr.heap.size + 4 ≤ w2.heap.size := by omega)); (try (have hl2_wr_5 : wr.heap.size + 5 < w2.heap.size := by omega)); (try (have hm2_wr_5 : wr.heap.size + 5 ≤ w2.heap.size := by omega)); (try (have hl2_wr_6 : wr.heap.size + 6 < w2.heap.size := by omega)); (try (have hm2_wr_6 : wr.heap.size + 6 ≤ w2.heap.size := by omega)))
          exact bodyPost_ret (v := .tuple #[.agg #[.int .i64 0, .int .i64 0, .string ⟨#[]⟩], .int .i64 ve]) (by first | (simp [results, Try.results51, go_sem]; done) | (simp [results, Try.results51, go_sem, *]; done)) rfl ⟨by rw [← HE.out]; rfl, bel⟩
      · have hke : k = n := by omega
        have hfe : factsErr l = 0 := by unfold factsErr; rw [HH.out.2.2, ← hke]; exact hz.out
        have hvl := fun w h h' => valued_N l (factsErr_ok hfe) L n d HN.out x.nodes x A c w (Nat.le_refl _) HP.out.2 h h'
        have HE := Lib.hid (show (evX l x, 0) = res by rw [← HR.out]; exact (evalRes_ok HP.out.1 hfe).symm)
        generalize evX l x = u at hvl HE
        clear hfe hz
        subst hke
        go_wp2_with (go_at_call 98; refine (hvl _ (HH.out.1.keep (old_keep bel)) (HH.out.2.1.now bel)).mono ?_; rintro e w3 ⟨rfl, hb3⟩; obtain ⟨hc3, hf3⟩ := bcell hb3; (try simp only [World.heap_drewN, World.cell?_drewN, World.frozen?_drewN] at hc3 hf3); have hz3 := hb3.size; (try simp at hz3); (try (have hy3 := Nat.lt_of_succ_le hz3)); (try (have hx3 := Nat.lt_of_succ_lt hy3)); (try (have hl3_w_0 : w.heap.size < w3.heap.size := by omega)); (try (have hm3_w_0 : w.heap.size ≤ w3.heap.size := by omega)); (try (have hl3_w_1 : w.heap.size + 1 < w3.heap.size := by omega)); (try (have hm3_w_1 : w.heap.size + 1 ≤ w3.heap.size := by omega)); (try (have hl3_w_2 : w.heap.size + 2 < w3.heap.size := by omega)); (try (have hm3_w_2 : w.heap.size + 2 ≤ w3.heap.size := by omega)); (try (have hl3_w_3 : w.heap.size + 3 < w3.heap.size := by omega)); (try (have hm3_w_3 : w.heap.size + 3 ≤ w3.heap.size := by omega)); (try (have hl3_w_4 : w.heap.size + 4 < w3.heap.size := by omega)); (try (have hm3_w_4 : w.heap.size + 4 ≤ w3.heap.size := by omega)); (try (have hl3_w_5 : w.heap.size + 5 < w3.heap.size := by omega)); (try (have hm3_w_5 : w.heap.size + 5 ≤ w3.heap.size := by omega)); (try (have hl3_w_6 : w.heap.size + 6 < w3.heap.size := by omega)); (try (have hm3_w_6 : w.heap.size + 6 ≤ w3.heap.size := by omega)); (try (have hl3_wr_0 : wr.heap.size < w3.heap.size := by omega)); (try (have hm3_wr_0 : wr.heap.size ≤ w3.heap.size := by omega)); (try (have hl3_wr_1 : wr.heap.size + 1 < w3.heap.size := by omega)); (try (have hm3_wr_1 : wr.heap.size + 1 ≤ w3.heap.size := by omega)); (try (have hl3_wr_2 : wr.heap.size + 2 < w3.heap.size := by omega)); (try (have hm3_wr_2 : wr.heap.size + 2 ≤ w3.heap.size := by omega)); (try (have hl3_wr_3 : wr.heap.size + 3 < w3.heap.size := by omega)); (try (have hm3_wr_3 : wr.heap.size + 3 ≤ w3.heap.size := by omega)); (try (have hl3_wr_4 : wr.heap.size + 4 < w3.heap.size := by omega)); (try (have hm3_wr_4 : wr.heap.size + 4 ≤ w3.heap.size := by omega)); (try (have hl3_wr_5 : wr.heap.size + 5 < w3.heap.size := by omega)); (try (have hm3_wr_5 : wr.heap.size + 5 ≤ w3.heap.size := by omega)); (try (have hl3_wr_6 : wr.heap.size + 6 < w3.heap.size := by omega)); (try (have hm3_wr_6 : wr.heap.size + 6 ≤ w3.heap.size := by omega)); dsimp only)
        exact bodyPost_ret (v := .tuple #[.agg #[.int .i64 u.k, .int .i64 u.n, .string u.s], .int .i64 0]) (by first | (simp [results, Try.results51, go_sem]; done) | (simp [results, Try.results51, go_sem, *]; done)) rfl ⟨by rw [← HE.out], bel⟩
  · obtain ⟨ee, hee⟩ : ∃ e, exprErr x = e := ⟨_, rfl⟩
    rw [evalRes_bad hee (by rw [← hee]; exact he)]
    have heb : (ee != 0) = true := by rw [← hee]; simpa using he
    simp only [hee] at hck
    clear he hee
    go_enter Try.func51, Try.ntmps51
    go_wp2_with (go_at_call 23; refine (hck _ (HH.out.1.keep (old_keep bel))).mono ?_; rintro e w1 ⟨rfl, hb1⟩; obtain ⟨hc1, hf1⟩ := bcell hb1; (try simp only [World.heap_drewN, World.cell?_drewN, World.frozen?_drewN] at hc1 hf1); have hz1 := hb1.size; (try simp at hz1); (try (have hy1 := Nat.lt_of_succ_le hz1)); (try (have hx1 := Nat.lt_of_succ_lt hy1)); (try (have hl1_w_0 : w.heap.size < w1.heap.size := by omega)); (try (have hm1_w_0 : w.heap.size ≤ w1.heap.size := by omega)); (try (have hl1_w_1 : w.heap.size + 1 < w1.heap.size := by omega)); (try (have hm1_w_1 : w.heap.size + 1 ≤ w1.heap.size := by omega)); (try (have hl1_w_2 : w.heap.size + 2 < w1.heap.size := by omega)); (try (have hm1_w_2 : w.heap.size + 2 ≤ w1.heap.size := by omega)); (try (have hl1_w_3 : w.heap.size + 3 < w1.heap.size := by omega)); (try (have hm1_w_3 : w.heap.size + 3 ≤ w1.heap.size := by omega)); (try (have hl1_w_4 : w.heap.size + 4 < w1.heap.size := by omega)); (try (have hm1_w_4 : w.heap.size + 4 ≤ w1.heap.size := by omega)); (try (have hl1_w_5 : w.heap.size + 5 < w1.heap.size := by omega)); (try (have hm1_w_5 : w.heap.size + 5 ≤ w1.heap.size := by omega)); (try (have hl1_w_6 : w.heap.size + 6 < w1.heap.size := by omega)); (try (have hm1_w_6 : w.heap.size + 6 ≤ w1.heap.size := by omega)))
    exact bodyPost_ret (v := .tuple #[.agg #[.int .i64 0, .int .i64 0, .string ⟨#[]⟩], .int .i64 ee]) (by first | (simp [results, Try.results51, go_sem]; done) | (simp [results, Try.results51, go_sem, *]; done)) rfl ⟨rfl, bel⟩
end Go.Proofs.Ytekeacihdmbbjaa
