/- The reference FormCopy. -/
import Derived.Test.YtgmcojnhpedpnaaGreatCop2
import Derived.Test.YtgmcojnhpedpnaaGreatCopr
import Derived.Test.YtgmcojnhpedpnaaGreatFcp
import Derived.Test.YtgmcojnhpedpnaaGreatRegT
namespace Go.Proofs.YtgmcojnhpedpnaaGreat
open Go.RowKit

theorem since_keep {B : Nat} {w w' : World} (hb : Below w.heap.size w w') : ∀ b, since B w b → since B w' b ∧ w'.heap[b]? = w.heap[b]? :=
  fun b h => ⟨⟨h.1, Nat.lt_of_lt_of_le h.2 hb.size⟩, hb.block b h.2⟩
/-- A copied page, out of what its two parts are. -/
theorem copied_page {p : Pag} {A2 A3 : Option Addr} {c2 c3 base B2 : Nat} {v : Value} {wE : World} (hS : inS p.name) (h16 : inB 16 p.fields.length) (hc2 : p.fields.length ≤ c2)
    (hs2 : Sl wE (since B2 wE) 1 RStr A2 p.fields.length p.fields)
    (hx3 : XRep wE (since B2 wE) [.int .i64 p.skip.op, .int .i64 p.skip.v.k, .int .i64 p.skip.v.n, .string p.skip.v.s, .string p.skip.name, .slice A3 p.skip.args.length c3] p.skip)
    (hv : ∀ k, v.ownBlock = some k → k < B2) (hB : base ≤ B2) :
    RPag wE (beside base v wE) [.string p.name, .slice A2 p.fields.length c2, .int .i64 p.skip.op, .int .i64 p.skip.v.k, .int .i64 p.skip.v.n, .string p.skip.v.s, .string p.skip.name, .slice A3 p.skip.args.length c3] p := by
  have hk : ∀ b, since B2 wE b → beside base v wE b := fun b hb => ⟨by have := hb.1; omega, hb.2, fun e => by have := hv b e.symm; have := hb.1; omega⟩
  exact ⟨hS, A2, _, c2, _, rfl, h16, hc2, hs2.mono hk, hx3.keep fun b hb => ⟨hk b hb, rfl⟩⟩
/-- The ending with a form in new memory. -/
def RetFrm (w : World) (F : List Fld) (l : List Pag) (e : Ending) (w' : World) : Prop :=
  ∃ A1 c1 A2 c2, e = .returned (.agg #[.slice A1 F.length c1, .slice A2 l.length c2]) ∧ F.length ≤ c1 ∧ l.length ≤ c2 ∧ Sl w' (since w.heap.size w') 9 (RFld w' (since w.heap.size w')) A1 F.length F ∧
    Sl w' (since w.heap.size w') 8 (RPag w' (since w.heap.size w')) A2 l.length l ∧ Below w.heap.size w w'
set_option maxRecDepth 100000 in
set_option maxHeartbeats 4000000 in
theorem ref_FormCopy (B : Option Addr) (m d : Nat) (F : List Fld) (A : Option Addr) (n c : Nat) (l : List Pag) (w : World) (hm : inB 112 m) (hF : Sl w (old w) 9 (RFld w (old w)) B m F) (hn : inB 120 n) (h : Sl w (old w) 8 (RPag w (old w)) A n l) :
    Calls Tryz.prog 21 #[.agg #[.slice B m d, .slice A n c]] w (RetFrm w F l) := by
  obtain ⟨j0, hj0, iz0, iz1, iz2⟩ := info_parts Tryz.infoPag
  obtain ⟨k0, hk0, sz0, sz1, sz2⟩ := info_parts Tryz.infoStr'
  have HH := Lib.hid (And.intro h hF)
  have HLN := Lib.hid h.len
  unfold inB at hn
  clear h hF
  go_enter Tryz.func21, Tryz.ntmps21
  go_wp2_with fail
  refine (ref_FieldsCopy B m d F _ hm (HH.out.2.nowN keeps_Fld bel)).mono ?_; rintro e w1 ⟨A1, c1, rfl, hlc1, hs1, hb1⟩; obtain ⟨hc1, hf1⟩ := bcell hb1; (try simp only [World.heap_drewN, World.cell?_drewN, World.frozen?_drewN] at hc1 hf1); have hz1 := hb1.size; (try simp at hz1); (try (have hy1 := Nat.lt_of_succ_le hz1)); (try (have hx1 := Nat.lt_of_succ_lt hy1)); (first | refine szz6 w1 w (by omega) ?_ | refine szz5 w1 w (by omega) ?_ | refine szz4 w1 w (by omega) ?_ | refine szz3 w1 w (by omega) ?_ | refine szz2 w1 w (by omega) ?_ | refine szz1 w1 w (by omega) ?_ | refine szz0 w1 w (by omega) ?_ | refine szzn w1 w (by omega) ?_ | skip); intros
  have HF1 := Lib.hid (And.intro hlc1 hs1)
  clear hlc1 hs1
  go_wp2_with fail
  go_loopw [13] (fun i wr => ∃ (k : Nat) (A' : Option Addr) (c' : Nat), k ≤ n ∧ i = .int .i64 k ∧ wr.cell? ⟨w1.heap.size, 0, none⟩ = some (.slice A1 F.length c1) ∧ wr.cell? ⟨w1.heap.size, 1, none⟩ = some (.slice A' k c') ∧ wr.frozen? ⟨w1.heap.size, 1, none⟩ = false ∧ Hid (Own wr (w1.heap.size + 1) 70 8 RPag (.slice A' k c') (l.take k)) ∧ Below w1.heap.size w1 wr ∧ w1.heap.size + 1 ≤ wr.heap.size) (fun i _ => n - (intOf i).toNat)
  case atStart => exact ⟨0, none, 0, by omega, rfl, by go_simp, by go_simp, by go_simp, Lib.hid Own.nil, bel, by simp⟩
  case round =>
    obtain ⟨k, A', c', hk, rfl, q0, q1, qf, hown, hbr1, hbase⟩ := hrel
    have hbr : Below w.heap.size w wr := below_step (bel : Below w.heap.size w w1) hbr1 (by omega)
    by_cases hlt : k < n
    · obtain ⟨b, o, p, Y, D, X, C, hAe, hbl, hl, hrep, x0, x1, x2, x3, x4, x5, x6, x7⟩ := Pag_at (HH.out.1.nowN keeps_Pag hbr) hlt
      subst hAe
      have hbl' : b < wr.heap.size := hbl
      obtain ⟨r1, r2, r3, r4, r5⟩ := hrep.open_
      have hlk : (l.take k).length = k := by rw [List.length_take, HLN.out]; omega
      have HO := Lib.hid (And.intro hl (And.intro r1 (And.intro r2 (And.intro r4 (And.intro r5 hlk)))))
      have h16 : p.fields.length * 16 ≤ 140737488351232 := r2
      have ho : w1.heap.size < wr.heap.size := by omega
      clear hl hrep r1 r2 r3 r4 r5 hlk hbl
      go_wp2_with fail
      refine wp_world ?_; intro W0 hW0
      have hS0 : (W0.drew.cell? ⟨wr.heap.size, 0, none⟩ = some (.string p.name) ∧ W0.drew.cell? ⟨wr.heap.size, 1, none⟩ = some (.slice Y p.fields.length D) ∧ W0.drew.cell? ⟨wr.heap.size, 2, none⟩ = some (.int .i64 p.skip.op) ∧ W0.drew.cell? ⟨wr.heap.size, 3, none⟩ = some (.int .i64 p.skip.v.k) ∧ W0.drew.cell? ⟨wr.heap.size, 4, none⟩ = some (.int .i64 p.skip.v.n) ∧ W0.drew.cell? ⟨wr.heap.size, 5, none⟩ = some (.string p.skip.v.s) ∧ W0.drew.cell? ⟨wr.heap.size, 6, none⟩ = some (.string p.skip.name) ∧ W0.drew.cell? ⟨wr.heap.size, 7, none⟩ = some (.slice X p.skip.args.length C)) ∧ W0.drew.cell? ⟨w1.heap.size, 1, none⟩ = some (.slice A' k c') := by rw [hW0]; exact ⟨⟨by go_simp, by go_simp, by go_simp, by go_simp, by go_simp, by go_simp, by go_simp, by go_simp⟩, by go_simp⟩
      have hB0 : Below wr.heap.size wr W0.drew := by rw [hW0]; exact bel
      have hZ0 : W0.heap.size = wr.heap.size + 1 := by rw [hW0]; simp
      clear hW0
      refine wp_region_T (fun w' => (w'.cell? ⟨wr.heap.size, 0, none⟩ = some (.string p.name) ∧ w'.cell? ⟨wr.heap.size, 1, none⟩ = some (.slice Y p.fields.length D) ∧ w'.cell? ⟨wr.heap.size, 2, none⟩ = some (.int .i64 p.skip.op) ∧ w'.cell? ⟨wr.heap.size, 3, none⟩ = some (.int .i64 p.skip.v.k) ∧ w'.cell? ⟨wr.heap.size, 4, none⟩ = some (.int .i64 p.skip.v.n) ∧ w'.cell? ⟨wr.heap.size, 5, none⟩ = some (.string p.skip.v.s) ∧ w'.cell? ⟨wr.heap.size, 6, none⟩ = some (.string p.skip.name) ∧ w'.cell? ⟨wr.heap.size, 7, none⟩ = some (.slice X p.skip.args.length C)) ∧ w'.cell? ⟨w1.heap.size, 1, none⟩ = some (.slice A' k c')) 14 (by kernel_rfl) ?_
      refine wpAnyT_take (i := 0) (oi := _) (v := ?_) rfl (by kernel_rfl) (fun _ _ _ h => h) hS0 (by rfl) ?_ ?_
      rotate_left
      · intro w' hS'; (try dsimp only at hS'); (try go_split_ands); go_simp; (try rw [if_neg (by omega)]); try with_reducible rfl
      simp only [Act.put, List.setIfInBounds_toArray, List.set_cons_zero, List.set_cons_succ]
      refine wpAnyT_take (i := 1) (oi := _) (v := ?_) rfl (by kernel_rfl) (fun _ _ _ h => h) hS0 (by rfl) ?_ ?_
      rotate_left
      · intro w' hS'; (try dsimp only at hS'); (try go_split_ands); go_simp; (try rw [if_neg (by omega)]); try with_reducible rfl
      simp only [Act.put, List.setIfInBounds_toArray, List.set_cons_zero, List.set_cons_succ]
      refine wpAnyT_take (i := 2) (oi := _) (v := ?_) rfl (by kernel_rfl) (fun _ _ _ h => h) hS0 (by rfl) ?_ ?_
      rotate_left
      · intro w' hS'; (try dsimp only at hS'); (try go_split_ands); go_simp; (try rw [if_neg (by omega)]); try with_reducible rfl
      simp only [Act.put, List.setIfInBounds_toArray, List.set_cons_zero, List.set_cons_succ]
      refine wpAnyT_take (i := 3) (oi := _) (v := ?_) rfl (by kernel_rfl) (fun _ _ _ h => h) hS0 (by rfl) ?_ ?_
      rotate_left
      · intro w' hS'; (try dsimp only at hS'); (try go_split_ands); go_simp; (try rw [if_neg (by omega)]); try with_reducible rfl
      simp only [Act.put, List.setIfInBounds_toArray, List.set_cons_zero, List.set_cons_succ]
      refine wpAnyT_take (i := 4) (oi := _) (v := ?_) rfl (by kernel_rfl) (fun _ _ _ h => h) hS0 (by rfl) ?_ ?_
      rotate_left
      · intro w' hS'; (try dsimp only at hS'); (try go_split_ands); go_simp; (try rw [if_neg (by omega)]); try with_reducible rfl
      simp only [Act.put, List.setIfInBounds_toArray, List.set_cons_zero, List.set_cons_succ]
      refine wpAnyT_take (i := 5) (oi := _) (v := ?_) rfl (by kernel_rfl) (fun _ _ _ h => h) hS0 (by rfl) ?_ ?_
      rotate_left
      · intro w' hS'; (try dsimp only at hS'); (try go_split_ands); go_simp; (try rw [if_neg (by omega)]); try with_reducible rfl
      simp only [Act.put, List.setIfInBounds_toArray, List.set_cons_zero, List.set_cons_succ]
      refine wpAnyT_take (i := 7) (oi := _) (v := ?_) rfl (by kernel_rfl) (fun _ _ _ h => h) hS0 (by rfl) ?_ ?_
      rotate_left
      · intro w' hS'; (try dsimp only at hS'); (try go_split_ands); go_simp; (try rw [if_neg (by omega)]); try with_reducible rfl
      simp only [Act.put, List.setIfInBounds_toArray, List.set_cons_zero, List.set_cons_succ]
      refine wpAnyT_take (i := 8) (oi := _) (v := ?_) rfl (by kernel_rfl) (fun _ _ _ h => h) hS0 (by rfl) ?_ ?_
      rotate_left
      · intro w' hS'; (try dsimp only at hS'); (try go_split_ands); go_simp; (try rw [if_neg (by omega)]); try with_reducible rfl
      simp only [Act.put, List.setIfInBounds_toArray, List.set_cons_zero, List.set_cons_succ]
      refine wpAnyT_one (i := 6) (o := _) rfl (by kernel_rfl) (fun K hK => ?_)
      refine step_append_sl rfl (.const (.slice none 0 0)) (.tmp 22) 32 rfl W0.drew.heap.size 9 k0 (.string ⟨#[]⟩) 1 16 Tryz.underlying32 hk0 sz0 sz1 sz2 rfl (by decide) (.slice none 0 0) 0 [] rfl (World.ownsRow_nil _ _ _ _) Y p.fields.length D (p.fields.flatMap strCs) rfl (by rw [flat_len _ 1 (fun _ => rfl)]) ((HO.out.2.2.2.1.now hB0).cellsStr) (fun e => by have := HO.out.2.2.2.1; rw [e] at this; exact this.of_none.1) (oneStr _) (by unfold maxLen; omega) (by omega) (Nat.le_refl _) ?_
      intro v2 w2 ho2 hb2 hz2
      have ho2' : w2.ownsRow W0.drew.heap.size 9 1 v2 p.fields.length (p.fields.flatMap strCs) := by simpa only [Nat.zero_add, List.nil_append] using ho2
      obtain ⟨A2, c2, rfl, hc2', hs2'⟩ := own_sls strCs inS (fun _ => rfl) ho2' rfl (HO.out.2.2.2.1.wfStr)
      have hzq : wr.heap.size + 1 ≤ w2.heap.size := by simp [heap_drew] at hz2; omega
      have hs2 : Sl w2 (since (wr.heap.size + 1) w2) 1 RStr A2 p.fields.length p.fields := hs2'.mono (fun b hb => ⟨by have h1 := hb.1; simp [heap_drew] at h1; omega, hb.2⟩)
      have hS2 := rowg8c hS0 hb2
      have hw2 : Below wr.heap.size wr w2 := below_step hB0 hb2 (by simp [heap_drew]; omega)
      clear hs2' ho2 ho2'
      refine hK.out _ _ (fun _ => hS2) ?_
      clear hK K
      try simp only [Act.put, List.setIfInBounds_toArray, List.set_cons_zero, List.set_cons_succ]
      refine wpAnyT_one (i := 9) (o := _) rfl (by kernel_rfl) (fun K hK => ?_)
      go_simp
      go_at_call 48; refine (ref_ExprCopy _ p.skip X C _ (Nat.le_refl _) (HO.out.2.2.2.2.1.keep (old_keep hw2))).mono ?_; rintro e w3 ⟨A3, c3, rfl, hx3', hb3⟩
      have hz3 := hb3.size
      have hx3 := hx3'.keep (S' := since (wr.heap.size + 1) w3) (fun b hb => ⟨⟨by have h1 := hb.1; omega, hb.2⟩, rfl⟩)
      have hS3 := rowg8c hS2 hb3
      have hw3 : Below wr.heap.size wr w3 := below_step hw2 hb3 (by omega)
      clear hx3'
      refine hK.out _ _ (fun _ => hS3) ?_
      clear hK K
      try simp only [Act.put, List.setIfInBounds_toArray, List.set_cons_zero, List.set_cons_succ]
      refine wpAnyT_take (i := 10) (oi := _) (v := ?_) rfl (by kernel_rfl) (fun _ _ _ h => h) hS3 (by rfl) ?_ ?_
      rotate_left
      · intro w' hS'; (try dsimp only at hS'); (try go_split_ands); go_simp; (try rw [if_neg (by omega)]); try with_reducible rfl
      simp only [Act.put, List.setIfInBounds_toArray, List.set_cons_zero, List.set_cons_succ]
      refine wpAnyT_one (i := 11) (o := _) rfl (by kernel_rfl) (fun K hK => ?_)
      go_simp
      have hlg3 : w1.heap.size < w3.heap.size := by omega
      have hlr3 : wr.heap.size < w3.heap.size := by omega
      have hS4 := rowg8n (x := .cells #[.string p.name, .slice A2 p.fields.length c2, .int .i64 p.skip.op, .int .i64 p.skip.v.k, .int .i64 p.skip.v.n, .string p.skip.v.s, .string p.skip.name, .slice A3 p.skip.args.length c3] 70) hS3
      refine hK.out _ _ (fun _ => hS4) ?_
      clear hK K
      refine wpAnyT_one (i := 12) (o := _) rfl (by kernel_rfl) (fun K hK => ?_)
      refine step_append_Own keeps_Pag rfl (.tmp 18) (.tmp 28) 38 rfl (w1.heap.size + 1) 70 j0 _ 8 120 Tryz.underlying38 hj0 iz0 iz1 iz2 rfl (by decide) (.slice A' k c') (l.take k) rfl (hown.out.keep keeps_Pag hw3) [.string p.name, .slice A2 p.fields.length c2, .int .i64 p.skip.op, .int .i64 p.skip.v.k, .int .i64 p.skip.v.n, .string p.skip.v.s, .string p.skip.name, .slice A3 p.skip.args.length c3] 70 rfl _ rfl rfl rfl (by simp [Value.oneCell']) (by rw [HO.out.2.2.2.2.2]; omega) (by rw [HO.out.2.2.2.2.2]; unfold maxLen; omega) (by omega) p (copied_page (B2 := wr.heap.size + 1) HO.out.2.1 HO.out.2.2.1 hc2' (Sl.keepN (keeps_flat _) hs2 (since_keep hb3)) hx3 (fun k hk => Nat.lt_succ_of_lt (hown.out.lt k hk).2) (by omega)) ?_
      intro g' cap w5 hown5 hb5 hz5 hk5 _
      rw [HO.out.2.2.2.2.2] at hown5 ⊢
      have hke1 := hk5 wr.heap.size (by omega) (fun e => by have := (hown.out.lt _ e.symm).2; omega)
      have hke2 := hk5 w1.heap.size (by omega) (fun e => by have := (hown.out.lt _ e.symm).1; omega)
      have hS5 := rowg8a hS4 hke1 hlr3 hke2 hlg3
      have of5 := (World.frozen?_of_block (a := ⟨w1.heap.size, 1, none⟩) hke2).trans ((hw3.frozen (p := ⟨w1.heap.size, 1, none⟩) ho).trans qf)
      have o51 := hS5.2
      have o50 := (World.cell?_of_block (a := ⟨w1.heap.size, 0, none⟩) hke2).trans ((hw3.cell (p := ⟨w1.heap.size, 0, none⟩) ho).trans q0)
      refine hK.out _ _ (fun _ => hS5) ?_
      clear hK K
      try simp only [Act.put, List.setIfInBounds_toArray, List.set_cons_zero, List.set_cons_succ]
      refine wpAnyT_take (i := 13) (oi := _) (v := ?_) rfl (by kernel_rfl) (fun _ _ _ h => h) hS5 (by rfl) ?_ ?_
      rotate_left
      · intro w' hS'; (try dsimp only at hS'); (try go_split_ands); go_simp; (try rw [if_neg (by omega)]); try with_reducible rfl
      simp only [Act.put, List.setIfInBounds_toArray, List.set_cons_zero, List.set_cons_succ]
      refine wpAnyT_one (i := 14) (o := _) rfl (by kernel_rfl) (fun K hK => ?_)
      go_simp
      refine hK.out _ _ (fun h => absurd h (by decide)) ?_
      clear hK K
      refine wpAnyT_done (by kernel_rfl) ?_ _
      clear hS0 hS2 hS3 hS4 hS5
      try simp only [Act.put, List.setIfInBounds_toArray, List.set_cons_zero, List.set_cons_succ]
      go_wp2_with fail
      go_roundw
      case rel =>
        have etk : l.take k ++ [p] = l.take (k + 1) := by rw [List.take_add_one, HO.out.1]; rfl
        rw [etk] at hown5
        refine ⟨k + 1, some ⟨g', 0, none⟩, cap, by omega, by go_num, by go_simp, (by first | (go_simp; done) | (go_simp; exact World.cell?_setCell_same' _ _ _ (by go_simp))), by go_simp, Lib.hid (hown5.set keeps_Pag _ _ (by simp)), ?_, by simp; omega⟩
        exact below_set (below_step (below_step hbr1 hw3 (by omega)) hb5 (by omega)) (by simp)
      case measure => simp [intOf]; omega
    · have hkn : k = n := by omega
      subst hkn
      have etk : l.take k = l := List.take_of_length_le (by rw [HLN.out]; exact Nat.le_refl _)
      rw [etk] at hown
      obtain ⟨A9, c9, e9, hc9, hs9⟩ := hown.out.sl keeps_Pag
      rw [HLN.out] at e9
      cases e9
      have HS := Lib.hid (And.intro hs9 hc9)
      have hlt1 : w.heap.size + 1 < w1.heap.size := by omega
      have z0 : wr.cell? ⟨w.heap.size + 1, 0, none⟩ = some (.slice none 0 0) := (hbr1.cell (p := ⟨w.heap.size + 1, 0, none⟩) hlt1).trans (by go_simp)
      have z1 : wr.cell? ⟨w.heap.size + 1, 1, none⟩ = some (.slice none 0 0) := (hbr1.cell (p := ⟨w.heap.size + 1, 1, none⟩) hlt1).trans (by go_simp)
      have f0 : wr.frozen? ⟨w.heap.size + 1, 0, none⟩ = false := (hbr1.frozen (p := ⟨w.heap.size + 1, 0, none⟩) hlt1).trans (by go_simp)
      have f1 : wr.frozen? ⟨w.heap.size + 1, 1, none⟩ = false := (hbr1.frozen (p := ⟨w.heap.size + 1, 1, none⟩) hlt1).trans (by go_simp)
      clear hs9 hc9 hown
      go_wp2_with fail
      refine bodyPost_ret (v := .agg #[.slice A1 F.length c1, .slice A' k c']) (by first | (simp [results, Tryz.results21, go_sem, z0, z1]; done) | (simp [results, Tryz.results21, go_sem, *]; done)) rfl ?_
      have hset : ∀ b, w.heap.size + 2 ≤ b → ∀ u v, ((wr.setCell ⟨w.heap.size + 1, 0, none⟩ u).setCell ⟨w.heap.size + 1, 1, none⟩ v).heap[b]? = wr.heap[b]? := by
        intro b hb u v
        iterate 2 rw [heap_setCell_other _ _ _ _ (by simp; omega)]
      refine ⟨A1, c1, A', c', by rw [HLN.out], HF1.out.1, ?_, HF1.out.2.keepN keeps_Fld (fun b hb => ?_), ?_, bel⟩
      · exact HS.out.2
      · have h1 := hb.1
        simp at h1
        have h2 := hb.2
        exact ⟨⟨by omega, by simp; have := hbr1.size; omega⟩, (hset b (by omega) _ _).trans (hbr1.block b h2)⟩
      · exact HS.out.1.keepN keeps_Pag (fun b hb => ⟨⟨by have := hb.1; omega, by simpa using hb.2⟩, hset b (by have := hb.1; omega) _ _⟩)
end Go.Proofs.YtgmcojnhpedpnaaGreat
