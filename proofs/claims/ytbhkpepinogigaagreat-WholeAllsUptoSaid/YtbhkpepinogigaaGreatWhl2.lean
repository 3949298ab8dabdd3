/- whole.All. -/
import Derived.Test.YtbhkpepinogigaaGreatWhl1
import Derived.Test.YtbhkpepinogigaaGreatRowV
namespace Go.Proofs.YtbhkpepinogigaaGreat
open Go.RowKit

theorem flat_setV (l : List Val) (k : Nat) (v : Val) (hk : k < l.length) :
    (((l.flatMap Val.cs).set (k * 3) (.int .i64 v.k)).set (k * 3 + 1) (.int .i64 v.n)).set (k * 3 + 2) (.string v.s) = (l.set k v).flatMap Val.cs := by
  have e : l = l.take k ++ l[k] :: l.drop (k + 1) := by rw [List.getElem_cons_drop, List.take_append_drop]
  have hlen : ((l.take k).flatMap Val.cs).length = k * 3 := by rw [flat_len _ 3 lenValR, List.length_take, Nat.min_eq_left (by omega)]
  have e1 : l.flatMap Val.cs = (l.take k).flatMap Val.cs ++ (l[k].cs ++ (l.drop (k + 1)).flatMap Val.cs) := by
    conv => lhs; rw [e]
    rw [List.flatMap_append, List.flatMap_cons]
  have e2 : (l.set k v).flatMap Val.cs = (l.take k).flatMap Val.cs ++ (v.cs ++ (l.drop (k + 1)).flatMap Val.cs) := by
    rw [List.set_eq_take_append_cons_drop, if_pos hk, List.flatMap_append, List.flatMap_cons]
  rw [e1, e2]
  rw [List.set_append_right _ _ (by omega), List.set_append_right _ _ (by omega), List.set_append_right _ _ (by omega), hlen]
  have a0 : k * 3 - k * 3 = 0 := by omega
  have a1 : k * 3 + 1 - k * 3 = 1 := by omega
  have a2 : k * 3 + 2 - k * 3 = 2 := by omega
  rw [a0, a1, a2]
  simp [Val.cs]
theorem cells_ownV {w : World} {base g n cap k : Nat} {l : List Val} {e : TypeId} {x : Val} (h : w.ownsRow base e 3 (.slice (some ⟨g, 0, none⟩) n cap) n (l.flatMap Val.cs)) (hx : l[k]? = some x) (hk : k < n) :
    w.cell? ⟨g, k * 3, none⟩ = some (.int .i64 x.k) ∧ w.cell? ⟨g, k * 3 + 1, none⟩ = some (.int .i64 x.n) ∧ w.cell? ⟨g, k * 3 + 2, none⟩ = some (.string x.s) := by
  have f := fun j hj => flat_at Val.cs 3 lenValR l k j x hx hj
  refine ⟨?_, ?_, ?_⟩
  · have := f 0 (by decide); rw [Nat.add_zero] at this; rw [h.cellAt _ (by omega), this]; rfl
  · rw [h.cellAt _ (by omega), f 1 (by decide)]; rfl
  · rw [h.cellAt _ (by omega), f 2 (by decide)]; rfl
theorem ownsRow_under {w w' : World} {base N g n cap size : Nat} {e : TypeId} {xs : List Value} (h : w.ownsRow base e size (.slice (some ⟨g, 0, none⟩) n cap) n xs) (hg : g < N) (hb : Below N w w') : w'.ownsRow base e size (.slice (some ⟨g, 0, none⟩) n cap) n xs := by
  refine ⟨h.1, ?_⟩
  rcases h.2 with hn | ⟨g', cap', cur, he, hbg, hgg, rest⟩
  · exact .inl hn
  · simp only [Value.slice.injEq, Option.some.injEq, Addr.mk.injEq, and_true, true_and] at he
    obtain ⟨rfl, rfl⟩ := he
    exact .inr ⟨g, cap, cur, rfl, hbg, by rw [hb.block g hg]; exact hgg, rest⟩
theorem made_vals (m : Nat) : (madeCells #[.int .i64 0, .int .i64 0, .string ⟨#[]⟩] (m * 3)).toList = (List.replicate m noVal).flatMap Val.cs := by
  refine List.ext_getElem? fun j => ?_
  rcases Nat.lt_or_ge j (m * 3) with hj | hj
  · have h1 : (List.replicate m noVal)[j / 3]? = some noVal := by rw [List.getElem?_replicate, if_pos (by omega)]
    have h2 := flat_at Val.cs 3 lenValR (List.replicate m noVal) (j / 3) (j % 3) noVal h1 (by omega)
    rw [show j / 3 * 3 + j % 3 = j by omega] at h2
    rw [h2]
    have h3 : (madeCells #[Value.int .i64 0, .int .i64 0, .string ⟨#[]⟩] (m * 3)).toList[j]? = some (#[Value.int .i64 0, .int .i64 0, .string ⟨#[]⟩][j % 3]!) := by
      simp [madeCells, hj]
    rw [h3]
    rcases (by omega : j % 3 = 0 ∨ j % 3 = 1 ∨ j % 3 = 2) with e | e | e <;> rw [e] <;> rfl
  · rw [List.getElem?_eq_none (by rw [Array.length_toList, size_madeCells]; exact hj), List.getElem?_eq_none (by rw [flat_len _ 3 lenValR, List.length_replicate]; exact hj)]
theorem RFld.now {w w' : World} {cs : List Value} {f : Fld} (h : RFld w (old w) cs f) (hb : Below w.heap.size w w') : RFld w' (old w') cs f :=
  h.keep (old_keep hb)
def allR (F : List Fld) (P : List Pag) (ins orc : List Fct) : List Val × Int := if toldErr F P ins orc ≠ 0 then ([], toldErr F P ins orc) else (finV F ins orc, 0)
theorem ord_at {F : List Fld} {j : Nat} {p : Int} (h : (toI (ordF F))[j]? = some p) : ∃ x : Nat, (ordF F)[j]? = some x ∧ p = x ∧ x < F.length := by
  unfold toI at h
  rw [List.getElem?_map] at h
  cases hx : (ordF F)[j]? with
  | none => rw [hx] at h; cases h
  | some x => rw [hx] at h; exact ⟨x, rfl, (Option.some.inj h).symm, ordF_lt (List.mem_of_getElem? hx)⟩
theorem knownTo_next {F : List Fld} {vs : List Val} {ord : List Nat} {j x : Nat} {f : Fld} {v : Val} (h : ord[j]? = some x) (hf : (F)[x]? = some f) (hv : vs[x]? = some v) : knownTo F vs ord (j + 1) = knownTo F vs ord j ++ [⟨f.name, noVal, v⟩] := by
  unfold knownTo
  rw [List.take_add_one, h, List.map_append]
  simp [nameAt_some hf, hv]
theorem knownTo_len {F : List Fld} {vs : List Val} {ord : List Nat} {j : Nat} (h : j ≤ ord.length) : (knownTo F vs ord j).length = j := by
  unfold knownTo; rw [List.length_map, List.length_take, Nat.min_eq_left h]
theorem noVal_wf : noVal.wf := by unfold noVal Val.wf inI inS; exact ⟨by decide +kernel, by decide +kernel, by decide⟩
theorem knownTo_wf {F : List Fld} {vs : List Val} {ord : List Nat} (hF : ∀ f ∈ F, inS f.name) (hv : ∀ v ∈ vs, v.wf) (j : Nat) : ∀ a ∈ knownTo F vs ord j, a.wf := by
  intro a ha
  obtain ⟨i, _, rfl⟩ := List.mem_map.1 ha
  refine ⟨?_, noVal_wf, ?_⟩
  · show inS (nameAt F i)
    unfold nameAt
    cases hf : (F)[i]? with
    | none => show inS ⟨#[]⟩; unfold inS; decide
    | some f => exact hF f (List.mem_of_getElem? hf)
  · show (vs[i]?.getD noVal).wf
    cases hq : vs[i]? with
    | none => exact noVal_wf
    | some v => exact hv v (List.mem_of_getElem? hq)
set_option maxRecDepth 100000 in
set_option maxHeartbeats 4000000 in
theorem whole_All (B : Option Addr) (m d : Nat) (F : List Fld) (A : Option Addr) (n c : Nat) (P : List Pag) (A1 : Option Addr) (n1 c1 : Nat) (ins : List Fct) (A2 : Option Addr) (n2 c2 : Nat) (orc : List Fct) (w : World)
    (hX : RFo w B m d F A n c P) (hO : FldsOk F) (hY : RIO w A1 n1 c1 ins A2 n2 c2 orc) :
    Calls Tryz.prog 33 #[.agg #[.slice B m d, .slice A n c], .slice A1 n1 c1, .slice A2 n2 c2] w (OwnRowC Val.cs 73 3 w (allR F P ins orc).1 (allR F P ins orc).2) := by
  have h1 := fun w h h' => whole_Check B m d F A n c P A1 n1 c1 ins A2 n2 c2 orc w h hO h'
  have hml := hX.2.2.2.2.1.len
  have HX := Lib.hid (And.intro hX hY)
  by_cases he : toldErr F P ins orc = 0
  · have hok := toldErr_ok he
    have hfn := hO.2
    have h14 : m ≤ 14 := by rw [← hml]; exact (fieldsErr_all (rankR_zero hok.1).1).1
    have h2 := fun w (h : RFo w B m d F A n c P) => rank_Order F B m d w h.1 h.2.1 h.2.2.2.2.1 hO.1 hO.2
    have hor : orderR F = (toI (ordF F), 0) := by unfold orderR; rw [if_pos hok.1]
    have hol : (ordF F).length = m := by unfold ordF; rw [ordK_len, hml]
    have hil : (toI (ordF F)).length = m := by unfold toI; rw [List.length_map, hol]
    have h2' : ∀ w (h : RFo w B m d F A n c P), Calls Tryz.prog 14 #[.slice B m d] w (fun e w' => ∃ A c, e = .returned (.tuple #[.slice A m c, .int .i64 0]) ∧ m ≤ c ∧ Sl w' (old w') 1 RInt A m (toI (ordF F)) ∧ Below w.heap.size w w') := by
      intro w h
      refine (h2 w h).mono ?_
      rintro e w' ⟨A, c, q1, q2, q3, q4⟩
      rw [hor] at q1 q2 q3
      dsimp only at q1 q2 q3
      rw [hil] at q1 q2 q3
      exact ⟨A, c, q1, q2, q3.mono (fun b hb => hb.2), q4⟩
    have hra : allR F P ins orc = (finV F ins orc, 0) := by unfold allR; rw [if_neg (by simpa using he)]
    rw [hra]
    rw [he] at h1
    have hmk := fun w => run_make (P := Tryz.prog) w 33 73
    obtain ⟨i0, ei, ez0, ez1, ez2⟩ := info_parts Tryz.infoValR
    obtain ⟨j0, ej, jz0, jz1, jz2⟩ := info_parts Tryz.infoFct
    have hmk : ∀ w, (Instr.makeSlice 33 (.int .i64 (m : Int)) (.int .i64 (m : Int))).run Tryz.prog w = .ok (.slice (some ⟨w.heap.size, 0, none⟩) m m) (w.alloc (.cells (madeCells #[.int .i64 0, .int .i64 0, .string ⟨#[]⟩] (m * 3)) 73)) := by
      intro w
      have := run_make (P := Tryz.prog) w 33 73 i0 _ Tryz.underlying33 ei ez0 .i64 .i64 (m : Int) (m : Int) (by omega) (by omega) (by rw [ez2]; omega) (by omega)
      rw [this, ez1]
      rfl
    have hfl : (finV F ins orc).length = m := by rw [finV_len, hml]
    have HE := Lib.hid (And.intro hok (And.intro hml (And.intro hol (And.intro hil (And.intro hfl hfn)))))
    obtain ⟨fin, hfin⟩ : ∃ fin, fin = finV F ins orc := ⟨_, rfl⟩
    rw [← hfin]
    have HF := Lib.hid hfin
    clear hX hY he hml hok h2 hor hol hil hra hfl hO hfn hfin
    go_enter Tryz.func33, Tryz.ntmps33
    go_wp2_with (first
      | (go_at_call 32; refine (h1 _ (HX.out.1.now bel) (HX.out.2.now bel)).mono ?_; rintro e w1 ⟨rfl, hb1⟩; obtain ⟨hc1, hf1⟩ := bcell hb1; (try simp only [bqh, bqc, bqf] at hc1 hf1); have hz1 := hb1.size; (try simp at hz1); (try have hy1 := nl1 hz1); (try have hx1 := nl2 hy1); refine szz w1 w ?_; intros)
      | (go_at_call 14; refine (h2' _ (HX.out.1.now bel)).mono ?_; rintro e w2 ⟨A5, c5, rfl, hc5, hs5, hb2⟩; obtain ⟨hc2, hf2⟩ := bcell hb2; (try simp only [bqh, bqc, bqf] at hc2 hf2); have hz2 := hb2.size; (try simp at hz2); (try have hy2 := nl1 hz2); (try have hx2 := nl2 hy2); refine szz w2 w ?_; intros; refine szz w2 w1 ?_; intros))
    have hB2 : Below w.heap.size w w2 := bel
    have hlw : w.heap.size < w2.heap.size := by have := hb1.size; have := hb2.size; simp at *; omega
    have q0 : w2.cell? ⟨w.heap.size, 0, none⟩ = some (.slice B m d) := (hb2.cell (p := ⟨w.heap.size, 0, none⟩) (by have := hb1.size; simp at *; omega)).trans ((hb1.cell (p := ⟨w.heap.size, 0, none⟩) (by simp)).trans (by go_simp))
    have HS5 := Lib.hid hs5
    have hwf : ∀ v ∈ fin, v.wf := fun v hv => val_wf (finV_ok HE.out.1 v (by rw [← HF.out]; exact hv))
    have HWF := Lib.hid (And.intro hwf (fun j => knownTo_wf (F := F) (vs := fin) (ord := ordF F) (fun f hf => (HE.out.2.2.2.2.2 f hf).1) hwf j))
    clear hs5 hb1 hb2 h1 h2' hwf
    go_loopw [12, 34] (fun v i wr => ∃ j : Nat, j ≤ m ∧ i = .int .i64 j ∧ Hid (wr.ownsRow (w2.heap.size + 1) 109 7 v j ((knownTo F fin (ordF F) j).flatMap Fct.cs)) ∧ Hid (wr.ownsRow w2.heap.size 73 3 (.slice (some ⟨w2.heap.size, 0, none⟩) m m) m ((outTo F fin (ordF F) j).flatMap Val.cs)) ∧ Below w2.heap.size w2 wr ∧ w2.heap.size < wr.heap.size) (fun _ i _ => m - (intOf i).toNat)
    case atStart =>
      refine ⟨0, by omega, rfl, Lib.hid (by simpa [knownTo] using World.ownsRow_nil _ _ _ _), Lib.hid ?_, (Below.refl _ _).alloc (Nat.le_refl _) _, by simp⟩
      have := World.ownsRow_lit (base := w2.heap.size) (e := 73) (size := 3) w2 (madeCells #[.int .i64 0, .int .i64 0, .string ⟨#[]⟩] (m * 3)) m (Nat.le_refl _) (by unfold maxLen; omega) (size_madeCells _ _)
      rw [made_vals] at this
      rw [outTo, HE.out.2.1]
      exact this
    case round =>
      obtain ⟨j, hj, rfl, hown, hout, hbr, hgr⟩ := hrel
      have hBr : Below w.heap.size w wr := below_step hB2 hbr (by omega)
      have r0 := cell_keep q0 hbr
      have hlr : w.heap.size < wr.heap.size := by omega
      by_cases hlt : j < m
      · obtain ⟨b, o, pi, hAe, hbl, hlp, hpi, y0⟩ := Int_at (HS5.out.now hbr) hlt
        subst hAe
        have hbl' : b < wr.heap.size := hbl
        obtain ⟨x, hx, rfl, hxF⟩ := ord_at hlp
        have hxm : x < m := by rw [← HE.out.2.1]; exact hxF
        have hxi : (x : Int) < (m : Int) := by omega
        obtain ⟨b2, o2, f, X, C, hBe, hbl2, hlf, hrep, x0, x1, x2, x3, x4, x5, x6, x7, x8⟩ := Fld_at HX.out.1.2.2.2.2.1 hxm
        have HBE := Lib.hid hBe
        subst hBe
        have hbl3 : b2 < w.heap.size := hbl2
        have hbl2' : b2 < wr.heap.size := Nat.lt_of_lt_of_le hbl3 hBr.size
        have k0 := cell_keep x0 hB2
        replace x0 := cell_keep k0 hbr
        replace x1 := cell_keep x1 hBr
        replace x2 := cell_keep x2 hBr
        replace x3 := cell_keep x3 hBr
        replace x4 := cell_keep x4 hBr
        replace x5 := cell_keep x5 hBr
        replace x6 := cell_keep x6 hBr
        replace x7 := cell_keep x7 hBr
        replace x8 := cell_keep x8 hBr
        have hps := prog_step HE.out.1 hx hlf
        rw [← HF.out] at hps
        obtain ⟨A9, c9, hv9, hc9, hs9⟩ := ownFct hown.out (knownTo_len (by rw [HE.out.2.2.1]; exact hj)) (HWF.out.2 j)
        subst hv9
        have h3 := fun w hr k1 k2 k3 => whole_One f X C A1 n1 c1 ins A2 n2 c2 orc A9 j c9 (knownTo F fin (ordF F) j) w (HX.out.2.1.l (by decide)) (HX.out.2.2.2.1.l (by decide)) (by unfold inL; omega) hr k1 k2 k3
        generalize hvq : oneV f ins orc (knownTo F fin (ordF F) j) = vq at *
        have hnx := outTo_next (F := F) hx hps
        have hkx := knownTo_next hx hlf hps
        have HN := Lib.hid (And.intro hnx (And.intro hkx (And.intro hrep hs9)))
        obtain ⟨ov, hov⟩ : ∃ ov, (outTo F fin (ordF F) j)[x]? = some ov := ⟨_, List.getElem?_eq_getElem (by rw [outTo_len]; exact hxF)⟩
        have hset := flat_setV (outTo F fin (ordF F) j) x vq (by rw [outTo_len]; exact hxF)
        rw [← hnx] at hset
        have hnv : (outTo F fin (ordF F) (j + 1))[x]? = some vq := by rw [hnx, List.getElem?_set, if_pos rfl, if_pos (by rw [outTo_len]; exact hxF)]
        have HN2 := Lib.hid (And.intro hset (And.intro hnv hov))
        clear hbl hlp hpi hbl2 hlf hrep hps hnx hkx hs9 hx hvq hset hnv hov
        obtain ⟨e0, e1, e2⟩ := cells_ownV hout.out HN2.out.2.2 hxm
        have z0 := hout.out.frozenAt (x * 3)
        have z1 := hout.out.frozenAt (x * 3 + 1)
        have z2 := hout.out.frozenAt (x * 3 + 2)
        go_upto_region 11 with (go_at_call 81; refine (h3 _ (HN.out.2.2.1.now (show Below w.heap.size w _ from bel)) (HX.out.2.2.2.2.2.1.now (show Below w.heap.size w _ from bel)) (HX.out.2.2.2.2.2.2.now (show Below w.heap.size w _ from bel)) (HN.out.2.2.2.now bel)).mono ?_; rintro e w4 ⟨rfl, hb4⟩; obtain ⟨hc4, hf4⟩ := bcell hb4; (try simp only [bqh, bqc, bqf] at hc4 hf4); have hz4 := hb4.size; (try simp at hz4); (try have hy4 := nl1 hz4); (try have hx4 := nl2 hy4); refine szz w4 wr ?_; intros; have ho4 := ownsRow_keep hout.out (show Below wr.heap.size wr w4 from bel); have hg4 : w2.heap.size < w4.heap.size := (by omega))
        refine wp_world ?_; intro W0 hW0
        have hst := (((ho4.stored (x * 3) (.int .i64 vq.k)).1.stored (x * 3 + 1) (.int .i64 vq.n)).1.stored (x * 3 + 2) (.string vq.s)).1
        rw [HN2.out.1, ← hW0] at hst
        have hkn : W0.ownsRow (w2.heap.size + 1) 109 7 (.slice A9 j c9) j ((knownTo F fin (ordF F) j).flatMap Fct.cs) := by
          rw [hW0]
          exact ownsRow_setCell_below (ownsRow_setCell_below (ownsRow_setCell_below (ownsRow_keep hown.out (show Below wr.heap.size wr w4 from bel)) (by simp) _) (by simp) _) (by simp) _
        have hBW : Below w2.heap.size w2 W0 := by
          rw [hW0]
          exact below_set (below_set (below_set (below_step hbr (show Below wr.heap.size wr w4 from bel) (by omega)) (by simp)) (by simp)) (by simp)
        have hsW : w2.heap.size < W0.heap.size := by rw [hW0]; simp; omega
        obtain ⟨e0', e1', e2'⟩ := cells_ownV hst HN2.out.2.1 hxm
        have r0' := cell_keep q0 hBW
        have k0' := cell_keep k0 hBW
        have hlW : w.heap.size < W0.heap.size := by omega
        have hlb : b2 < W0.heap.size := by omega
        have HST := Lib.hid (And.intro hst hkn)
        clear hW0 hst hkn ho4 e0 e1 e2 z0 z1 z2 x0 x1 x2 x3 x4 x5 x6 x7 x8 hb4 hc4 hf4 y0 r0 h3
        have hkl : (knownTo F fin (ordF F) j).length = j := knownTo_len (by rw [HE.out.2.2.1]; exact hj)
        go_region_law (refine step_append_sl rfl (.tmp 50) (.tmp 62) 42 rfl (w2.heap.size + 1) 109 j0 _ 7 80 Tryz.underlying42 ej jz0 jz1 jz2 rfl (by decide) _ j _ rfl (ownsRow_keep HST.out.2 bel) _ 1 1 (Fct.mk f.name noVal vq).cs rfl rfl (fun p hp j u hj => by cases hp; exact news_new _ _ _ j u hj) (by simp) (by simp [Value.oneCell']) (by unfold maxLen; omega) (by omega) (by first | omega | (simp; omega)) ?_; intro v6 w6 hown6 hb6 hz6)
        all_goals
          have hd6 : Below W0.heap.size W0 _ := (Below.refl W0.heap.size W0).drew.alloc (Nat.le_refl _) (.cells (Fct.mk f.name noVal vq).cs.toArray 109)
          have ho6 : w6.ownsRow w2.heap.size 73 3 (.slice (some ⟨w2.heap.size, 0, none⟩) m m) m ((outTo F fin (ordF F) (j + 1)).flatMap Val.cs) := by
            have h5 := ownsRow_keep HST.out.1 hd6
            exact ownsRow_under h5 (by omega) hb6
          go_wp2_with fail
          go_roundw
          case rel => exact ⟨j + 1, by omega, by go_num, Lib.hid (by rw [HN.out.2.1, List.flatMap_append]; simpa using hown6), Lib.hid ho6, below_step (below_step hBW hd6 (by omega)) hb6 (by omega), by simp at hz6; omega⟩
          case measure => simp [intOf]; omega
      · have hke : j = m := by omega
        subst hke
        have ho := hout.out
        rw [show outTo F fin (ordF F) j = fin from by rw [HF.out]; have := outTo_end (F := F) (vs := finV F ins orc) (by rw [finV_len]); rwa [HE.out.2.1] at this] at ho
        have HO := Lib.hid ho
        clear hout hown ho
        go_wp2_with fail
        go_ret2
        refine ⟨_, rfl, ?_, hBr⟩
        have := ownsRow_base HO.out (base' := w.heap.size) hB2.size
        rw [show fin.length = j from by rw [HF.out]; exact HE.out.2.2.2.2.1]
        exact this
  · have hra : allR F P ins orc = ([], toldErr F P ins orc) := by unfold allR; rw [if_pos he]
    rw [hra]
    have g1 : (toldErr F P ins orc != 0) = true := by simpa using he
    generalize toldErr F P ins orc = er at *
    clear hX hY hO he hra hml
    go_enter Tryz.func33, Tryz.ntmps33
    go_wp2_with (go_at_call 32; refine (h1 _ (HX.out.1.now bel) (HX.out.2.now bel)).mono ?_; rintro e w1 ⟨rfl, hb1⟩; obtain ⟨hc1, hf1⟩ := bcell hb1; (try simp only [bqh, bqc, bqf] at hc1 hf1); have hz1 := hb1.size; (try simp at hz1); (try have hy1 := nl1 hz1); (try have hx1 := nl2 hy1); refine szz w1 w ?_; intros)
    go_ret2
    exact NilC.own _ _ _ ⟨rfl, bel⟩
end Go.Proofs.YtbhkpepinogigaaGreat
