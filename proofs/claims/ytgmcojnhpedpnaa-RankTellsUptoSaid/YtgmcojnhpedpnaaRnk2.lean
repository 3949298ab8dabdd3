/- rank.needs: what each field asks for, by places. -/
import Derived.Test.YtgmcojnhpedpnaaRnk1
import Derived.Test.YtgmcojnhpedpnaaNam3
namespace Go.Proofs.Ytgmcojnhpedpnaa
open Go.RowKit

/-- The ending with a slice of slices of places. -/
def RetNd (w : World) (nd : List (List Nat)) (e : Ending) (w' : World) : Prop := ∃ v, e = .returned v ∧ Own w' w.heap.size 34 1 RIs v nd ∧ Below w.heap.size w w'
theorem needL_len (l : List Fld) : (needL l).length = l.length := by simp [needL]
theorem needL_take {l : List Fld} {k : Nat} {f : Fld} (hf : l[k]? = some f) : (needL l).take k ++ [(srcN f).map (fieldAt l)] = (needL l).take (k + 1) := by
  rw [List.take_add_one]
  unfold needL
  rw [List.getElem?_map, hf]
  rfl
theorem namesR_src {f : Fld} (h : exprErr f.source = 0) (hk : f.kind ≠ 1) : namesR f.source = (srcN f, 0) := by
  unfold namesR srcN
  rw [if_pos h, if_neg hk]

set_option maxRecDepth 100000 in
set_option maxHeartbeats 4000000 in
theorem rank_needs (l : List Fld) (L : Option Addr) (n d : Nat) (w : World) (hn : inB 112 n) (hl : Sl w (old w) 9 (RFld w (old w)) L n l) (he : fieldsErr l = 0) (hN : ∀ f ∈ l, f.source.nodes ≤ 1048576) (hst : ∀ f ∈ l, ∀ s ∈ askN f.source, inS s) :
    Calls Try.prog 23 #[.slice L n d] w (RetNd w (needL l)) := by
  obtain ⟨j0, hj0, iz0, iz1, iz2⟩ := info_parts Try.infoInts
  obtain ⟨i0, ei, ez0, ez1, ez2⟩ := info_parts Try.infoIn9
  have hll := hl.len
  have hal := fieldsErr_all he
  have h14 : n ≤ 14 := by rw [← hll]; exact hal.1
  have HH := Lib.hid (And.intro hl (And.intro hll (And.intro hal.2 (And.intro hN (And.intro he hst)))))
  clear hl hll hal hN he hst hn
  go_enter Try.func23, Try.ntmps23
  go_wp2_with fail
  go_loopw [3, 15] (fun out i wr => ∃ k : Nat, k ≤ n ∧ i = .int .i64 k ∧ Hid (Own wr w.heap.size 34 1 RIs out ((needL l).take k)) ∧ Below w.heap.size w wr) (fun _ i _ => n - (intOf i).toNat)
  case atStart => exact ⟨0, by omega, rfl, Lib.hid Own.nil, Below.refl _ _⟩
  case round =>
    obtain ⟨k, hk, rfl, hown, hbr⟩ := hrel
    have hzr := hbr.size
    by_cases hlt : k < n
    · obtain ⟨b, o, f, X, C, hAe, hbl, hlf, hrep, x0, x1, x2, x3, x4, x5, x6, x7, x8⟩ := Fld_at (HH.out.1.nowN keeps_Fld hbr) hlt
      subst hAe
      have hbl' : b < wr.heap.size := hbl
      obtain ⟨r1, r2, r3, r4⟩ := hrep.parts
      have hfm := List.mem_of_getElem? hlf
      have hlk : ((needL l).take k).length = k := by rw [List.length_take, needL_len, HH.out.2.1]; omega
      have HK := Lib.hid hlk
      have HT := Lib.hid (needL_take hlf)
      have hfa := HH.out.2.2.1 k f hlf
      have hnf := HH.out.2.2.2.1 f hfm
      have hsf := HH.out.2.2.2.2.2 f hfm
      have HR := Lib.hid r4
      clear hrep r1 r2 r3 r4 hlk hbl hlf hfm
      by_cases hkd : f.kind = 1
      · have hs0 : (srcN f).map (fieldAt l) = [] := by rw [srcN, if_pos hkd]; rfl
        have g1 : (f.kind == 1) = true := by rw [hkd]; rfl
        have g2 : (f.kind != 1) = false := by rw [hkd]; rfl
        rw [hs0] at HT
        clear hs0 hkd hfa hnf hsf
        go_wp2_with (at_builtin; refine wpList_append_Own keeps_RIs rfl (.tmp 45) (.tmp 47) 50 rfl w.heap.size 34 j0 _ 1 24 Try.underlying50 hj0 iz0 iz1 iz2 rfl (by decide) _ ((needL l).take k) rfl (hown.out.keep keeps_RIs ((Below.refl _ _).alloc (Nat.le_refl _) _)) [.slice none 0 0] 34 rfl _ rfl (by simp) rfl (by simp [Value.oneCell']) (by rw [HK.out]; omega) (by rw [HK.out]; unfold maxLen; omega) (by simp; omega) [] ⟨none, 0, rfl, Nat.le_refl _, Sl.nil⟩ ?_; intro g' cap w5 hown5 hb5 hz5 _ _; rw [HK.out] at hown5 ⊢)
        have hB5 : Below w.heap.size w w5 := below_step (below_step hbr (show Below wr.heap.size wr _ from bel) hzr) hb5 (Nat.le_refl _)
        go_roundw
        case rel =>
          refine ⟨k + 1, by omega, by go_num, Lib.hid ?_, hB5⟩
          rw [← HT.out]
          exact hown5
        case measure => simp [intOf]; omega
      · have g1 : (f.kind == 1) = false := by simpa using hkd
        have g2 : (f.kind != 1) = true := by simpa using hkd
        have hex := hfa.2.2.2.1 hkd
        have hof := fun w h => names_Of f.source X C w hnf h
        rw [namesR_src hex hkd] at hof
        have hsi : ∀ s ∈ srcN f, inS s := fun s hs => by
          rw [srcN, if_neg hkd, rise_mem] at hs
          exact hsf s hs
        have hsl : (srcN f).length ≤ 1048576 := by
          rw [srcN, if_neg hkd]
          exact Nat.le_trans (rise_len _) (Nat.le_trans (askN_nodes _) hnf)
        have hfd : ∀ s ∈ srcN f, findRes (hasName s) l = ((fieldAt l s : Int), 0) := fun s hs => by
          rw [findRes, if_pos (hfa.2.2.2.2 s hs)]
          rfl
        generalize srcN f = ss at *
        have HS := Lib.hid (And.intro hsi hfd)
        clear hfa hnf hsf hkd hex hsi hfd
        go_wp2_with (go_at_call 5; refine (hof _ (HR.out.keep (old_keep bel))).mono ?_; rintro e w2 ⟨v2, rfl, hown2, hb2⟩; obtain ⟨A2, c2, rfl, hc2, hs2⟩ := ownStr hown2 rfl HS.out.1; obtain ⟨hc2, hf2⟩ := bcell hb2; (try simp only [World.heap_drewN, World.cell?_drewN, World.frozen?_drewN] at hc2 hf2); have hz2 := hb2.size; (try simp at hz2); (try (have hy2 := Nat.lt_of_succ_le hz2)); (try (have hx2 := Nat.lt_of_succ_lt hy2)); (first | refine szz6 w2 wr (by omega) ?_ | refine szz5 w2 wr (by omega) ?_ | refine szz4 w2 wr (by omega) ?_ | refine szz3 w2 wr (by omega) ?_ | refine szz2 w2 wr (by omega) ?_ | refine szz1 w2 wr (by omega) ?_ | refine szz0 w2 wr (by omega) ?_ | refine szzn w2 wr (by omega) ?_ | skip); intros)
        have hB2 : Below wr.heap.size wr w2 := bel
        have hzz2 := hB2.size
        have HA := Lib.hid hs2
        clear hof hown2 hs2
        generalize hwq : wr = wq at *
        clear hwq
        go_loopw [6, 30] (fun mine i wr => ∃ j : Nat, j ≤ ss.length ∧ i = .int .i64 j ∧ Hid (wr.ownsRow w2.heap.size 3 1 mine j ((ss.take j).flatMap (fun s => natCs (fieldAt l s)))) ∧ Below w2.heap.size w2 wr) (fun _ i _ => ss.length - (intOf i).toNat)
        case atStart => exact ⟨0, by omega, rfl, Lib.hid (by simpa using World.ownsRow_nil _ _ _ _), Below.refl _ _⟩
        case round =>
          obtain ⟨j, hj, rfl, hm, hbj⟩ := hrel
          have hzj := hbj.size
          by_cases hltj : j < ss.length
          · obtain ⟨b3, o3, s, hA2, hb3, hls, hins, y0⟩ := Str_at (HA.out.now hbj) hltj
            subst hA2
            have hb3' : b3 < wr.heap.size := hb3
            have hfi := fun w h => field_Find (some ⟨b, o, none⟩) n d l s w (by unfold inL; omega) h
            rw [HS.out.2 s (List.mem_of_getElem? hls)] at hfi
            have HL := Lib.hid (show ss.take j ++ [s] = ss.take (j + 1) by rw [List.take_add_one, hls]; rfl)
            have hBj : Below w.heap.size w wr := below_step (below_step hbr hB2 hzr) hbj (by omega)
            clear hls hb3
            go_wp2_with (first
              | (go_at_call 42; refine (hfi _ (HH.out.1.nowN keeps_Fld hBj)).mono ?_; rintro e w4 ⟨rfl, hb4⟩; obtain ⟨hc4, hf4⟩ := bcell hb4; (try simp only [World.heap_drewN, World.cell?_drewN, World.frozen?_drewN] at hc4 hf4); have hz4 := hb4.size; (try simp at hz4); (try (have hy4 := Nat.lt_of_succ_le hz4)); (try (have hx4 := Nat.lt_of_succ_lt hy4)); (first | refine szz6 w4 wr (by omega) ?_ | refine szz5 w4 wr (by omega) ?_ | refine szz4 w4 wr (by omega) ?_ | refine szz3 w4 wr (by omega) ?_ | refine szz2 w4 wr (by omega) ?_ | refine szz1 w4 wr (by omega) ?_ | refine szz0 w4 wr (by omega) ?_ | refine szzn w4 wr (by omega) ?_ | skip); intros)
              | (at_builtin; refine wpList_append1 rfl _ _ 34 rfl w2.heap.size 3 i0 _ 1 8 Try.underlying34 ei ez0 ez1 ez2 rfl (by decide) _ j _ rfl (ownsRow_keep hm.out hb4) [.int .i64 (fieldAt l s : Int)] 3 rfl _ rfl (by simp) rfl (by simp [Value.oneCell']) (by omega) (by unfold maxLen; omega) (by have := hbj.size; have := hb4.size; omega) ?_; intro v6 w6 hown6 hb6 hz6 _))
            go_roundw
            case rel =>
              refine ⟨j + 1, by omega, by go_num, Lib.hid ?_, below_step (below_step hbj (show Below wr.heap.size wr w4 from bel) hzj) hb6 (Nat.le_refl _)⟩
              rw [← HL.out, List.flatMap_append]
              simpa using hown6
            case measure => simp [intOf]; omega
          · have hje : j = ss.length := by omega
            subst hje
            have hm' := hm.out
            rw [List.take_length] at hm'
            have hm2 : wr.ownsRow w2.heap.size 3 1 u6 ((ss.map (fieldAt l)).length) ((ss.map (fieldAt l)).flatMap natCs) := by rw [List.length_map, List.flatMap_map]; exact hm'
            obtain ⟨A6, c6, e6, hc6, hs6⟩ := own_sl natCs (fun _ => rfl) hm2 rfl
            subst e6
            have HM := Lib.hid (And.intro hs6 hm2.lt)
            clear hm hm' hm2 hs6
            have hBj : Below wq.heap.size wq wr := below_step hB2 hbj hzz2
            have hRI : RIs wr (beside w.heap.size u3 wr) [.slice A6 ss.length c6] (ss.map (fieldAt l)) := ⟨A6, c6, by rw [List.length_map], hc6, HM.out.1.mono (fun b hb => ⟨by have := hb.1; omega, hb.2, fun e => by have := (hown.out.lt b e.symm).2; have := hb.1; omega⟩)⟩
            go_wp2_with (at_builtin; refine wpList_append_Own keeps_RIs rfl (.tmp 45) (.tmp 47) 50 rfl w.heap.size 34 j0 _ 1 24 Try.underlying50 hj0 iz0 iz1 iz2 rfl (by decide) _ ((needL l).take k) rfl (hown.out.keep keeps_RIs hBj) [.slice A6 ss.length c6] 34 rfl _ rfl rfl rfl (by simp [Value.oneCell']) (by rw [HK.out]; omega) (by rw [HK.out]; unfold maxLen; omega) (by omega) (ss.map (fieldAt l)) hRI ?_; intro g' cap w7 hown7 hb7 hz7 _ _; rw [HK.out] at hown7 ⊢)
            go_roundw
            case rel =>
              refine ⟨k + 1, by omega, by go_num, Lib.hid ?_, below_step (below_step hbr hBj hzr) hb7 (Nat.le_refl _)⟩
              rw [← HT.out]
              exact hown7
            case measure => simp [intOf]; omega
    · have hkn : k = n := by omega
      subst hkn
      have etk : (needL l).take k = needL l := List.take_of_length_le (by rw [needL_len, HH.out.2.1]; exact Nat.le_refl _)
      have hown' := hown.out
      rw [etk] at hown'
      have HO := Lib.hid hown'
      clear hown hown'
      go_wp2_with fail
      go_ret
      exact ⟨_, rfl, HO.out, hbr⟩
end Go.Proofs.Ytgmcojnhpedpnaa
