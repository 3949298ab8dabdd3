/- The reference FieldRanks. -/
import Derived.Test.YtgmcojnhpedpnaaRnk6
namespace Go.Proofs.Ytgmcojnhpedpnaa
open Go.RowKit

theorem allK_snoc (l : List Fld) (k : Nat) (ss : List ByteArray) (s : ByteArray) : allK l k (ss ++ [s]) = (allK l k ss && (rkAt l k s).isSome) := by simp [allK]
theorem find_takeS {α : Type} {bad : α → Bool} {m : List α} {j : Nat} {s : α} (h : ∀ x ∈ m.take j, bad x = false) (hs : m[j]? = some s) (hb : bad s = true) : m.find? bad = some s := by
  have hj := (List.getElem?_eq_some_iff.1 hs).1
  have e : m = m.take j ++ s :: m.drop (j + 1) := by
    have := List.take_append_drop j m
    rw [List.drop_eq_getElem_cons hj] at this
    have e2 : m[j] = s := by rw [List.getElem?_eq_getElem hj] at hs; exact Option.some.inj hs
    rw [e2] at this
    exact this.symm
  rw [e, List.find?_append, List.find?_eq_none.2 (fun x hx => by rw [h x hx]; decide)]
  simp [hb]
set_option maxRecDepth 100000 in
set_option maxHeartbeats 8000000 in
theorem ref_FieldRanks (l : List Fld) (L : Option Addr) (n d : Nat) (w : World) (hn : inB 112 n) (hl : Sl w (old w) 9 (RFld w (old w)) L n l) (hN : ∀ f ∈ l, f.source.nodes ≤ 1048576) (hst : ∀ f ∈ l, inS f.name ∧ ∀ s ∈ askN f.source, inS s) :
    Calls Try.prog 11 #[.slice L n d] w (RetRk w (rankR l)) := by
  have hck := fun w h => ref_FieldsFault l L n d w hn h
  by_cases he : fieldsErr l = 0
  · have h14 : n ≤ 14 := by rw [← hl.len]; exact (fieldsErr_all he).1
    rw [he] at hck
    have hmm := @run_makeMap Try.prog
    obtain ⟨i0, ei, ez0, ez1, ez2⟩ := info_parts Try.infoIn9
    obtain ⟨s0, fi, fz0, fz1, fz2⟩ := info_parts Try.infoStr'
    have HH := Lib.hid (And.intro hl (And.intro he (And.intro hN (And.intro hst (And.intro hl.len hn)))))
    clear hl hN hst hn he
    go_enter Try.func11, Try.ntmps11
    go_wp2_with (go_at_call 28; refine (hck _ (HH.out.1.nowN keeps_Fld bel)).mono ?_; rintro e w1 ⟨rfl, hb1⟩)
    go_loopw [7] (fun lv wr => ∃ k : Nat, k ≤ n ∧ lv = .int .i64 k ∧ Hid (MapIs wr Try.prog 9 w1.heap.size (n * k) (rkMap l k)) ∧ Below w1.heap.size w1 wr) (fun lv _ => n - (intOf lv).toNat)
    case atStart => exact ⟨0, by omega, rfl, Lib.hid (((MapIs.made w1 Try.prog 9).congr (fun kl => (rkMap_0 l kl).symm)).mono (Nat.zero_le _)), Below.alloc (Below.refl _ _) (Nat.le_refl _) _⟩
    case round =>
      obtain ⟨k, hk, rfl, hmk, hbk⟩ := hrel
      have hgl := hmk.out.lt
      by_cases hltk : k < n
      · go_wp2_with fail
        generalize hwk : wr = wk at *
        clear hwk
        go_loopw [46] (fun j wr => ∃ j' : Nat, j' ≤ n ∧ j = .int .i64 j' ∧ Hid (MapIs wr Try.prog 9 wk.heap.size j' (rdMap l k j')) ∧ Below wk.heap.size wk wr) (fun j _ => n - (intOf j).toNat)
        case atStart => exact ⟨0, by omega, rfl, Lib.hid ((MapIs.made wk Try.prog 9).congr (fun kl => (rdMap_0 l k kl).symm)), Below.alloc (Below.refl _ _) (Nat.le_refl _) _⟩
        case round =>
          obtain ⟨j, hj, rfl, hrd, hbr⟩ := hrel
          have hB0 : Below w.heap.size w wk := below_step hb1 hbk hb1.size
          have hBr : Below w.heap.size w wr := below_step hB0 hbr hB0.size
          have hgr : w1.heap.size < wr.heap.size := Nat.lt_of_lt_of_le hgl hbr.size
          have hg2 := hrd.out.lt
          by_cases hltj : j < n
          · obtain ⟨b, o, f, X, C, hAe, hbl, hlf, hrep, x0, x1, x2, x3, x4, x5, x6, x7, x8⟩ := Fld_at (HH.out.1.nowN keeps_Fld hBr) hltj
            subst hAe
            have hbl' : b < wr.heap.size := hbl
            have hfm := List.mem_of_getElem? hlf
            have hkey := WideMaps.keyOf_string_mk (P := Try.prog) (k := 9) Try.underlying9 (inS_max (HH.out.2.2.2.1 f hfm).1)
            have hmr := hmk.out.below hbr hgl
            have hrk := rkMap_str l k f.name
            rw [rkAt_field HH.out.2.1 hlf] at hrk
            cases hq : rkL (needL l) k j with
            | some q =>
              have HR := Lib.hid (rdMap_skip HH.out.2.1 hlf (.inl (by rw [hq]; rfl)))
              rw [hq] at hrk
              have HG := Lib.hid (And.intro hrk (And.intro hmr hkey))
              clear hbl hlf hrep hfm hkey hmr hrk hq
              go_wp2_with (at_lookup; refine wpList_lookup_Is _ rfl _ _ 58 rfl 9 3 (Maps.string_keyed Try.underlying9) Try.underlying58 (Try.zeroInt _) w1.heap.size (n * k) _ rfl (HG.out.2.1.below (show Below wr.heap.size wr _ from bel) hgr) _ _ rfl HG.out.2.2 ?_; rw [HG.out.1]; simp only [Option.map_some, Option.getD_some, Option.isSome_some])
              go_roundw
              case rel => exact ⟨j + 1, by omega, by go_num, Lib.hid (by rw [HR.out]; exact (hrd.out.below (show Below wr.heap.size wr _ from bel) hg2).mono (by omega)), bel⟩
              case measure => simp [intOf]; omega
            | none =>
              have hnf := HH.out.2.2.1 f hfm
              have hsf := HH.out.2.2.2.1 f hfm
              have hso := fun w h => ref_sources f X C w hnf hsf.2 h
              have hal := allK_src HH.out.2.1 hlf hq
              rw [hq] at hrk
              have HG := Lib.hid (And.intro hrk (And.intro hmr (And.intro hkey (And.intro hrep (And.intro hlf (And.intro hq hal))))))
              have hsi : ∀ s ∈ srcN f, inS s := fun s hs => by
                unfold srcN at hs
                split at hs
                · cases hs
                · exact hsf.2 s ((rise_mem _ _).1 hs)
              have hsl : (srcN f).length ≤ 1048576 := by
                unfold srcN
                split
                · simp
                · exact Nat.le_trans (rise_len _) (Nat.le_trans (askN_nodes _) hnf)
              generalize hss : srcN f = ss at *
              have HS := Lib.hid (And.intro hsi hss)
              clear hbl hlf hrep hfm hkey hmr hrk hq hal hsi hnf hsf hss
              go_wp2_with (first
                | (at_lookup; refine wpList_lookup_Is _ rfl _ _ 58 rfl 9 3 (Maps.string_keyed Try.underlying9) Try.underlying58 (Try.zeroInt _) w1.heap.size (n * k) _ rfl (HG.out.2.1.below (show Below wr.heap.size wr _ from bel) hgr) _ _ rfl HG.out.2.2.1 ?_; rw [HG.out.1]; simp only [Option.map_none, Option.getD_none, Option.isSome_none])
                | (go_at_call 29; refine (hso _ (HG.out.2.2.2.1.keep (old_keep bel))).mono ?_; rintro e w4 ⟨v4, rfl, ho4, hb4⟩; obtain ⟨A4, c4, rfl, hca4, hs4⟩ := ownStr ho4 rfl HS.out.1; obtain ⟨hc4, hf4⟩ := bcell hb4; (try simp only [World.heap_drewN, World.cell?_drewN, World.frozen?_drewN] at hc4 hf4); have hz4 := hb4.size; (try simp at hz4); (try (have hy4 := Nat.lt_of_succ_le hz4)); (try (have hx4 := Nat.lt_of_succ_lt hy4)); (first | refine szz6 w4 wr (by omega) ?_ | refine szz5 w4 wr (by omega) ?_ | refine szz4 w4 wr (by omega) ?_ | refine szz3 w4 wr (by omega) ?_ | refine szz2 w4 wr (by omega) ?_ | refine szz1 w4 wr (by omega) ?_ | refine szz0 w4 wr (by omega) ?_ | refine szzn w4 wr (by omega) ?_ | skip); intros))
              have hB4 : Below wr.heap.size wr w4 := bel
              have HS4 := Lib.hid hs4
              have hm4 := HG.out.2.1.below hB4 hgr
              have hr4 := hrd.out.below hB4 hg2
              have HM4 := Lib.hid (And.intro hm4 hr4)
              have hgr4 := hm4.lt
              have hx4 : w4.cell? ⟨wr.heap.size, 0, none⟩ = some (.string f.name) := (hb4.cell (p := ⟨wr.heap.size, 0, none⟩) (by simp)).trans (by first | (go_simp; done) | (go_simp; exact World.cell?_setCell_same' _ _ _ (by go_simp)))
              have hwr4 : wr.heap.size < w4.heap.size := by have := hb4.size; simp at this; omega
              clear hs4 ho4 hso hm4 hr4
              go_loopw [13, 61] (fun al i wr => ∃ q : Nat, q ≤ ss.length ∧ i = .int .i64 q ∧ al = .bool (allK l k (ss.take q)) ∧ wr = w4) (fun _ i _ => ss.length - (intOf i).toNat)
              case atStart => exact ⟨0, by omega, rfl, rfl, rfl⟩
              case round =>
                obtain ⟨q, hq, rfl, rfl, rfl⟩ := hrel
                by_cases hltq : q < ss.length
                · obtain ⟨b3, o3, s, hA3, hb3, hls, hins, y0⟩ := Str_at HS4.out hltq
                  subst hA3
                  have hb3' : b3 < wr.heap.size := hb3
                  have hkey3 := WideMaps.keyOf_string_mk (P := Try.prog) (k := 9) Try.underlying9 (inS_max hins)
                  have hrk3 := rkMap_str l k s
                  have hnx : allK l k (ss.take (q + 1)) = (allK l k (ss.take q) && (rkAt l k s).isSome) := by rw [List.take_add_one, hls]; exact allK_snoc _ _ _ _
                  have HG3 := Lib.hid (And.intro hkey3 hnx)
                  clear hb3 hls hins hkey3 hnx
                  cases hr3 : rkAt l k s with
                  | none =>
                    rw [hr3] at hrk3
                    have HR3 := Lib.hid (And.intro hrk3 (show allK l k (ss.take (q + 1)) = false by rw [HG3.out.2, hr3]; simp))
                    clear hrk3 hr3
                    cases hak : allK l k (ss.take q)
                    all_goals
                      go_wp2_with (at_lookup; refine wpList_lookup_Is _ rfl _ _ 58 rfl 9 3 (Maps.string_keyed Try.underlying9) Try.underlying58 (Try.zeroInt _) w1.heap.size (n * k) _ rfl HM4.out.1 _ _ rfl HG3.out.1 ?_; rw [HR3.out.1]; simp only [Option.map_none, Option.getD_none, Option.isSome_none])
                      go_roundw
                      case rel => exact ⟨q + 1, by omega, by go_num, by rw [HR3.out.2], by trivial⟩
                      case measure => simp [intOf]; omega
                  | some m =>
                    rw [hr3] at hrk3
                    have HR3 := Lib.hid (And.intro hrk3 (show allK l k (ss.take (q + 1)) = allK l k (ss.take q) by rw [HG3.out.2, hr3]; simp))
                    clear hrk3 hr3
                    cases hak : allK l k (ss.take q)
                    all_goals
                      have HAK := Lib.hid hak
                      clear hak
                      go_wp2_with (at_lookup; refine wpList_lookup_Is _ rfl _ _ 58 rfl 9 3 (Maps.string_keyed Try.underlying9) Try.underlying58 (Try.zeroInt _) w1.heap.size (n * k) _ rfl HM4.out.1 _ _ rfl HG3.out.1 ?_; rw [HR3.out.1]; simp only [Option.map_some, Option.getD_some, Option.isSome_some])
                      go_roundw
                      case rel => exact ⟨q + 1, by omega, by go_num, by rw [HR3.out.2, HAK.out], by trivial⟩
                      case measure => simp [intOf]; omega
                · have hqe : q = ss.length := by omega
                  subst hqe
                  rw [List.take_length]
                  have hB5 : Below wk.heap.size wk wr := below_step hbr hB4 hbr.size
                  cases hak : allK l k ss
                  · have HR := Lib.hid (rdMap_skip HH.out.2.1 HG.out.2.2.2.2.1 (.inr (HG.out.2.2.2.2.2.2.trans hak)))
                    clear hak
                    go_wp2_with fail
                    go_roundw
                    case rel => exact ⟨j + 1, by omega, by go_num, Lib.hid (by rw [HR.out]; exact HM4.out.2.mono (by omega)), hB5⟩
                    case measure => simp [intOf]; omega
                  · have HR := Lib.hid (rdMap_put HH.out.2.1 HG.out.2.2.2.2.1 HG.out.2.2.2.2.2.1 (HG.out.2.2.2.2.2.2.trans hak))
                    clear hak
                    go_wp2_with (at_mapUpdate; refine wpList_mapUpdate_Is _ rfl _ _ _ 58 rfl 9 3 (Maps.string_keyed Try.underlying9) Try.underlying58 wk.heap.size j _ rfl HM4.out.2 (by unfold maxLen; omega) _ _ _ rfl rfl HG.out.2.2.1 ?_; intro w5 hm5 hg5; (try go_frame))
                    go_roundw
                    case rel => exact ⟨j + 1, by omega, by go_num, Lib.hid (by rw [← HR.out]; exact hm5), hB5.grown hg5 hB5.size (fun b' hb' => by cases hb'; exact Nat.le_refl _)⟩
                    case measure => simp [intOf]; omega
          · have hje : j = n := by omega
            subst hje
            have hrd' : MapIs wr Try.prog 9 wk.heap.size j (rdMap l k l.length) := by rw [HH.out.2.2.2.2.1]; exact hrd.out
            have HRD := Lib.hid (And.intro hrd' (hmk.out.below hbr hgl))
            clear hrd'
            go_wp2_with (at_range; refine wpList_range_Is _ rfl _ 58 rfl 9 3 (Maps.string_keyed Try.underlying9) Try.underlying58 wk.heap.size j _ rfl HRD.out.1 ?_; intro w6 left0 cnt0 hrg0 hleft0 hg6 hs6; go_frame)
            have hmx0 : MapIs w6 Try.prog 9 w1.heap.size (j * k + (j - cnt0)) (mixMap l k left0) := by
              rw [mixMap_start hleft0]
              exact (HRD.out.2.kept hg6 (by simp)).mono (by omega)
            have hBw6 : Below w1.heap.size w1 w6 := (below_step hbk hbr hbk.size).grown hg6 (by have := hgr; omega) (fun b' hb' => by cases hb')
            have hne1 : w1.heap.size ≠ wk.heap.size := by omega
            have hne2 : w1.heap.size ≠ wr.heap.size := by omega
            have hne3 : wk.heap.size ≠ wr.heap.size := by omega
            have hsb0 : ∀ kl, left0 kl = true → (rdMap l k l.length kl).isSome = true := fun kl h => by rw [← hleft0]; exact h
            have HS0 := Lib.hid (And.intro hrg0 (And.intro hmx0 hsb0))
            generalize hrr : wr.heap.size = rr at *
            clear hrg0 hmx0 hsb0 hleft0 hg6 hrr
            go_loopw [18] (fun _ wr => ∃ (left : Lit → Bool) (cnt : Nat), Hid (RangeIs wr Try.prog 9 wk.heap.size rr j (rdMap l k l.length) left cnt ∧ (∀ kl, left kl = true → (rdMap l k l.length kl).isSome = true) ∧ MapIs wr Try.prog 9 w1.heap.size (j * k + (j - cnt)) (mixMap l k left)) ∧ Below w1.heap.size w1 wr) (fun _ wr => wr.rangeLeft wk.heap.size rr)
            case atStart => exact ⟨left0, cnt0, Lib.hid ⟨HS0.out.1, HS0.out.2.2, HS0.out.2.1⟩, hBw6⟩
            case round =>
              obtain ⟨left, cnt, hS, hBn⟩ := hrel
              have hcj := hS.out.1.cnt_le
              go_wp2_with (at_next; refine wpList_next_Is _ rfl _ rfl 9 (Maps.string_keyed Try.underlying9) Try.underlying9 wk.heap.size rr j _ left cnt hS.out.2.1 rfl hS.out.1 ?_ ?_)
              · intro hc0 hl0
                have hend := hS.out.2.2
                rw [mixMap_end hl0] at hend
                have HE := Lib.hid hend
                clear hend hl0 hS
                go_wp2_with fail
                go_roundw
                case rel => exact ⟨k + 1, by omega, by go_num, Lib.hid (HE.out.mono (by rw [Nat.mul_add]; omega)), hBn⟩
                case measure => simp [intOf]; omega
              · intro s c w7 cnt7 hsz hlk hfc hrg7 hlt7 hg7 hs7 hen
                have hkey7 := WideMaps.keyOf_string_mk (P := Try.prog) (k := 9) Try.underlying9 hsz
                have hm7 := hS.out.2.2.kept hg7 (fun e => hne2 (Option.some.inj e))
                have hps := mixMap_step (left := left) hfc
                have HP := Lib.hid (And.intro hrg7 (And.intro hm7 (And.intro hps (And.intro hkey7 hg7))))
                have hjk : j * k ≤ 196 := Nat.le_trans (Nat.mul_le_mul h14 (by omega : k ≤ 14)) (by omega)
                clear hrg7 hm7 hps hkey7 hfc hlk hg7
                go_wp2_with (at_mapUpdate; refine wpList_mapUpdate_Is _ rfl _ _ _ 58 rfl 9 3 (Maps.string_keyed Try.underlying9) Try.underlying58 w1.heap.size (j * k + (j - cnt)) _ rfl HP.out.2.1 (by unfold maxLen; omega) _ _ _ rfl rfl HP.out.2.2.2.1 ?_; intro w8 hm8 hg8; (try go_frame))
                have hrg8 := HP.out.1.kept hg8 (fun e => hne1 (Option.some.inj e).symm) (fun e => hne2 (Option.some.inj e).symm)
                go_roundw
                case rel =>
                  refine ⟨_, cnt7, Lib.hid ⟨hrg8, fun kl h => hS.out.2.1 kl (by simp only [Bool.and_eq_true] at h; exact h.1), ?_⟩, ?_⟩
                  · rw [← HP.out.2.2.1]
                    exact hm8.mono (by omega)
                  · exact (hBn.grown HP.out.2.2.2.2 hBn.size (fun b' hb' => by cases hb'; omega)).grown hg8 (by have := hBn.size; omega) (fun b' hb' => by cases hb'; omega)
                case measure => rw [hrg8.left_eq, hS.out.1.left_eq]; exact hlt7
      · have hke : k = n := by omega
        subst hke
        have hln := HH.out.2.2.2.2.1
        have hmk' : MapIs wr Try.prog 9 w1.heap.size (k * k) (rkMap l l.length) := by rw [hln]; exact hmk.out
        have HMK := Lib.hid hmk'
        have hBm : Below w.heap.size w wr := below_step hb1 hbk hb1.size
        clear hmk hmk'
        go_wp2_with fail
        generalize hwm : wr = wm at *
        clear hwm
        go_loopw [20, 94] (fun v i wr => ∃ j : Nat, j ≤ k ∧ i = .int .i64 j ∧ Hid (wr.ownsRow wm.heap.size 3 1 v j (((rankO l).take j).flatMap intCs)) ∧ Hid (∀ i, i < j → (rkL (needL l) l.length i).isSome = true) ∧ Below wm.heap.size wm wr) (fun _ i _ => k - (intOf i).toNat)
        case atStart => exact ⟨0, by omega, rfl, Lib.hid (by simpa using World.ownsRow_nil _ _ _ _), Lib.hid (fun i h => absurd h (Nat.not_lt_zero _)), Below.refl _ _⟩
        case round =>
          obtain ⟨j, hj, rfl, hown, hall, hbr⟩ := hrel
          have hBr : Below w.heap.size w wr := below_step hBm hbr hBm.size
          have hgr : w1.heap.size < wr.heap.size := Nat.lt_of_lt_of_le hgl hbr.size
          by_cases hltj : j < k
          · obtain ⟨b, o, f, X, C, hAe, hbl, hlf, hrep, x0, x1, x2, x3, x4, x5, x6, x7, x8⟩ := Fld_at (HH.out.1.nowN keeps_Fld hBr) hltj
            subst hAe
            have hbl' : b < wr.heap.size := hbl
            have hjl : j < l.length := by rw [hln]; exact hltj
            have hfm := List.mem_of_getElem? hlf
            have hkey := WideMaps.keyOf_string_mk (P := Try.prog) (k := 9) Try.underlying9 (inS_max (HH.out.2.2.2.1 f hfm).1)
            have hmr := HMK.out.below hbr hgl
            have hrk := rkMap_str l l.length f.name
            rw [rkAt_field HH.out.2.1 hlf] at hrk
            cases hq : rkL (needL l) l.length j with
            | some q =>
              have hra := rankO_at HH.out.2.1 hjl hq
              rw [hq] at hrk
              have HG := Lib.hid (And.intro hrk (And.intro hmr (And.intro hkey (And.intro hra hq))))
              clear hbl hlf hrep hfm hkey hmr hrk hq hra
              go_wp2_with (first
                | (at_lookup; refine wpList_lookup_Is _ rfl _ _ 58 rfl 9 3 (Maps.string_keyed Try.underlying9) Try.underlying58 (Try.zeroInt _) w1.heap.size (k * k) _ rfl (HG.out.2.1.below (show Below wr.heap.size wr _ from bel) hgr) _ _ rfl HG.out.2.2.1 ?_; rw [HG.out.1]; simp only [Option.map_some, Option.getD_some, Option.isSome_some])
                | (at_builtin; refine wpList_append1 rfl _ _ 34 rfl wm.heap.size 3 i0 _ 1 8 Try.underlying34 ei ez0 ez1 ez2 rfl (by decide) _ j _ rfl (ownsRow_keep hown.out ((Below.refl _ _).alloc (Nat.le_refl _) _)) [.int .i64 (q : Int)] 3 rfl _ rfl (by simp) rfl (by simp [Value.oneCell']) (by omega) (by unfold maxLen; omega) (by have := hbr.size; simp; omega) ?_; intro v6 w6 hown6 hb6 hz6 _))
              go_roundw
              case rel =>
                refine ⟨j + 1, by omega, by go_num, Lib.hid ?_, Lib.hid ?_, below_step (below_step hbr (show Below wr.heap.size wr _ from ((Below.refl _ _).alloc (Nat.le_refl _) _)) hbr.size) hb6 (Nat.le_refl _)⟩
                · rw [List.take_add_one, HG.out.2.2.2.1, List.flatMap_append]
                  simpa using hown6
                · intro i hi
                  by_cases hij : i = j
                  · rw [hij, HG.out.2.2.2.2]; rfl
                  · exact hall.out i (by omega)
              case measure => simp [intOf]; omega
            | none =>
              have hfst := rank_first HH.out.2.1 hjl hall.out hq
              have hrr : rankR l = ([], (cycF l).map (nameAt l), 10) := by rw [rankR, if_neg (by simpa using HH.out.2.1), if_pos hfst.2]
              have hcy0 : cycC (badF l) (needL l) (k + 1) [] j = cycF l := by unfold cycF; rw [hfst.1, hln]
              have hnm := nameAt_at hlf
              rw [hq] at hrk
              have HG := Lib.hid (And.intro hrk (And.intro hmr (And.intro hkey (And.intro hrr (And.intro hcy0 hnm)))))
              clear hbl hlf hrep hfm hkey hmr hrk hq hfst hrr hcy0 hnm
              go_wp2_with (at_lookup; refine wpList_lookup_Is _ rfl _ _ 58 rfl 9 3 (Maps.string_keyed Try.underlying9) Try.underlying58 (Try.zeroInt _) w1.heap.size (k * k) _ rfl (HG.out.2.1.below (show Below wr.heap.size wr _ from bel) hgr) _ _ rfl HG.out.2.2.1 ?_; rw [HG.out.1]; simp only [Option.map_none, Option.getD_none, Option.isSome_none])
              have hB0 : Below wr.heap.size wr (wr.alloc (.cells #[.string f.name, .int .i64 f.kind, .int .i64 f.type, .int .i64 f.source.op, .int .i64 f.source.v.k, .int .i64 f.source.v.n, .string f.source.v.s, .string f.source.name, .slice X f.source.args.length C] 57)) := bel
              generalize hwq : wr = wq at *
              clear hwq
              go_loopw [25, 26] (fun v sv wr => ∃ (path : List Nat) (i : Nat), sv = .string (nameAt l i) ∧ i < k ∧ Hid (wr.ownsRow wq.heap.size 9 1 v path.length ((path.map (nameAt l)).flatMap strCs)) ∧ lenOf v = path.length ∧ PathC k path ∧ Hid (cycC (badF l) (needL l) (k + 1 - path.length) path i = cycF l) ∧ Below wq.heap.size wq wr) (fun v _ _ => k + 1 - lenOf v)
              case atStart => exact ⟨[], j, by rw [HG.out.2.2.2.2.2], hltj, Lib.hid (by simpa using World.ownsRow_nil _ _ _ _), rfl, PathC.nil k, Lib.hid HG.out.2.2.2.2.1, hB0⟩
              case round =>
                obtain ⟨path, i, rfl, hik, hp, hlv, hpc, hcy, hbp⟩ := hrel
                have hpl := hpc.len
                have hil : i < l.length := by rw [hln]; exact hik
                have hBp : Below w.heap.size w wr := below_step hBr hbp hBr.size
                have hpn : ∀ x ∈ path, x < l.length := fun x hx => by rw [hln]; exact hpc.2 x hx
                have hinn : ∀ s ∈ path.map (nameAt l), inS s := by
                  intro s hs
                  obtain ⟨x, hx, rfl⟩ := List.mem_map.1 hs
                  rw [nameAt_at (List.getElem?_eq_getElem (hpn x hx))]
                  exact (HH.out.2.2.2.1 _ (List.getElem_mem (hpn x hx))).1
                obtain ⟨A9, c9, e9, hca9, hs9⟩ := own_slw9 hp.out (by simp) hinn
                subst e9
                have hho := fun w h => ref_holds (nameAt l i) A9 path.length c9 (path.map (nameAt l)) w (by unfold inL; omega) h
                rw [any_nameAt HH.out.2.1 hil path hpn] at hho
                have HS := Lib.hid (And.intro (hs9.mono (S' := old wr) (fun b hb => hb.2)) (And.intro hlv (And.intro hs9 hpn)))
                clear hs9 hlv hinn hpn
                cases hany : path.any (fun x => x == i)
                · rw [hany] at hho
                  obtain ⟨f2, hf2⟩ : ∃ f2, l[i]? = some f2 := ⟨_, List.getElem?_eq_getElem hil⟩
                  have hfm2 := List.mem_of_getElem? hf2
                  have hnf2 := HH.out.2.2.1 f2 hfm2
                  have hsf2 := HH.out.2.2.2.1 f2 hfm2
                  have hfa := fun w h => ref_FieldAt (some ⟨b, o, none⟩) k d l (nameAt l i) w (by unfold inL; omega) h
                  have hfx : firstAt (hasName (nameAt l i)) l = i := by rw [nameAt_at hf2]; exact fieldAt_name HH.out.2.1 hf2
                  rw [hfx] at hfa
                  have hpc' := hpc.snoc hik hany
                  have hpl' : path.length + 1 ≤ k := by have := hpc'.len; simpa using this
                  have hcy' : cycC (badF l) (needL l) (k + 1 - (path ++ [i]).length) (path ++ [i]) (nxtC (badF l) (needL l) i) = cycF l := by
                    have h1 := hcy.out
                    rw [show k + 1 - path.length = (k + 1 - (path ++ [i]).length) + 1 by simp; omega, cycC_step hany] at h1
                    exact h1
                  have hnx := nxt_names HH.out.2.1 hf2
                  have hsi : ∀ s ∈ srcN f2, inS s ∧ l.any (hasName s) = true := fun s hs => by
                    refine ⟨?_, ((fieldsErr_all HH.out.2.1).2 i f2 hf2).2.2.2.2 s hs⟩
                    unfold srcN at hs
                    split at hs
                    · cases hs
                    · exact hsf2.2 s ((rise_mem _ _).1 hs)
                  have hsl : (srcN f2).length ≤ 1048576 := by
                    unfold srcN
                    split
                    · simp
                    · exact Nat.le_trans (rise_len _) (Nat.le_trans (askN_nodes _) hnf2)
                  generalize hss : srcN f2 = ss at *
                  have HC := Lib.hid (And.intro hpc' (And.intro hcy' (And.intro hnx (And.intro hsi (And.intro hf2 hss)))))
                  clear hpc hcy hany hpc' hcy' hnx hsi hf2 hss hfm2 hfx
                  go_wp2_with (first
                    | (go_at_call 20; refine (hho _ (HS.out.1.now bel)).mono ?_; rintro e w5 ⟨rfl, hb5⟩)
                    | (at_builtin; refine wpList_append1 rfl _ _ 27 rfl wq.heap.size 9 s0 (.string ⟨#[]⟩) 1 16 Try.underlying27 fi fz0 fz1 fz2 rfl (by decide) _ path.length _ rfl (ownsRow_keep hp.out hb5) [.string (nameAt l i)] 9 rfl _ rfl rfl rfl (by simp [Value.oneCell']) (by omega) (by unfold maxLen; omega) (by have := hbp.size; have := hb5.size; omega) ?_; intro v6 w6 hown6 hb6 hz6 _; have hB6 : Below w.heap.size w w6 := below_step (below_step hBp hb5 hBp.size) hb6 hBr.size; have HO6 := Lib.hid hown6; clear hown6)
                    | (go_at_call 30; refine (hfa _ (HH.out.1.nowN keeps_Fld hB6)).mono ?_; rintro e w7 ⟨rfl, hb7⟩; have hB7 : Below w.heap.size w w7 := below_step hB6 hb7 hB6.size; obtain ⟨b2, o2, f2', X2, C2, hAe2, hbl2, hlf2, hrep2, z0, z1, z2, z3, z4, z5, z6, z7, z8⟩ := Fld_at (HH.out.1.nowN keeps_Fld hB7) hik; cases hAe2; obtain rfl : f2' = f2 := Option.some.inj (hlf2.symm.trans HC.out.2.2.2.2.1); have hbl2' : b < w7.heap.size := hbl2; have hso2 := (fun w h => ref_sources f2' X2 C2 w hnf2 hsf2.2 h); rw [HC.out.2.2.2.2.2] at hso2; have HRP := Lib.hid hrep2; clear hlf2 hrep2 hbl2)
                    | (go_at_call 29; refine (hso2 _ (HRP.out.keep (old_keep bel))).mono ?_; rintro e w8 ⟨v8, rfl, ho8, hb8⟩; obtain ⟨A8, c8, rfl, hca8, hs8⟩ := ownStr ho8 rfl (fun s hs => (HC.out.2.2.2.1 s hs).1); have HS8 := Lib.hid hs8; clear hs8 ho8))
                  have hq8 : Below wq.heap.size wq w8 := below_step (below_step (below_step (below_step hbp hb5 hbp.size) hb6 (Nat.le_refl _)) hb7 (Nat.le_trans (Nat.le_trans hbp.size hb5.size) hz6)) hb8 (Nat.le_trans (Nat.le_trans (Nat.le_trans hbp.size hb5.size) hz6) hb7.size)
                  have hm8 := HMK.out.below (below_step hbr hq8 hbr.size) hgl
                  have HM8 := Lib.hid hm8
                  have hO8 := ownsRow_keep HO6.out (below_chain hb7 hb8)
                  have HO8 := Lib.hid hO8
                  have hlv6 : lenOf v6 = path.length + 1 := by
                    rcases HO6.out.2 with ⟨_, h0⟩ | ⟨g, cap, cur, e6, _⟩
                    · omega
                    · rw [e6]; rfl
                  clear hm8 hO8 hb7 hb8 hb5 hb6
                  generalize hwv : w8 = wv at *
                  clear hwv
                  go_loopw [26, 128] (fun sv i' wr => ∃ q : Nat, q ≤ ss.length ∧ i' = .int .i64 q ∧ sv = .string (nameAt l i) ∧ wr = wv ∧ Hid (∀ x ∈ ss.take q, (rkAt l l.length x).isNone = false)) (fun _ i' _ => ss.length - (intOf i').toNat)
                  case atStart => exact ⟨0, by omega, rfl, rfl, rfl, Lib.hid (fun x h => absurd h (by simp))⟩
                  case round =>
                    obtain ⟨q, hq, rfl, rfl, rfl, hno⟩ := hrel
                    by_cases hltq : q < ss.length
                    · obtain ⟨b3, o3, s, hA3, hb3, hls, hins, y0⟩ := Str_at HS8.out hltq
                      subst hA3
                      have hb3' : b3 < wr.heap.size := hb3
                      have hkey3 := WideMaps.keyOf_string_mk (P := Try.prog) (k := 9) Try.underlying9 (inS_max hins)
                      have hrk3 := rkMap_str l l.length s
                      have hany3 := (HC.out.2.2.2.1 s (List.mem_of_getElem? hls)).2
                      cases hr3 : rkAt l l.length s with
                      | none =>
                        rw [hr3] at hrk3
                        have hfd : ss.find? (fun s => (rkAt l l.length s).isNone) = some s := find_takeS hno.out hls (by rw [hr3]; rfl)
                        have hn3 := HC.out.2.2.1
                        rw [hfd] at hn3
                        have hcy3 := HC.out.2.1
                        rw [hn3] at hcy3
                        have HR3 := Lib.hid (And.intro hrk3 (And.intro hkey3 (And.intro hcy3 (And.intro (nameAt_field hany3) (fieldAt_some hany3).1))))
                        clear hno hb3 hls hins hkey3 hrk3 hany3 hr3 hfd hn3 hcy3
                        go_wp2_with (at_lookup; refine wpList_lookup_Is _ rfl _ _ 58 rfl 9 3 (Maps.string_keyed Try.underlying9) Try.underlying58 (Try.zeroInt _) w1.heap.size (k * k) _ rfl HM8.out _ _ rfl HR3.out.2.1 ?_; rw [HR3.out.1]; simp only [Option.map_none, Option.getD_none, Option.isSome_none])
                        go_roundw
                        case rel => exact ⟨path ++ [i], fieldAt l s, by rw [HR3.out.2.2.2.1], by rw [← hln]; exact HR3.out.2.2.2.2, Lib.hid (by simpa using HO8.out), by simpa using hlv6, HC.out.1, Lib.hid HR3.out.2.2.1, hq8⟩
                        case measure => rw [hlv6, HS.out.2.1]; omega
                      | some m =>
                        rw [hr3] at hrk3
                        have HR3 := Lib.hid (And.intro hrk3 (And.intro hkey3 (show ∀ x ∈ ss.take (q + 1), (rkAt l l.length x).isNone = false by
                          intro x hx
                          rw [List.take_add_one, hls] at hx
                          rcases List.mem_append.1 hx with hx | hx
                          · exact hno.out x hx
                          · simp at hx; rw [hx, hr3]; rfl)))
                        clear hno hb3 hls hins hkey3 hrk3 hany3 hr3
                        go_wp2_with (at_lookup; refine wpList_lookup_Is _ rfl _ _ 58 rfl 9 3 (Maps.string_keyed Try.underlying9) Try.underlying58 (Try.zeroInt _) w1.heap.size (k * k) _ rfl HM8.out _ _ rfl HR3.out.2.1 ?_; rw [HR3.out.1]; simp only [Option.map_some, Option.getD_some, Option.isSome_some])
                        go_roundw
                        case rel => exact ⟨q + 1, by omega, by go_num, by trivial, by trivial, Lib.hid HR3.out.2.2⟩
                        case measure => simp [intOf]; omega
                    · have hqe : q = ss.length := by omega
                      subst hqe
                      have hno' := hno.out
                      rw [List.take_length] at hno'
                      have hfd : ss.find? (fun s => (rkAt l l.length s).isNone) = none := List.find?_eq_none.2 (fun x hx => by rw [hno' x hx]; decide)
                      have hn3 := HC.out.2.2.1
                      rw [hfd] at hn3
                      have hcy3 := HC.out.2.1
                      rw [hn3] at hcy3
                      have HR3 := Lib.hid hcy3
                      clear hno hno' hfd hn3 hcy3
                      go_wp2_with fail
                      go_roundw
                      case rel => exact ⟨path ++ [i], i, rfl, hik, Lib.hid (by simpa using HO8.out), by simpa using hlv6, HC.out.1, HR3, hq8⟩
                      case measure => rw [hlv6, HS.out.2.1]; omega
                · rw [hany] at hho
                  have hlt := firstAt_any _ path hany
                  have hr1 := hcy.out
                  rw [show k + 1 - path.length = (k - path.length) + 1 by omega, cycC_stop hany] at hr1
                  have hsn : ∀ m, m < path.length → (path.map (nameAt l))[m]? = some (nameAt l (path[m]?.getD 0)) := fun m hm => by
                    rw [List.getElem?_map, List.getElem?_eq_getElem hm]; rfl
                  have hat := find_at (fun x => x == i) path hany
                  have hfe : path[firstAt (fun x => x == i) path]? = some i := by
                    obtain ⟨a, h1, h2, _⟩ := hat
                    have := List.find?_some h2
                    rw [h1]
                    simpa using this
                  have hfl : ∀ m, m < firstAt (fun x => x == i) path → path[m]?.getD 0 ≠ i := fun m hm e => by
                    have h5 := firstAt_hit (fun x => x == i) (path.take (m + 1)) m
                    have hml : m < path.length := by omega
                    have h6 : (path.take (firstAt (fun x => x == i) path)).any (fun x => x == i) = false := by
                      rcases firstAt_take (fun x => x == i) path (firstAt (fun x => x == i) path) with h | h
                      · omega
                      · exact h
                    rw [List.any_eq_false] at h6
                    rw [List.getElem?_eq_getElem hml] at e
                    refine h6 path[m] (List.mem_iff_getElem.2 ⟨m, by rw [List.length_take]; omega, by rw [List.getElem_take]⟩) ?_
                    simpa using e
                  generalize firstAt (fun x => x == i) path = qf at *
                  have hcl : (cycF l).map (nameAt l) = (path.map (nameAt l)).drop qf := by rw [← hr1, List.map_drop]
                  have HC := Lib.hid (And.intro hcl (And.intro hfe (And.intro hfl hsn)))
                  clear hcy hany hr1 hat hfe hfl hcl hsn
                  go_wp2_with (go_at_call 20; refine (hho _ (HS.out.1.now bel)).mono ?_; rintro e w5 ⟨rfl, hb5⟩)
                  have hs5 := HS.out.2.2.1.keep (w' := w5) (fun b hb => hb5.block b hb.2) (fun _ _ h => h)
                  have hs5' : Sl w5 (fun b => wq.heap.size ≤ b ∧ b < w5.heap.size) 1 RStr A9 (path.length - 0) ((path.map (nameAt l)).drop 0) := by
                    rw [Nat.sub_zero, List.drop_zero]
                    exact hs5.mono (fun b hb => ⟨hb.1, Nat.lt_of_lt_of_le hb.2 hb5.size⟩)
                  have HS5 := Lib.hid hs5'
                  clear hs5 hs5'
                  generalize hwv : w5 = wv at *
                  clear hwv
                  go_loopw [25] (fun v wr => ∃ (m : Nat) (A : Option Addr) (c : Nat), v = .slice A (path.length - m) c ∧ m ≤ qf ∧ path.length - m ≤ c ∧ wr = wv ∧ Hid (Sl wv (fun b => wq.heap.size ≤ b ∧ b < wv.heap.size) 1 RStr A (path.length - m) ((path.map (nameAt l)).drop m))) (fun v _ => lenOf v)
                  case atStart => exact ⟨0, A9, c9, rfl, Nat.zero_le _, hca9, rfl, HS5⟩
                  case round =>
                    obtain ⟨m, A, c, rfl, hmq, hmc, rfl, hsm⟩ := hrel
                    obtain ⟨b3, o3, x, hA3, hb3, hlx, hins, y0⟩ := Str_at hsm.out (k := 0) (by omega)
                    subst hA3
                    have hb3' : b3 < wr.heap.size := hb3.2
                    rw [Nat.add_zero] at y0
                    have hxm : x = nameAt l (path[m]?.getD 0) := by
                      rw [List.getElem?_drop, Nat.add_zero, HC.out.2.2.2 m (by omega)] at hlx
                      exact (Option.some.inj hlx).symm
                    by_cases hmqe : m = qf
                    · subst hmqe
                      have hxe : x = nameAt l i := by rw [hxm, HC.out.2.1]; rfl
                      subst hxe
                      have hpos : 0 < path.length - m := by omega
                      have g1 : ((nameAt l i).toList == (nameAt l i).toList) = true := by simp
                      have HR := Lib.hid hsm.out
                      clear hsm hlx hxm hb3 hins
                      go_wp2_with fail
                      go_ret3
                      rw [HG.out.2.2.2.1, HC.out.1]
                      have hll : ((path.map (nameAt l)).drop m).length = path.length - m := by rw [List.length_drop, List.length_map]
                      exact ⟨none, 0, some ⟨b3, o3, none⟩, c, by rw [hll]; rfl, Nat.le_refl _, by rw [hll]; exact hmc, Sl.nil, by rw [hll]; exact HR.out.mono (fun b hb => ⟨by have := hb.1; have := hBr.size; omega, hb.2⟩), below_step hBp hb5 hBp.size⟩
                    · have hxe : x ≠ nameAt l i := by
                        rw [hxm]
                        intro e
                        have hml : m < path.length := by omega
                        refine HC.out.2.2.1 m (by omega) (nameAt_inj HH.out.2.1 ?_ hil e)
                        rw [List.getElem?_eq_getElem hml]
                        exact HS.out.2.2.2 _ (List.getElem_mem hml)
                      have g1 : (x.toList == (nameAt l i).toList) = false := by
                        cases hb : (x.toList == (nameAt l i).toList)
                        · rfl
                        · exact absurd (toList_inj (by simpa using hb)) hxe
                      have hpos : 1 < path.length - m := by omega
                      have hpos0 : 0 < path.length - m := by omega
                      have hc1 : 1 ≤ c := by omega
                      obtain ⟨A7, e7, hs7⟩ := hsm.out.cut (k := 1) (by omega) hmc
                      rw [if_neg (by omega)] at e7
                      subst e7
                      have HR := Lib.hid hs7
                      clear hsm hlx hxm hb3 hins hxe hs7
                      go_wp2_with fail
                      go_roundw
                      case rel =>
                        refine ⟨m + 1, some (Addr.add ⟨b3, o3, none⟩ 1), c - 1, by rw [Addr.add_lit, Nat.sub_add_eq], by omega, by omega, by trivial, Lib.hid ?_⟩
                        have h7 := HR.out
                        rw [List.drop_drop, Nat.sub_sub] at h7
                        exact h7
                      case measure => show path.length - m - 1 < path.length - m; omega
          · have hje : j = k := by omega
            subst hje
            have hrn : rankR l = (rankO l, [], 0) := by
              rw [rankR, if_neg (by simpa using HH.out.2.1), if_neg (by rw [rank_none HH.out.2.1 (fun i hi => hall.out i (by omega))]; decide)]
            have hlr := (rankO_any HH.out.2.1)
            have ho := hown.out
            rw [List.take_of_length_le (by rw [hlr.1, hln]; exact Nat.le_refl _)] at ho
            obtain ⟨A9, c9, e9, hc9, hs9⟩ := own_sli ho (by rw [hlr.1, hln]) (hlr.2.inI (needL_lt HH.out.2.1) (by rw [hln]; exact h14))
            subst e9
            have HS := Lib.hid (And.intro hs9 (And.intro hc9 (And.intro hrn hlr.1)))
            clear ho hs9 hc9 hrn hlr hown
            go_wp2_with fail
            go_ret3
            rw [HS.out.2.2.1]
            exact ⟨A9, c9, none, 0, by rw [HS.out.2.2.2, hln]; rfl, by rw [HS.out.2.2.2, hln]; exact HS.out.2.1, Nat.le_refl _, by rw [HS.out.2.2.2, hln]; exact HS.out.1.mono (fun b hb => ⟨by have := hb.1; have := hBm.size; omega, hb.2⟩), Sl.nil, hBr⟩
  · have hr : rankR l = ([], [], fieldsErr l) := by rw [rankR, if_pos he]
    rw [hr]
    have he' : (fieldsErr l != 0) = true := by simpa using he
    generalize fieldsErr l = er at *
    have HH := Lib.hid hl
    clear hl he hr hn hN hst
    go_enter Try.func11, Try.ntmps11
    go_wp2_with (go_at_call 28; refine (hck _ (HH.out.nowN keeps_Fld bel)).mono ?_; rintro e w1 ⟨rfl, hb1⟩; obtain ⟨hc1, hf1⟩ := bcell hb1; (try simp only [World.heap_drewN, World.cell?_drewN, World.frozen?_drewN] at hc1 hf1); have hz1 := hb1.size; (try simp at hz1); (try (have hy1 := Nat.lt_of_succ_le hz1)); (try (have hx1 := Nat.lt_of_succ_lt hy1)); (first | refine szz6 w1 w (by omega) ?_ | refine szz5 w1 w (by omega) ?_ | refine szz4 w1 w (by omega) ?_ | refine szz3 w1 w (by omega) ?_ | refine szz2 w1 w (by omega) ?_ | refine szz1 w1 w (by omega) ?_ | refine szz0 w1 w (by omega) ?_ | refine szzn w1 w (by omega) ?_ | skip); intros)
    go_ret3
    exact ⟨none, 0, none, 0, rfl, Nat.le_refl _, Nat.le_refl _, Sl.nil, Sl.nil, bel⟩
end Go.Proofs.Ytgmcojnhpedpnaa
