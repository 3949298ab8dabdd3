/- The walk of typing.of. -/
import Derived.Test.YtgmcojnhpedpnaaGreatTy
import Derived.Test.YtgmcojnhpedpnaaGreatOwn
import Derived.Test.YtgmcojnhpedpnaaGreatCop
import Derived.Test.YtgmcojnhpedpnaaGreatShelf
namespace Go.Proofs.YtgmcojnhpedpnaaGreat
open Go.RowKit

/-- A cell of a row of numbers. -/
def RN (cs : List Value) (t : Int) : Prop := cs = [.int .i64 t]
theorem Tryz.infoInt : (Tryz.prog.info? 3).map (fun i => (i.zero, i.size, i.bytes)) = some (some (.int .i64 0), 1, 8) := by kernel_rfl
theorem Tryz.zeroRule (w : World) : (zeroValue 171).run Tryz.prog w = .ok (.agg #[.slice none 0 0, .int .i64 0]) w := by kernel_rfl
theorem Tryz.zeroInt (w : World) : (zeroValue 3).run Tryz.prog w = .ok (.int .i64 0) w := by kernel_rfl
theorem row_cell {w : World} {base : Nat} {A : Option Addr} {n c : Nat} {ts : List Int} (h : Own w base 3 1 (fun _ _ => RN) (.slice A n c) ts) {k : Nat} {t : Int} (hk : ts[k]? = some t) :
    ∃ g, A = some ⟨g, 0, none⟩ ∧ base ≤ g ∧ g < w.heap.size ∧ ∀ (j : Nat) (u : Int), ts[j]? = some u → w.cell? ⟨g, j, none⟩ = some (.int .i64 u) := by
  obtain ⟨A', c', e, _, hs⟩ := h.sl (keeps_flat _)
  have hlt := h.lt
  cases e
  have hkl : k < ts.length := (List.getElem?_eq_some_iff.1 hk).1
  obtain ⟨b, o, e1, e2, e3⟩ := hs.2 (by omega)
  subst e1
  have ho : o = 0 := by
    obtain ⟨C, ⟨_, h2⟩, _⟩ := h
    rcases h2 with ⟨e, _⟩ | ⟨g, cap, cur, e, _⟩
    · cases e
    · cases e; rfl
  subst ho
  refine ⟨b, rfl, (hlt b rfl).1, (hlt b rfl).2, fun j u hj => ?_⟩
  obtain ⟨cs, e4, _, e5⟩ := e3 j u hj
  have e6 := e5 0 (by decide)
  rw [show cs = [.int .i64 u] from e4] at e6
  simpa using e6

set_option maxRecDepth 100000 in
set_option maxHeartbeats 2000000 in
theorem typing_of (l : List Fld) (fb kb g n : Nat) (N : Nat) : ∀ (x : Exp) (A : Option Addr) (c : Nat) (w : World), x.nodes ≤ N → prtN x = 0 →
    XRep w (old w) [.int .i64 x.op, .int .i64 x.v.k, .int .i64 x.v.n, .string x.v.s, .string x.name, .slice A x.args.length c] x → MapIs w Tryz.prog 9 fb n (typeMap l.reverse) → Rules w kb g →
    Calls Tryz.prog 148 #[.agg #[.int .i64 x.op, .int .i64 x.v.k, .int .i64 x.v.n, .string x.v.s, .string x.name, .slice A x.args.length c], .map (some fb), .map (some kb)] w (RetP w (tyX l x)) := by
  induction N with
  | zero =>
    intro x A c w hN
    obtain ⟨op, v, nm, args⟩ := x
    simp [Exp.nodes] at hN
  | succ N ih =>
    intro x A c w hN hp hx hf hr
    have HI := Lib.hid ih
    clear ih
    obtain ⟨i1, i2, i3, i4, i5, hsl, hch⟩ := hx.kids
    obtain ⟨p1, p2, p3, p4⟩ := prt_ok hp
    have HH := Lib.hid (And.intro hsl (And.intro (fun i a h => by have := hch i a h; omega : ∀ (i : Nat) (a : Exp), x.args[i]? = some a → a.nodes ≤ N) (And.intro hf (And.intro hr p4))))
    have hlen : x.args.length ≤ 1759218604416 := by unfold inB at i4; omega
    have hks := Tryz.keyStr x.name i3
    have hki := Tryz.keyInt x.op i1
    have HP3 := Lib.hid p3
    clear hsl hch hx hN i1 i2 i3 i4 i5 hf hr p4 hp p3
    rcases (by omega : x.op = 1 ∨ x.op = 2 ∨ (x.op ≠ 1 ∧ x.op ≠ 2)) with ho | ho | ⟨ho1, ho2⟩
    · rw [tyX_const l ho]
      go_enter Tryz.func148, Tryz.ntmps148
      go_wp2_with fail
      go_ret2
      exact ⟨rfl, bel⟩
    · rw [tyX_ref l ho]
      have hm := typeMap_at x.name l
      cases hft : fieldTy l x.name with
      | none =>
        rw [hft] at hm
        have HM := Lib.hid (And.intro hm hks)
        clear hm hks
        go_enter Tryz.func148, Tryz.ntmps148
        go_wp2_with (at_lookup; refine wpList_lookup_Is _ rfl _ _ 96 rfl 9 3 (Maps.string_keyed Tryz.underlying9) Tryz.underlying96 (Tryz.zeroInt _) fb n _ rfl (HH.out.2.2.1.below (Below.alloc (Below.refl _ w) (Nat.le_refl _) _) HH.out.2.2.1.lt) _ _ rfl HM.out.2 ?_; rw [HM.out.1]; simp only [Option.map_none, Option.getD_none, Option.isSome_none])
        go_ret2
        exact ⟨rfl, bel⟩
      | some t =>
        rw [hft] at hm
        have HM := Lib.hid (And.intro hm hks)
        clear hm hks
        go_enter Tryz.func148, Tryz.ntmps148
        go_wp2_with (at_lookup; refine wpList_lookup_Is _ rfl _ _ 96 rfl 9 3 (Maps.string_keyed Tryz.underlying9) Tryz.underlying96 (Tryz.zeroInt _) fb n _ rfl (HH.out.2.2.1.below (Below.alloc (Below.refl _ w) (Nat.le_refl _) _) HH.out.2.2.1.lt) _ _ rfl HM.out.2 ?_; rw [HM.out.1]; simp only [Option.map_some, Option.getD_some, Option.isSome_some])
        go_ret2
        exact ⟨rfl, bel⟩
    · have ho1' : (x.op == 1) = false := by simpa using ho1
      have ho2' : (x.op == 2) = false := by simpa using ho2
      obtain ⟨j0, hj0, iz0, iz1, iz2⟩ := info_parts Tryz.infoInt
      clear hks
      go_enter Tryz.func148, Tryz.ntmps148
      go_wp2_with fail
      go_loopw [10, 39] (fun out i wr => ∃ (k : Nat) (A' : Option Addr) (c' : Nat), k ≤ x.args.length ∧ i = .int .i64 k ∧ out = .slice A' k c' ∧ Hid (Own wr (w.heap.size + 1) 3 1 (fun _ _ => RN) (.slice A' k c') ((x.args.take k).map fun a => (tyX l a).1)) ∧ Hid (∀ a ∈ x.args.take k, (tyX l a).2 = 0) ∧ wr.cell? ⟨w.heap.size, 0, none⟩ = some (.int .i64 x.op) ∧ Below w.heap.size w wr ∧ w.heap.size + 1 ≤ wr.heap.size) (fun _ i _ => x.args.length - (intOf i).toNat)
      case atStart => exact ⟨0, none, 0, by omega, rfl, rfl, Lib.hid Own.nil, Lib.hid (by simp), by go_simp, bel, by simp⟩
      case round =>
        obtain ⟨k, A', c', hk, rfl, rfl, hown, hz, hop, hbr, hsz⟩ := hrel
        by_cases hlt : k < x.args.length
        · obtain ⟨b, o, a, X, C, hAe, hbl, hl, hxa, x0, x1, x2, x3, x4, x5⟩ := Exp_at (HH.out.1.nowN keeps_Exp hbr) hlt
          subst hAe
          have hbl' : b < wr.heap.size := hbl
          have hia := fun w h h' h'' => HI.out a X C w (HH.out.2.1 k a hl) (HH.out.2.2.2.2 a (List.mem_of_getElem? hl)) h h' h''
          have hlk : ((x.args.take k).map fun a => (tyX l a).1).length = k := by rw [List.length_map, List.length_take]; omega
          have HO := Lib.hid (And.intro hxa (And.intro hl hlk))
          have hlw : w.heap.size < wr.heap.size := by omega
          clear hxa hl hbl hlk
          by_cases hq : (tyX l a).2 = 0
          · have HQ := Lib.hid hq
            rw [show tyX l a = ((tyX l a).1, 0) from Prod.ext rfl hq] at hia
            obtain ⟨t, ht⟩ : ∃ t, (tyX l a).1 = t := ⟨_, rfl⟩
            rw [ht] at hia
            have HT := Lib.hid ht
            clear hq ht
            go_wp2_with (first
              | (go_at_call 148; refine (hia _ (HO.out.1.keep (old_keep bel)) ((HH.out.2.2.1.below hbr HH.out.2.2.1.lt).below (Below.alloc (Below.refl _ wr) (Nat.le_refl _) _) (Nat.lt_of_lt_of_le HH.out.2.2.1.lt hbr.size)) ((HH.out.2.2.2.1.now hbr).now (Below.alloc (Below.refl _ wr) (Nat.le_refl _) _))).mono ?_; rintro e w3 ⟨rfl, hb3⟩; have hw3 : Below wr.heap.size wr w3 := below_step bel hb3 (by simp); have hz3 : wr.heap.size < w3.heap.size := (by have := hb3.size; simp at this; omega); dsimp only)
              | (at_builtin; refine wpList_append_Own (keeps_flat RN) rfl (.tmp 53) (.tmp 55) 41 rfl (w.heap.size + 1) 3 j0 _ 1 8 Tryz.underlying41 hj0 iz0 iz1 iz2 rfl (by decide) (.slice A' k c') ((x.args.take k).map fun a => (tyX l a).1) rfl (hown.out.keep (keeps_flat _) hw3) [.int .i64 t] 3 rfl _ rfl rfl rfl (by simp [Value.oneCell']) (by rw [HO.out.2.2]; omega) (by rw [HO.out.2.2]; unfold maxLen; omega) (by omega) t rfl ?_; intro g' cap w5 hown5 hb5 hz5 hk5 _; rw [HO.out.2.2] at hown5 ⊢))
            go_roundw
            case rel =>
              have hke := hk5 w.heap.size (by omega) (fun e => by have := (hown.out.lt _ e.symm).1; omega)
              have etk : ((x.args.take k).map fun a => (tyX l a).1) ++ [t] = (x.args.take (k + 1)).map fun a => (tyX l a).1 := by rw [List.take_add_one, HO.out.2.1, List.map_append, ← HT.out]; rfl
              rw [etk] at hown5
              refine ⟨k + 1, some ⟨g', 0, none⟩, cap, by omega, by go_num, rfl, Lib.hid hown5, Lib.hid ?_, ?_, below_step (below_step hbr hw3 (by omega)) hb5 (by omega), by omega⟩
              · rw [List.take_add_one, HO.out.2.1]
                intro b hb
                rcases List.mem_append.1 hb with hb | hb
                · exact hz.out b hb
                · simp at hb; subst hb; exact HQ.out
              · exact (World.cell?_of_block (w := w3) (a := ⟨w.heap.size, 0, none⟩) hke).trans ((hw3.cell (p := ⟨w.heap.size, 0, none⟩) hlw).trans hop)
            case measure => simp [intOf]; omega
          · have hE := tyX_err l ho1 ho2 hz.out HO.out.2.1 hq
            rw [hE]
            have hq' : ((tyX l a).2 != 0) = true := by simpa using hq
            obtain ⟨t, ht⟩ : ∃ t, (tyX l a).1 = t := ⟨_, rfl⟩
            obtain ⟨u, hu⟩ : ∃ u, (tyX l a).2 = u := ⟨_, rfl⟩
            rw [show tyX l a = (t, u) from Prod.ext ht hu] at hia
            rw [hu] at hq' ⊢
            clear ht hu hq hE
            go_wp2_with (go_at_call 148; refine (hia _ (HO.out.1.keep (old_keep bel)) ((HH.out.2.2.1.below hbr HH.out.2.2.1.lt).below (Below.alloc (Below.refl _ wr) (Nat.le_refl _) _) (Nat.lt_of_lt_of_le HH.out.2.2.1.lt hbr.size)) ((HH.out.2.2.2.1.now hbr).now (Below.alloc (Below.refl _ wr) (Nat.le_refl _) _))).mono ?_; rintro e w3 ⟨rfl, hb3⟩; have hw3 : Below wr.heap.size wr w3 := below_step bel hb3 (by simp); have hz3 : wr.heap.size < w3.heap.size := (by have := hb3.size; simp at this; omega); dsimp only)
            go_ret2
            exact ⟨rfl, below_step hbr hw3 (by omega)⟩
        · have hkn : k = x.args.length := by omega
          have hlw : w.heap.size < wr.heap.size := by omega
          subst hkn
          rw [List.take_length] at hown hz
          have hty := tyX_all l ho1 ho2 hz.out
          obtain ⟨ts, hts⟩ : ∃ ts, (x.args.map fun a => (tyX l a).1) = ts := ⟨_, rfl⟩
          have htl : ts.length = x.args.length := by rw [← hts, List.length_map]
          rw [hts] at hown hty
          clear hts hz
          obtain ⟨hgl, _, _, _, F, hF, hfo⟩ := HH.out.2.2.2.1.now hbr
          have hfo' := hfo x.op
          have hRow := fun wt hw => (HH.out.2.2.2.1.now hbr).row (wt := wt) hw
          clear hfo
          cases hwt : wantOf x.op with
          | some q =>
            obtain ⟨wt, m, own⟩ := q
            obtain ⟨hm0, hwr, hm⟩ := wantOf_some hwt
            have hnm : x.args.length = m := by have p3 := HP3.out; omega
            rw [tyApp_known hwt (by rw [htl, hnm]), ← hnm] at hty
            rw [hwt, Option.map_some, ← hnm] at hfo'
            obtain ⟨g', rfl, hg1, hg2, hgc⟩ := row_cell hown.out (List.getElem?_eq_getElem (by omega : 0 < ts.length))
            have hrc := hRow wt hwr
            have HG := Lib.hid (And.intro hgc (And.intro hrc (And.intro hF (And.intro hfo' hki))))
            have hgw : g + (wt.toNat - 1) < wr.heap.size := by rcases hwr with h | h | h <;> subst h <;> simp <;> omega
            clear hgc hrc hF hfo' hki hown hRow hwt
            have hml : x.args.length ≤ 2 := by omega
            have hmm : x.args.length ≤ ([wt, wt] : List Int).length := hml
            have hEq : ∀ W : World, Below wr.heap.size wr W → Calls Tryz.prog 41 #[.slice (some ⟨g', 0, none⟩) x.args.length c', .slice (some ⟨g + (wt.toNat - 1), 0, none⟩) x.args.length 2] W fun e w' => e = .returned (.bool (ts.take x.args.length == [wt, wt].take x.args.length)) ∧ ∃ q, w' = W.drewN q := by
              intro W hW
              refine Tryz.slices_Equal_int g' 0 x.args.length c' (g + (wt.toNat - 1)) 0 x.args.length 2 ts [wt, wt] W (by rw [htl]; exact Nat.le_refl _) hmm (by omega) (by omega) (fun j hj => ?_) (fun j hj => ?_)
              · rw [Nat.zero_add, hW.cell (p := ⟨g', j, none⟩) hg2, HG.out.1 j _ (List.getElem?_eq_getElem hj), List.getD_eq_getElem?_getD, List.getElem?_eq_getElem hj]; rfl
              · rw [Nat.zero_add, hW.cell (p := ⟨g + (wt.toNat - 1), j, none⟩) hgw]
                have hj2 : j < 2 := hj
                rcases (by omega : j = 0 ∨ j = 1) with rfl | rfl
                · exact HG.out.2.1.1
                · exact HG.out.2.1.2
            obtain ⟨B, hB⟩ : ∃ B, (ts.take x.args.length == [wt, wt].take x.args.length) = B := ⟨_, rfl⟩
            rw [hB] at hEq hty
            clear hB
            have HTY := Lib.hid hty
            clear hty
            simp only [hnm] at hEq
            cases B
            all_goals
              go_wp2_with (first
                | (at_lookup; refine wpList_lookup_Is _ rfl _ _ 161 rfl 3 171 (Maps.int_keyed Tryz.underlying3) Tryz.underlying161 (Tryz.zeroRule _) kb 11 F rfl HG.out.2.2.1 _ _ rfl HG.out.2.2.2.2 ?_; rw [HG.out.2.2.2.1]; simp only [Option.getD_some, Option.isSome_some])
                | (go_at_call 41; refine (hEq _ bel).mono ?_; rintro e w4 ⟨rfl, q4, rfl⟩))
              go_ret2
              rw [HTY.out]
              exact ⟨rfl, bel⟩
          | none =>
            rw [hwt, Option.map_none] at hfo'
            have HG := Lib.hid (And.intro hF (And.intro hfo' hki))
            have hon := wantOf_none hwt (by omega) p2
            have p3 := HP3.out
            have hnx : (x.args.length = 1 ∨ x.args.length = 2 ∨ x.args.length = 3) ∧ (x.op = 17 → x.args.length = 3) ∧ (11 ≤ x.op ∧ x.op ≤ 14 → x.args.length = 2) := by unfold argsN at p3; split at p3 <;> first | (exfalso; omega) | (split at p3 <;> first | (refine ⟨?_, fun _ => ?_, fun _ => ?_⟩ <;> omega) | (split at p3 <;> (refine ⟨?_, fun _ => ?_, fun _ => ?_⟩ <;> omega)))
            clear hF hfo' hki hRow p3
            have HON := Lib.hid (And.intro hon (And.intro hnx hty))
            clear hon hnx hty p1 p2 hwt
            go_wp2_with (at_lookup; refine wpList_lookup_Is _ rfl _ _ 161 rfl 3 171 (Maps.int_keyed Tryz.underlying3) Tryz.underlying161 (Tryz.zeroRule _) kb 11 F rfl HG.out.1 _ _ rfl HG.out.2.2 ?_; rw [HG.out.2.1]; simp only [Option.getD_none, Option.isSome_none])
            obtain ⟨hon, hnx, hty⟩ := HON.out
            rcases hon with h17 | h14
            · have h3 : ts.length = 3 := by rw [htl]; exact hnx.2.1 h17
              clear hnx
              match ts, h3 with
              | [a, b, c0], _ =>
                obtain ⟨g', rfl, hg1, hg2, hgc⟩ := row_cell hown.out (k := 0) (t := a) rfl
                have hc0 := hgc 0 a rfl
                have hc1 := hgc 1 b rfl
                have hc2 := hgc 2 c0 rfl
                have hx3 : x.args.length = 3 := htl.symm
                rw [tyApp_if h17] at hty
                have h17' : (x.op == 17) = true := by simpa using h17
                have h17'' : (x.op != 17) = false := by simpa using h17
                clear hown h17 hgc htl
                obtain ⟨bA, hA⟩ : ∃ bA, (a == 2) = bA := ⟨_, rfl⟩
                obtain ⟨bB, hB⟩ : ∃ bB, (b == c0) = bB := ⟨_, rfl⟩
                rw [hA, hB] at hty
                cases bA
                · have HTY := Lib.hid hty
                  clear hty
                  go_quiet (fail)
                  go_wp2_with fail
                  go_quiet (fail)
                  go_wp2_with fail
                  go_ret2
                  rw [HTY.out]
                  exact ⟨rfl, bel⟩
                · cases bB
                  · have HTY := Lib.hid hty
                    clear hty
                    go_quiet (fail)
                    go_wp2_with fail
                    go_quiet (fail)
                    go_wp2_with fail
                    go_ret2
                    rw [HTY.out]
                    exact ⟨rfl, bel⟩
                  · have HTY := Lib.hid hty
                    clear hty
                    go_quiet (fail)
                    go_wp2_with fail
                    go_ret2
                    rw [HTY.out]
                    exact ⟨rfl, bel⟩
            · have h3 : ts.length = 2 := by rw [htl]; exact hnx.2.2 h14
              clear hnx
              match ts, h3 with
              | [a, b], _ =>
                obtain ⟨g', rfl, hg1, hg2, hgc⟩ := row_cell hown.out (k := 0) (t := a) rfl
                have hc0 := hgc 0 a rfl
                have hc1 := hgc 1 b rfl
                have hx3 : x.args.length = 2 := htl.symm
                rw [tyApp_cmp h14] at hty
                have h17' : (x.op == 17) = false := by simp; omega
                have h17'' : (x.op != 17) = true := by simp; omega
                clear hown hgc htl h14
                obtain ⟨bA, hA⟩ : ∃ bA, (a == b) = bA := ⟨_, rfl⟩
                rw [hA] at hty
                cases bA
                · have HTY := Lib.hid hty
                  clear hty
                  go_quiet (fail)
                  go_wp2_with fail
                  go_quiet (fail)
                  go_wp2_with fail
                  go_ret2
                  rw [HTY.out]
                  exact ⟨rfl, bel⟩
                · have HTY := Lib.hid hty
                  clear hty
                  go_quiet (fail)
                  go_wp2_with fail
                  go_quiet (fail)
                  go_wp2_with fail
                  go_ret2
                  rw [HTY.out]
                  exact ⟨rfl, bel⟩
end Go.Proofs.YtgmcojnhpedpnaaGreat
