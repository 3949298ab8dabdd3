/- page.Copy. -/
import Derived.Test.YtgmcojnhpedpnaaGreatCop
import Derived.Test.YtgmcojnhpedpnaaGreatPag1
import Derived.Deep.DeepCutAuto
namespace Go.Proofs.YtgmcojnhpedpnaaGreat
open Go.RowKit

theorem own_sls {α : Type} (enc : α → List Value) (wf : α → Prop) {size : Nat} (hsz : ∀ a, (enc a).length = size) {w : World} {base : Nat} {e : TypeId} {v : Value} {n : Nat} {l : List α}
    (h : w.ownsRow base e size v n (l.flatMap enc)) (hl : l.length = n) (hw : ∀ a ∈ l, wf a) :
    ∃ A c, v = .slice A n c ∧ n ≤ c ∧ Sl w (since base w) size (fun cs a => cs = enc a ∧ wf a) A n l := by
  obtain ⟨A, c, rfl, hc, hs⟩ := own_sl enc hsz h hl
  refine ⟨A, c, rfl, hc, hs.1, fun hn => ?_⟩
  obtain ⟨b, o, e, hS, hcc⟩ := hs.2 hn
  refine ⟨b, o, e, hS, fun i v hv => ?_⟩
  obtain ⟨cs, rfl, hl', h'⟩ := hcc i v hv
  exact ⟨_, ⟨rfl, hw v (List.mem_of_getElem? hv)⟩, hl', h'⟩
theorem Tryz.infoPag : (Tryz.prog.info? 70).map (fun i => (i.zero, i.size, i.bytes)) = some (some (.agg #[.string ⟨#[]⟩, .slice none 0 0, .int .i64 0, .int .i64 0, .int .i64 0, .string ⟨#[]⟩, .string ⟨#[]⟩, .slice none 0 0]), 8, 120) := by kernel_rfl
theorem Sl.wfStr {w : World} {S : Nat → Prop} {A : Option Addr} {n : Nat} {l : List ByteArray} (h : Sl w S 1 RStr A n l) : ∀ a ∈ l, inS a := Sl.all_wf h fun _ _ h => h.2
/-- The ending with a list of pages in new memory. -/
def RetPags (w : World) (l : List Pag) (e : Ending) (w' : World) : Prop :=
  ∃ A c, e = .returned (.slice A l.length c) ∧ l.length ≤ c ∧ Sl w' (since w.heap.size w') 8 (RPag w' (since w.heap.size w')) A l.length l ∧ Below w.heap.size w w'
set_option maxRecDepth 100000 in
set_option maxHeartbeats 2000000 in
theorem page_Copy (A : Option Addr) (n c : Nat) (l : List Pag) (w : World) (hn : inB 120 n) (h : Sl w (old w) 8 (RPag w (old w)) A n l) :
    Calls Tryz.prog 46 #[.slice A n c] w (RetPags w l) := by
  obtain ⟨j0, hj0, iz0, iz1, iz2⟩ := info_parts Tryz.infoPag
  have HH := Lib.hid h
  have HLN := Lib.hid h.len
  unfold inB at hn
  clear h
  go_enter Tryz.func46, Tryz.ntmps46
  go_wp2_with fail
  go_loopw [3, 8] (fun out i wr => ∃ (k : Nat) (A' : Option Addr) (c' : Nat), k ≤ n ∧ i = .int .i64 k ∧ out = .slice A' k c' ∧ Hid (Own wr w.heap.size 70 8 RPag (.slice A' k c') (l.take k)) ∧ Below w.heap.size w wr) (fun _ i _ => n - (intOf i).toNat)
  case atStart => exact ⟨0, none, 0, by omega, rfl, rfl, Lib.hid Own.nil, Below.refl _ _⟩
  case round =>
    obtain ⟨k, A', c', hk, rfl, rfl, hown, hbr⟩ := hrel
    have hzr := hbr.size
    by_cases hlt : k < n
    · obtain ⟨b, o, p, Y, D, X, C, hAe, hbl, hl, hrep, x0, x1, x2, x3, x4, x5, x6, x7⟩ := Pag_at (HH.out.nowN keeps_Pag hbr) hlt
      subst hAe
      have hbl' : b < wr.heap.size := hbl
      obtain ⟨r1, r2, r3, r4, r5⟩ := hrep.open_
      have hlk : (l.take k).length = k := by rw [List.length_take, HLN.out]; omega
      have HO := Lib.hid (And.intro hl (And.intro r1 (And.intro r2 (And.intro r4 (And.intro r5 hlk)))))
      clear hl hrep r1 r2 r3 r4 r5 hlk hbl
      go_wp2_with fail
      go_region_law (first
        | (go_simp; go_at_call 87; refine (clone_Str Y _ D p.fields _ HO.out.2.2.1 (HO.out.2.2.2.1.now bel)).mono ?_; rintro e w2 ⟨v2, rfl, ho2, hb2⟩; obtain ⟨A2, c2, rfl, hc2', hs2⟩ := own_sls strCs inS (fun _ => rfl) ho2 rfl HO.out.2.2.2.1.wfStr; have hw2 : Below wr.heap.size wr w2 := (by (refine below_step ?_ hb2 (by simp [heap_drew])); exact bel); obtain ⟨hc2, hf2⟩ := bcell hb2; (try simp only [World.heap_drewN, World.cell?_drewN, World.frozen?_drewN] at hc2 hf2); have hz2 := hb2.size; (try simp at hz2); (try (have hy2 := Nat.lt_of_succ_le hz2)); (try (have hx2 := Nat.lt_of_succ_lt hy2)))
        | (go_simp; go_at_call 86; refine (names_Copy _ p.skip X C _ (Nat.le_refl _) (HO.out.2.2.2.2.1.keep (old_keep bel))).mono ?_; rintro e w3 ⟨A3, c3, rfl, hx3, hb3⟩; obtain ⟨hc3, hf3⟩ := bcell hb3; (try simp only [World.heap_drewN, World.cell?_drewN, World.frozen?_drewN] at hc3 hf3); have hz3 := hb3.size; (try simp at hz3); (try (have hy3 := Nat.lt_of_succ_le hz3)); (try (have hx3 := Nat.lt_of_succ_lt hy3))))
      all_goals
        go_upto_region 6 with fail
        refine wp_world ?_; intro W4 hW4
        have f0 : W4.cell? ⟨wr.heap.size, 0, none⟩ = some (.string p.name) := by rw [hW4]; exact (by first | (go_simp; done) | (go_simp; exact World.cell?_setCell_same' _ _ _ (by go_simp)))
        have f1 : W4.cell? ⟨wr.heap.size, 1, none⟩ = some (.slice A2 p.fields.length c2) := by rw [hW4]; exact (by first | (go_simp; done) | (go_simp; exact World.cell?_setCell_same' _ _ _ (by go_simp)))
        have f2 : W4.cell? ⟨wr.heap.size, 2, none⟩ = some (.int .i64 p.skip.op) := by rw [hW4]; exact (by first | (go_simp; done) | (go_simp; exact World.cell?_setCell_same' _ _ _ (by go_simp)))
        have f3 : W4.cell? ⟨wr.heap.size, 3, none⟩ = some (.int .i64 p.skip.v.k) := by rw [hW4]; exact (by first | (go_simp; done) | (go_simp; exact World.cell?_setCell_same' _ _ _ (by go_simp)))
        have f4 : W4.cell? ⟨wr.heap.size, 4, none⟩ = some (.int .i64 p.skip.v.n) := by rw [hW4]; exact (by first | (go_simp; done) | (go_simp; exact World.cell?_setCell_same' _ _ _ (by go_simp)))
        have f5 : W4.cell? ⟨wr.heap.size, 5, none⟩ = some (.string p.skip.v.s) := by rw [hW4]; exact (by first | (go_simp; done) | (go_simp; exact World.cell?_setCell_same' _ _ _ (by go_simp)))
        have f6 : W4.cell? ⟨wr.heap.size, 6, none⟩ = some (.string p.skip.name) := by rw [hW4]; exact (by first | (go_simp; done) | (go_simp; exact World.cell?_setCell_same' _ _ _ (by go_simp)))
        have f7 : W4.cell? ⟨wr.heap.size, 7, none⟩ = some (.slice A3 p.skip.args.length c3) := by rw [hW4]; exact (by first | (go_simp; done) | (go_simp; exact World.cell?_setCell_same' _ _ _ (by go_simp)))
        have hz2 := hw2.size
        have hz3 := hb3.size
        have hw3 : Below wr.heap.size wr w3 := below_step hw2 hb3 hz2
        have hb4 : Below wr.heap.size wr W4 := by rw [hW4]; exact bel
        have hk4 : ∀ b, wr.heap.size < b → W4.heap[b]? = w3.heap[b]? := by
          intro b hb
          rw [hW4]
          iterate 7 rw [heap_setCell_other _ _ _ _ (by simp; omega)]
        have hz4 : w3.heap.size ≤ W4.heap.size := by rw [hW4]; simp
        clear hW4
        have hRP : RPag W4 (beside w.heap.size (.slice A' k c') W4) [.string p.name, .slice A2 p.fields.length c2, .int .i64 p.skip.op, .int .i64 p.skip.v.k, .int .i64 p.skip.v.n, .string p.skip.v.s, .string p.skip.name, .slice A3 p.skip.args.length c3] p := by
          have hbs : ∀ b, wr.heap.size < b → b < w3.heap.size → beside w.heap.size (.slice A' k c') W4 b := fun b h1 h2 => ⟨by omega, by omega, fun e => by have := (hown.out.lt b e.symm).2; omega⟩
          refine ⟨HO.out.2.1, A2, _, c2, _, rfl, HO.out.2.2.1, hc2', ?_, ?_⟩
          · refine (hs2.keep (w' := W4) (R' := RStr) (fun b hb => ?_) (fun _ _ h => h)).mono (fun b hb => ?_)
            · have h1 := hb.1
              simp [heap_drew] at h1
              rw [hk4 b (by omega)]
              exact hb3.block b hb.2
            · have h1 := hb.1
              simp [heap_drew] at h1
              exact hbs b (by omega) (Nat.lt_of_lt_of_le hb.2 hz3)
          · refine hx3.keep (fun b hb => ?_)
            have h1 := hb.1
            exact ⟨hbs b (by omega) hb.2, hk4 b (by omega)⟩
        have HK := Lib.hid HO.out.2.2.2.2.2
        go_wp2_with (at_builtin; refine wpList_append_Own keeps_Pag rfl (.tmp 20) (.tmp 22) 38 rfl w.heap.size 70 j0 _ 8 120 Tryz.underlying38 hj0 iz0 iz1 iz2 rfl (by decide) (.slice A' k c') (l.take k) rfl (hown.out.keep keeps_Pag hb4) [.string p.name, .slice A2 p.fields.length c2, .int .i64 p.skip.op, .int .i64 p.skip.v.k, .int .i64 p.skip.v.n, .string p.skip.v.s, .string p.skip.name, .slice A3 p.skip.args.length c3] 70 rfl _ rfl rfl rfl (by simp [Value.oneCell']) (by rw [HK.out]; omega) (by rw [HK.out]; unfold maxLen; omega) (by omega) p hRP ?_; intro g' cap w5 hown5 hb5 hz5 _ _; rw [HK.out] at hown5 ⊢)
        go_roundw
        case rel =>
          refine ⟨k + 1, some ⟨g', 0, none⟩, cap, by omega, by go_num, rfl, Lib.hid ?_, below_step (below_step hbr hb4 hzr) hb5 (by omega)⟩
          have etk : l.take k ++ [p] = l.take (k + 1) := by rw [List.take_add_one, HO.out.1]; rfl
          rw [← etk]
          exact hown5
        case measure => simp [intOf]; omega
    · have hkn : k = n := by omega
      subst hkn
      have etk : l.take k = l := List.take_of_length_le (by rw [HLN.out]; exact Nat.le_refl _)
      rw [etk] at hown
      obtain ⟨A9, c9, e9, hc9, hs9⟩ := hown.out.sl keeps_Pag
      rw [HLN.out] at e9
      cases e9
      have HS := Lib.hid (And.intro hs9 hc9)
      clear hs9 hc9
      go_wp2_with fail
      go_ret
      refine ⟨A', c', ?_, HS.out.2, HS.out.1, hbr⟩
      rw [HLN.out]
      rfl
end Go.Proofs.YtgmcojnhpedpnaaGreat
