/- Copies of fields: field.Copy and the reference FieldsCopy. -/
import Derived.Test.YtgmcojnhpedpnaaGreatCopr
import Derived.Test.YtgmcojnhpedpnaaGreatKee
import Derived.Deep.DeepCutAuto
namespace Go.Proofs.YtgmcojnhpedpnaaGreat
open Go.RowKit

theorem Tryz.infoFld : (Tryz.prog.info? 62).map (fun i => (i.zero, i.size, i.bytes)) = some (some (.agg #[.string ⟨#[]⟩, .int .i64 0, .int .i64 0, .int .i64 0, .int .i64 0, .int .i64 0, .string ⟨#[]⟩, .string ⟨#[]⟩, .slice none 0 0]), 9, 112) := by kernel_rfl
/-- The ending with a list of fields in new memory. -/
def RetFlds (w : World) (l : List Fld) (e : Ending) (w' : World) : Prop :=
  ∃ A c, e = .returned (.slice A l.length c) ∧ l.length ≤ c ∧ Sl w' (since w.heap.size w') 9 (RFld w' (since w.heap.size w')) A l.length l ∧ Below w.heap.size w w'
theorem RFld.open_ {w : World} {S : Nat → Prop} {f : Fld} {X : Option Addr} {C : Nat}
    (h : RFld w S [.string f.name, .int .i64 f.kind, .int .i64 f.type, .int .i64 f.source.op, .int .i64 f.source.v.k, .int .i64 f.source.v.n, .string f.source.v.s, .string f.source.name, .slice X f.source.args.length C] f) :
    inS f.name ∧ inI f.kind ∧ inI f.type ∧ XRep w S [.int .i64 f.source.op, .int .i64 f.source.v.k, .int .i64 f.source.v.n, .string f.source.v.s, .string f.source.name, .slice X f.source.args.length C] f.source := by
  obtain ⟨h1, h2, h3, xs, e, hx⟩ := h
  simp only [List.cons.injEq, true_and] at e
  rw [← e] at hx
  exact ⟨h1, h2, h3, hx⟩
set_option maxRecDepth 100000 in
set_option maxHeartbeats 2000000 in
theorem ref_FieldsCopy (A : Option Addr) (n c : Nat) (l : List Fld) (w : World) (hn : inB 112 n) (h : Sl w (old w) 9 (RFld w (old w)) A n l) :
    Calls Tryz.prog 47 #[.slice A n c] w (RetFlds w l) := by
  obtain ⟨j0, hj0, iz0, iz1, iz2⟩ := info_parts Tryz.infoFld
  have HH := Lib.hid h
  have HLN := Lib.hid h.len
  unfold inB at hn
  clear h
  go_enter Tryz.func47, Tryz.ntmps47
  go_wp2_with fail
  go_loopw [3, 8] (fun out i wr => ∃ (k : Nat) (A' : Option Addr) (c' : Nat), k ≤ n ∧ i = .int .i64 k ∧ out = .slice A' k c' ∧ Hid (Own wr w.heap.size 62 9 RFld (.slice A' k c') (l.take k)) ∧ Below w.heap.size w wr) (fun _ i _ => n - (intOf i).toNat)
  case atStart => exact ⟨0, none, 0, by omega, rfl, rfl, Lib.hid Own.nil, Below.refl _ _⟩
  case round =>
    obtain ⟨k, A', c', hk, rfl, rfl, hown, hbr⟩ := hrel
    have hzr := hbr.size
    by_cases hlt : k < n
    · obtain ⟨b, o, p, X, C, hAe, hbl, hl, hrep, x0, x1, x2, x3, x4, x5, x6, x7, x8⟩ := Fld_at (HH.out.nowN keeps_Fld hbr) hlt
      subst hAe
      have hbl' : b < wr.heap.size := hbl
      obtain ⟨r1, r2, r3, r4⟩ := hrep.open_
      have hlk : (l.take k).length = k := by rw [List.length_take, HLN.out]; omega
      have HO := Lib.hid (And.intro hl (And.intro r1 (And.intro r2 (And.intro r3 (And.intro r4 hlk)))))
      clear hl hrep r1 r2 r3 r4 hlk hbl
      go_wp2_with fail
      go_region_held3 (fun w' => w'.cell? ⟨wr.heap.size, 0, none⟩ = some (.string p.name) ∧ w'.cell? ⟨wr.heap.size, 1, none⟩ = some (.int .i64 p.kind) ∧ w'.cell? ⟨wr.heap.size, 2, none⟩ = some (.int .i64 p.type) ∧ w'.cell? ⟨wr.heap.size, 3, none⟩ = some (.int .i64 p.source.op) ∧ w'.cell? ⟨wr.heap.size, 4, none⟩ = some (.int .i64 p.source.v.k) ∧ w'.cell? ⟨wr.heap.size, 5, none⟩ = some (.int .i64 p.source.v.n) ∧ w'.cell? ⟨wr.heap.size, 6, none⟩ = some (.string p.source.v.s) ∧ w'.cell? ⟨wr.heap.size, 7, none⟩ = some (.string p.source.name) ∧ w'.cell? ⟨wr.heap.size, 8, none⟩ = some (.slice X p.source.args.length C))
        (first | go_keep | exact rows9c (by assumption) (by assumption) | exact rows9a (by assumption) hke hlt3)
        (first
          | (go_at_call 48; refine (ref_ExprCopy _ p.source X C _ (Nat.le_refl _) (HO.out.2.2.2.2.1.keep (old_keep bel))).mono ?_; rintro e w3 ⟨A3, c3, rfl, hx3, hb3⟩; have hw3 : Below wr.heap.size wr w3 := (by (refine below_step ?_ hb3 (by simp [heap_drew])); exact bel); have hlt3 : wr.heap.size < w3.heap.size := (by have := hb3.size; simp [heap_drew] at this; omega))
          | (refine step_append_Own keeps_Fld rfl (.tmp 12) (.tmp 23) 37 rfl w.heap.size 62 j0 _ 9 112 Tryz.underlying37 hj0 iz0 iz1 iz2 rfl (by decide) (.slice A' k c') (l.take k) rfl (hown.out.keep keeps_Fld hw3) [.string p.name, .int .i64 p.kind, .int .i64 p.type, .int .i64 p.source.op, .int .i64 p.source.v.k, .int .i64 p.source.v.n, .string p.source.v.s, .string p.source.name, .slice A3 p.source.args.length c3] 62 rfl _ rfl rfl rfl (by simp [Value.oneCell']) (by rw [HO.out.2.2.2.2.2]; omega) (by rw [HO.out.2.2.2.2.2]; unfold maxLen; omega) (by omega) p ⟨HO.out.2.1, HO.out.2.2.1, HO.out.2.2.2.1, _, rfl, hx3.keep (fun b hb => ⟨⟨by have := hb.1; simp [heap_drew] at this; omega, hb.2, fun e => by have h1 := (hown.out.lt b e.symm).2; have h2 := hb.1; simp [heap_drew] at h2; omega⟩, rfl⟩)⟩ ?_; intro g' cap w5 hown5 hb5 hz5 hk5 _; rw [HO.out.2.2.2.2.2] at hown5 ⊢; have hke := hk5 wr.heap.size hlt3 (fun e => by have := (hown.out.lt _ e.symm).2; omega)))
      all_goals
        go_wp2_with fail
        go_roundw
        case rel =>
          refine ⟨k + 1, some ⟨g', 0, none⟩, cap, by omega, by go_num, rfl, Lib.hid ?_, below_step (below_step hbr hw3 hzr) hb5 (by omega)⟩
          have etk : l.take k ++ [p] = l.take (k + 1) := by rw [List.take_add_one, HO.out.1]; rfl
          rw [← etk]
          exact hown5
        case measure => simp [intOf]; omega
    · have hkn : k = n := by omega
      subst hkn
      have etk : l.take k = l := List.take_of_length_le (by rw [HLN.out]; exact Nat.le_refl _)
      rw [etk] at hown
      obtain ⟨A9, c9, e9, hc9, hs9⟩ := hown.out.sl keeps_Fld
      rw [HLN.out] at e9
      cases e9
      have HS := Lib.hid (And.intro hs9 hc9)
      clear hs9 hc9
      go_wp2_with fail
      go_ret
      refine ⟨A', c', ?_, HS.out.2, HS.out.1, hbr⟩
      rw [HLN.out]
      rfl
set_option maxRecDepth 100000 in
set_option maxHeartbeats 2000000 in
theorem field_Copy (A : Option Addr) (n c : Nat) (l : List Fld) (w : World) (hn : inB 112 n) (h : Sl w (old w) 9 (RFld w (old w)) A n l) :
    Calls Tryz.prog 45 #[.slice A n c] w (RetFlds w l) := by
  obtain ⟨j0, hj0, iz0, iz1, iz2⟩ := info_parts Tryz.infoFld
  have HH := Lib.hid h
  have HLN := Lib.hid h.len
  unfold inB at hn
  clear h
  go_enter Tryz.func45, Tryz.ntmps45
  go_wp2_with fail
  go_loopw [3, 8] (fun out i wr => ∃ (k : Nat) (A' : Option Addr) (c' : Nat), k ≤ n ∧ i = .int .i64 k ∧ out = .slice A' k c' ∧ Hid (Own wr w.heap.size 62 9 RFld (.slice A' k c') (l.take k)) ∧ Below w.heap.size w wr) (fun _ i _ => n - (intOf i).toNat)
  case atStart => exact ⟨0, none, 0, by omega, rfl, rfl, Lib.hid Own.nil, Below.refl _ _⟩
  case round =>
    obtain ⟨k, A', c', hk, rfl, rfl, hown, hbr⟩ := hrel
    have hzr := hbr.size
    by_cases hlt : k < n
    · obtain ⟨b, o, p, X, C, hAe, hbl, hl, hrep, x0, x1, x2, x3, x4, x5, x6, x7, x8⟩ := Fld_at (HH.out.nowN keeps_Fld hbr) hlt
      subst hAe
      have hbl' : b < wr.heap.size := hbl
      obtain ⟨r1, r2, r3, r4⟩ := hrep.open_
      have hlk : (l.take k).length = k := by rw [List.length_take, HLN.out]; omega
      have HO := Lib.hid (And.intro hl (And.intro r1 (And.intro r2 (And.intro r3 (And.intro r4 hlk)))))
      clear hl hrep r1 r2 r3 r4 hlk hbl
      go_wp2_with fail
      refine (names_Copy _ p.source X C _ (Nat.le_refl _) (HO.out.2.2.2.2.1.keep (old_keep bel))).mono ?_; rintro e w3 ⟨A3, c3, rfl, hx3, hb3⟩; obtain ⟨hc3, hf3⟩ := bcell hb3; (try simp only [World.heap_drewN, World.cell?_drewN, World.frozen?_drewN] at hc3 hf3); have hz3 := hb3.size; (try simp at hz3); (try (have hy3 := Nat.lt_of_succ_le hz3)); (try (have hx3 := Nat.lt_of_succ_lt hy3))
      go_upto_region 6 with fail
      refine wp_world ?_; intro W4 hW4
      have f0 : W4.cell? ⟨wr.heap.size, 0, none⟩ = some (.string p.name) := by rw [hW4]; exact (by first | (go_simp; done) | (go_simp; exact World.cell?_setCell_same' _ _ _ (by go_simp)))
      have f1 : W4.cell? ⟨wr.heap.size, 1, none⟩ = some (.int .i64 p.kind) := by rw [hW4]; exact (by first | (go_simp; done) | (go_simp; exact World.cell?_setCell_same' _ _ _ (by go_simp)))
      have f2 : W4.cell? ⟨wr.heap.size, 2, none⟩ = some (.int .i64 p.type) := by rw [hW4]; exact (by first | (go_simp; done) | (go_simp; exact World.cell?_setCell_same' _ _ _ (by go_simp)))
      have f3 : W4.cell? ⟨wr.heap.size, 3, none⟩ = some (.int .i64 p.source.op) := by rw [hW4]; exact (by first | (go_simp; done) | (go_simp; exact World.cell?_setCell_same' _ _ _ (by go_simp)))
      have f4 : W4.cell? ⟨wr.heap.size, 4, none⟩ = some (.int .i64 p.source.v.k) := by rw [hW4]; exact (by first | (go_simp; done) | (go_simp; exact World.cell?_setCell_same' _ _ _ (by go_simp)))
      have f5 : W4.cell? ⟨wr.heap.size, 5, none⟩ = some (.int .i64 p.source.v.n) := by rw [hW4]; exact (by first | (go_simp; done) | (go_simp; exact World.cell?_setCell_same' _ _ _ (by go_simp)))
      have f6 : W4.cell? ⟨wr.heap.size, 6, none⟩ = some (.string p.source.v.s) := by rw [hW4]; exact (by first | (go_simp; done) | (go_simp; exact World.cell?_setCell_same' _ _ _ (by go_simp)))
      have f7 : W4.cell? ⟨wr.heap.size, 7, none⟩ = some (.string p.source.name) := by rw [hW4]; exact (by first | (go_simp; done) | (go_simp; exact World.cell?_setCell_same' _ _ _ (by go_simp)))
      have f8 : W4.cell? ⟨wr.heap.size, 8, none⟩ = some (.slice A3 p.source.args.length c3) := by rw [hW4]; exact (by first | (go_simp; done) | (go_simp; exact World.cell?_setCell_same' _ _ _ (by go_simp)))
      have hw3 : Below wr.heap.size wr w3 := by (refine below_step ?_ hb3 (by simp)); exact bel
      have hz3 := hw3.size
      have hb4 : Below wr.heap.size wr W4 := by rw [hW4]; exact bel
      have hk4 : ∀ b, wr.heap.size < b → W4.heap[b]? = w3.heap[b]? := by
        intro b hb
        rw [hW4]
        iterate 6 rw [heap_setCell_other _ _ _ _ (by simp; omega)]
      have hz4 : w3.heap.size ≤ W4.heap.size := by rw [hW4]; simp
      clear hW4
      have hRF : RFld W4 (beside w.heap.size (.slice A' k c') W4) [.string p.name, .int .i64 p.kind, .int .i64 p.type, .int .i64 p.source.op, .int .i64 p.source.v.k, .int .i64 p.source.v.n, .string p.source.v.s, .string p.source.name, .slice A3 p.source.args.length c3] p := by
        refine ⟨HO.out.2.1, HO.out.2.2.1, HO.out.2.2.2.1, _, rfl, hx3.keep (fun b hb => ?_)⟩
        have h1 := hb.1
        simp at h1
        exact ⟨⟨by omega, Nat.lt_of_lt_of_le hb.2 hz4, fun e => by have := (hown.out.lt b e.symm).2; omega⟩, hk4 b (by omega)⟩
      have HK := Lib.hid HO.out.2.2.2.2.2
      go_wp2_with (at_builtin; refine wpList_append_Own keeps_Fld rfl (.tmp 16) (.tmp 18) 37 rfl w.heap.size 62 j0 _ 9 112 Tryz.underlying37 hj0 iz0 iz1 iz2 rfl (by decide) (.slice A' k c') (l.take k) rfl (hown.out.keep keeps_Fld hb4) [.string p.name, .int .i64 p.kind, .int .i64 p.type, .int .i64 p.source.op, .int .i64 p.source.v.k, .int .i64 p.source.v.n, .string p.source.v.s, .string p.source.name, .slice A3 p.source.args.length c3] 62 rfl _ rfl rfl rfl (by simp [Value.oneCell']) (by rw [HK.out]; omega) (by rw [HK.out]; unfold maxLen; omega) (by omega) p hRF ?_; intro g' cap w5 hown5 hb5 hz5 _ _; rw [HK.out] at hown5 ⊢)
      go_roundw
      case rel =>
        refine ⟨k + 1, some ⟨g', 0, none⟩, cap, by omega, by go_num, rfl, Lib.hid ?_, below_step (below_step hbr hb4 hzr) hb5 (by omega)⟩
        have etk : l.take k ++ [p] = l.take (k + 1) := by rw [List.take_add_one, HO.out.1]; rfl
        rw [← etk]
        exact hown5
      case measure => simp [intOf]; omega
    · have hkn : k = n := by omega
      subst hkn
      have etk : l.take k = l := List.take_of_length_le (by rw [HLN.out]; exact Nat.le_refl _)
      rw [etk] at hown
      obtain ⟨A9, c9, e9, hc9, hs9⟩ := hown.out.sl keeps_Fld
      rw [HLN.out] at e9
      cases e9
      have HS := Lib.hid (And.intro hs9 hc9)
      clear hs9 hc9
      go_wp2_with fail
      go_ret
      refine ⟨A', c', ?_, HS.out.2, HS.out.1, hbr⟩
      rw [HLN.out]
      rfl
end Go.Proofs.YtgmcojnhpedpnaaGreat
