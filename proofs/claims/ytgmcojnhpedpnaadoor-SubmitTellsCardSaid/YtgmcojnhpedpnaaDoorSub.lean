/- submit.Text and the reference RecordText: a record, line by line. (printed by mksub.py) -/
import Derived.Test.YtgmcojnhpedpnaaDoorShow
import Derived.Test.YtgmcojnhpedpnaaDoorStrs
import Derived.Test.YtgmcojnhpedpnaaDoorSame1
namespace Go.Proofs.YtgmcojnhpedpnaaDoor
open Go.RowKit

def factErr (l : List Fct) (k : Nat) : Int := match l[k]? with | some x => valCheck x.has | none => 0
def textErr (l : List Fct) : Int := firstErr (factErr l) l.length
def lineTx (x : Fct) : ByteArray := x.name ++ ⟨#[58, 32]⟩ ++ showV x.has
def textR (l : List Fct) : List ByteArray × Int := if textErr l = 0 then (l.map lineTx, 0) else ([], textErr l)
theorem showV_len {v : Val} (h : v.wf) : (showV v).size ≤ 82 := by
  unfold showV
  split
  · rename_i hc
    have hk := valCheck_kind hc
    have hin := itoa_in h
    have hil := Lib.itoa_length_le v.n hin.1 hin.2
    have h5 : v.k = 3 → v.s.size ≤ 40 := fun h3 => by
      have h := hc
      unfold valCheck at h
      rw [h3] at h
      simp only [show ¬ ((3 : Int) = 1) by decide, show ¬ ((3 : Int) = 2) by decide, if_false, if_true] at h
      split at h
      · unfold textCheck at h
        split at h
        · cases h
        · omega
      · cases h
    have he := escL_len v.s.data.toList
    have hd : v.s.data.toList.length = v.s.size := by simp
    have hlen : (showL v).length ≤ 82 := by
      unfold showL
      split
      · omega
      split
      · unfold Lib.formatBool; split <;> decide
      split
      · have := h5 (by assumption)
        simp; omega
      split
      · decide
      · simp; omega
    show (showL v).toArray.size ≤ 82
    simpa using hlen
  · decide

set_option maxRecDepth 100000 in
set_option maxHeartbeats 2000000 in
theorem submit_Text (A : Option Addr) (n c : Nat) (l : List Fct) (w : World) (hn : inB 80 n) (h : Sl w (old w) 7 RFct A n l) (hg : Gd w) :
    Calls Tryd.prog 10 #[.slice A n c] w (OwnRowC strCs 9 1 w (textR l).1 (textR l).2) := by
  have hlen := h.len
  obtain ⟨i0, hi, hz0, hz1, hz2⟩ := info_parts Tryd.infoStr'
  have HH := Lib.hid (And.intro h hg)
  obtain ⟨R, hR⟩ : ∃ R, R = textR l := ⟨_, rfl⟩
  rw [← hR]
  have HR := Lib.hid hR
  unfold inB at hn
  clear h hg hR
  go_enter Tryd.func10, Tryd.ntmps10
  go_wp2_with fail
  go_loopw [4, 11] (fun v i wr => ∃ k : Nat, k ≤ n ∧ i = .int .i64 k ∧ wr.ownsRow w.heap.size 9 1 v k (((l.take k).map lineTx).flatMap strCs) ∧ firstErr (factErr l) k = 0 ∧ Below w.heap.size w wr) (fun _ i _ => n - (intOf i).toNat)
  case atStart => exact ⟨0, by omega, rfl, by simpa using World.ownsRow_nil _ _ _ _, rfl, Below.refl _ _⟩
  case round =>
    obtain ⟨k, hk, rfl, hown, hfe, hb⟩ := hrel
    by_cases hlt : k < n
    · obtain ⟨b, o, x, hAe, hbl, hl, hwf, x0, x1, x2, x3, x4, x5, x6⟩ := Fct_at (HH.out.1.now hb) hlt
      subst hAe
      have hbl' : b < wr.heap.size := hbl
      have hge : factErr l k = valCheck x.has := by rw [factErr, hl]
      have hsl := showV_len hwf.2.2
      have hnm : x.name.size ≤ 140737488351232 := hwf.1
      have hcl := fun w h => value_Show x.has w hwf.2.2 h
      have htk : (l.take (k + 1)).map lineTx = (l.take k).map lineTx ++ [lineTx x] := by rw [List.take_add_one, hl]; simp
      have hlx : lineTx x = x.name ++ ⟨#[58, 32]⟩ ++ showV x.has := rfl
      have HL := Lib.hid (And.intro hl (And.intro hwf (And.intro hown (And.intro hfe (And.intro hb (And.intro hge (And.intro htk hlx)))))))
      obtain ⟨st, hst⟩ : ∃ st, st = showV x.has := ⟨_, rfl⟩
      have HST := Lib.hid hst
      rw [← hst] at hsl
      simp only [← hst] at hcl
      have hcat : (x.name ++ ⟨#[58, 32]⟩ : ByteArray).size = x.name.size + 2 := by rw [ByteArray.size_append]; rfl
      clear hst hl hwf hown hfe hge htk hbl hlx
      by_cases he : valCheck x.has = 0
      · rw [he] at hcl
        have HE := Lib.hid he
        clear he
        go_wp2_with (first
          | (go_at_call 8; refine (hcl _ (HH.out.2.keep bel)).mono ?_; rintro e w2 ⟨rfl, hb2⟩; have hB2 : Below wr.heap.size wr w2 := ((Below.refl wr.heap.size wr).alloc (Nat.le_refl _) _).trans (hb2.mono (by simp)); have q0 : w2.cell? ⟨wr.heap.size, 0, none⟩ = some (.string x.name) := (hb2.cell (p := ⟨wr.heap.size, 0, none⟩) (by simp)).trans (by go_simp); have hs2 : wr.heap.size < w2.heap.size := (by have := hb2.size; simp at this; omega))
          | (at_builtin; refine wpList_append1 rfl _ _ 29 rfl w.heap.size 9 i0 (.string ⟨#[]⟩) 1 16 Tryd.underlying29 hi hz0 hz1 hz2 rfl (by decide) _ k _ rfl (ownsRow_keep HL.out.2.2.1 hB2) [.string (x.name ++ ⟨#[58, 32]⟩ ++ st)] 9 rfl w2.heap.size rfl (by simp) rfl (by intro u hu; simp at hu; subst hu; rfl) (by omega) (by unfold maxLen; omega) (by have h1 := HL.out.2.2.2.2.1.size; have h2 := hB2.size; omega) ?_; intro v3 w3 hown3 hb3 hq3 _))
        have HO := Lib.hid (And.intro hown3 (And.intro hb3 hB2))
        clear hown3 hb3 hB2
        go_roundw
        case rel =>
          refine ⟨k + 1, by omega, by go_num, ?_, firstErr_next HL.out.2.2.2.1 (by rw [HL.out.2.2.2.2.2.1, HE.out]), ?_⟩
          · rw [HL.out.2.2.2.2.2.2.1, List.flatMap_append, HL.out.2.2.2.2.2.2.2, ← HST.out]
            exact HO.out.1
          · exact (below_chain HL.out.2.2.2.2.1 HO.out.2.2).trans HO.out.2.1
        case measure => simp [intOf]; omega
      · have hne : (valCheck x.has != 0) = true := by simpa using he
        have hte : textErr l = valCheck x.has := by
          unfold textErr
          rw [← HL.out.2.2.2.2.2.1]
          exact firstErr_hit HL.out.2.2.2.1 (by rw [HL.out.2.2.2.2.2.1]; exact he) _ (by omega)
        have hr2 : R = ([], valCheck x.has) := by rw [HR.out, textR, if_neg (by rw [hte]; exact he), hte]
        have HR2 := Lib.hid hr2
        generalize valCheck x.has = er at hcl hne HR2
        clear he hte hr2
        go_wp2_with (go_at_call 8; refine (hcl _ (HH.out.2.keep bel)).mono ?_; rintro e w2 ⟨rfl, hb2⟩; have hB2 : Below wr.heap.size wr w2 := ((Below.refl wr.heap.size wr).alloc (Nat.le_refl _) _).trans (hb2.mono (by simp)))
        go_ret2
        rw [HR2.out]
        exact NilC.own _ _ _ ⟨rfl, below_chain hb hB2⟩
    · have hke : k = n := by omega
      subst hke
      have etk : l.take k = l := List.take_of_length_le (by omega)
      rw [etk] at hown
      have hr2 : R = (l.map lineTx, 0) := by rw [HR.out, textR, if_pos (by unfold textErr; rw [hlen]; exact hfe)]
      have HO := Lib.hid (And.intro hown hr2)
      clear hown etk hfe hr2
      go_wp2_with fail
      go_ret2
      rw [HO.out.2]
      exact ⟨_, rfl, by simpa [hlen] using HO.out.1, hb⟩

set_option maxRecDepth 100000 in
set_option maxHeartbeats 2000000 in
theorem ref_RecordText (A : Option Addr) (n c : Nat) (l : List Fct) (w : World) (hn : inB 80 n) (h : Sl w (old w) 7 RFct A n l) (hg : Gd w) :
    Calls Tryd.prog 11 #[.slice A n c] w (OwnRowC strCs 9 1 w (textR l).1 (textR l).2) := by
  have hlen := h.len
  obtain ⟨i0, hi, hz0, hz1, hz2⟩ := info_parts Tryd.infoStr'
  have HH := Lib.hid (And.intro h hg)
  obtain ⟨R, hR⟩ : ∃ R, R = textR l := ⟨_, rfl⟩
  rw [← hR]
  have HR := Lib.hid hR
  unfold inB at hn
  clear h hg hR
  go_enter Tryd.func11, Tryd.ntmps11
  go_wp2_with fail
  go_loopw [4, 11] (fun v i wr => ∃ k : Nat, k ≤ n ∧ i = .int .i64 k ∧ wr.ownsRow w.heap.size 9 1 v k (((l.take k).map lineTx).flatMap strCs) ∧ firstErr (factErr l) k = 0 ∧ Below w.heap.size w wr) (fun _ i _ => n - (intOf i).toNat)
  case atStart => exact ⟨0, by omega, rfl, by simpa using World.ownsRow_nil _ _ _ _, rfl, Below.refl _ _⟩
  case round =>
    obtain ⟨k, hk, rfl, hown, hfe, hb⟩ := hrel
    by_cases hlt : k < n
    · obtain ⟨b, o, x, hAe, hbl, hl, hwf, x0, x1, x2, x3, x4, x5, x6⟩ := Fct_at (HH.out.1.now hb) hlt
      subst hAe
      have hbl' : b < wr.heap.size := hbl
      have hge : factErr l k = valCheck x.has := by rw [factErr, hl]
      have hsl := showV_len hwf.2.2
      have hnm : x.name.size ≤ 140737488351232 := hwf.1
      have hcl := fun w h => ref_ValueText x.has w hwf.2.2 h
      have htk : (l.take (k + 1)).map lineTx = (l.take k).map lineTx ++ [lineTx x] := by rw [List.take_add_one, hl]; simp
      have hlx : lineTx x = x.name ++ ⟨#[58, 32]⟩ ++ showV x.has := rfl
      have HL := Lib.hid (And.intro hl (And.intro hwf (And.intro hown (And.intro hfe (And.intro hb (And.intro hge (And.intro htk hlx)))))))
      obtain ⟨st, hst⟩ : ∃ st, st = showV x.has := ⟨_, rfl⟩
      have HST := Lib.hid hst
      rw [← hst] at hsl
      simp only [← hst] at hcl
      have hcat : (x.name ++ ⟨#[58, 32]⟩ : ByteArray).size = x.name.size + 2 := by rw [ByteArray.size_append]; rfl
      clear hst hl hwf hown hfe hge htk hbl hlx
      by_cases he : valCheck x.has = 0
      · rw [he] at hcl
        have HE := Lib.hid he
        clear he
        go_wp2_with (first
          | (go_at_call 9; refine (hcl _ (HH.out.2.keep bel)).mono ?_; rintro e w2 ⟨rfl, hb2⟩; have hB2 : Below wr.heap.size wr w2 := ((Below.refl wr.heap.size wr).alloc (Nat.le_refl _) _).trans (hb2.mono (by simp)); have q0 : w2.cell? ⟨wr.heap.size, 0, none⟩ = some (.string x.name) := (hb2.cell (p := ⟨wr.heap.size, 0, none⟩) (by simp)).trans (by go_simp); have hs2 : wr.heap.size < w2.heap.size := (by have := hb2.size; simp at this; omega))
          | (at_builtin; refine wpList_append1 rfl _ _ 29 rfl w.heap.size 9 i0 (.string ⟨#[]⟩) 1 16 Tryd.underlying29 hi hz0 hz1 hz2 rfl (by decide) _ k _ rfl (ownsRow_keep HL.out.2.2.1 hB2) [.string (x.name ++ ⟨#[58, 32]⟩ ++ st)] 9 rfl w2.heap.size rfl (by simp) rfl (by intro u hu; simp at hu; subst hu; rfl) (by omega) (by unfold maxLen; omega) (by have h1 := HL.out.2.2.2.2.1.size; have h2 := hB2.size; omega) ?_; intro v3 w3 hown3 hb3 hq3 _))
        have HO := Lib.hid (And.intro hown3 (And.intro hb3 hB2))
        clear hown3 hb3 hB2
        go_roundw
        case rel =>
          refine ⟨k + 1, by omega, by go_num, ?_, firstErr_next HL.out.2.2.2.1 (by rw [HL.out.2.2.2.2.2.1, HE.out]), ?_⟩
          · rw [HL.out.2.2.2.2.2.2.1, List.flatMap_append, HL.out.2.2.2.2.2.2.2, ← HST.out]
            exact HO.out.1
          · exact (below_chain HL.out.2.2.2.2.1 HO.out.2.2).trans HO.out.2.1
        case measure => simp [intOf]; omega
      · have hne : (valCheck x.has != 0) = true := by simpa using he
        have hte : textErr l = valCheck x.has := by
          unfold textErr
          rw [← HL.out.2.2.2.2.2.1]
          exact firstErr_hit HL.out.2.2.2.1 (by rw [HL.out.2.2.2.2.2.1]; exact he) _ (by omega)
        have hr2 : R = ([], valCheck x.has) := by rw [HR.out, textR, if_neg (by rw [hte]; exact he), hte]
        have HR2 := Lib.hid hr2
        generalize valCheck x.has = er at hcl hne HR2
        clear he hte hr2
        go_wp2_with (go_at_call 9; refine (hcl _ (HH.out.2.keep bel)).mono ?_; rintro e w2 ⟨rfl, hb2⟩; have hB2 : Below wr.heap.size wr w2 := ((Below.refl wr.heap.size wr).alloc (Nat.le_refl _) _).trans (hb2.mono (by simp)))
        go_ret2
        rw [HR2.out]
        exact NilC.own _ _ _ ⟨rfl, below_chain hb hB2⟩
    · have hke : k = n := by omega
      subst hke
      have etk : l.take k = l := List.take_of_length_le (by omega)
      rw [etk] at hown
      have hr2 : R = (l.map lineTx, 0) := by rw [HR.out, textR, if_pos (by unfold textErr; rw [hlen]; exact hfe)]
      have HO := Lib.hid (And.intro hown hr2)
      clear hown etk hfe hr2
      go_wp2_with fail
      go_ret2
      rw [HO.out.2]
      exact ⟨_, rfl, by simpa [hlen] using HO.out.1, hb⟩
end Go.Proofs.YtgmcojnhpedpnaaDoor
