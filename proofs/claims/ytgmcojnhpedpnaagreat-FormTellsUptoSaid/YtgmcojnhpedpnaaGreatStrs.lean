/- Slices of texts: slices.Index, Contains and Clone at []string; the reference holds. -/
import Derived.Test.YtgmcojnhpedpnaaGreatRow
import Derived.Test.YtgmcojnhpedpnaaGreatIdx
namespace Go.Proofs.YtgmcojnhpedpnaaGreat
open Go.RowKit

def isStr (s t : ByteArray) : Bool := s.toList == t.toList
theorem isStr_comm {s t : ByteArray} {b : Bool} (h : isStr s t = b) : (t.toList == s.toList) = b := by rw [← h, isStr, Bool.eq_iff_iff, beq_iff_eq, beq_iff_eq]; exact ⟨Eq.symm, Eq.symm⟩
abbrev strCs (s : ByteArray) : List Value := [.string s]
theorem Tryz.infoStr' : (Tryz.prog.info? 9).map (fun i => (i.zero, i.size, i.bytes)) = some (some (.string ⟨#[]⟩), 1, 16) := by kernel_rfl
theorem oneStr (l : List ByteArray) : ∀ u ∈ l.flatMap strCs, u.oneCell' = true := by
  intro u hu
  obtain ⟨x, _, hx⟩ := List.mem_flatMap.1 hu
  simp only [strCs, List.mem_cons, List.not_mem_nil, or_false] at hx
  rw [hx]; rfl
theorem Sl.cellsStr {w : World} {S : Nat → Prop} {A : Option Addr} {n : Nat} {l : List ByteArray} (h : Sl w S 1 RStr A n l) : ∀ p, A = some p → ∀ j u, (l.flatMap strCs)[j]? = some u → w.cell? (p.add j) = some u :=
  Sl.cells (by decide) (fun _ => rfl) (fun _ _ h => h.1) h
theorem ownStr {w : World} {base : Nat} {e : TypeId} {v : Value} {n : Nat} {l : List ByteArray} (h : w.ownsRow base e 1 v n (l.flatMap strCs)) (hl : l.length = n) (hw : ∀ a ∈ l, inS a) :
    ∃ A c, v = .slice A n c ∧ n ≤ c ∧ Sl w (old w) 1 RStr A n l := own_slw strCs inS (fun _ => rfl) h hl hw

set_option maxHeartbeats 400000 in
theorem strs_Index (s : ByteArray) (A : Option Addr) (n c : Nat) (l : List ByteArray) (w : World) (hn : inL n) (h : Sl w (old w) 1 RStr A n l) :
    Calls Tryz.prog 77 #[.slice A n c, .string s] w fun e w' => e = .returned (.int .i64 (idxOf (isStr s) l)) ∧ Below w.heap.size w w' := by
  unfold inL at hn
  have HH := Lib.hid h
  clear h
  go_enter Tryz.func77, Tryz.ntmps77
  go_wp2_with fail
  go_loopw [8] (fun i wr => ∃ k : Nat, k ≤ n ∧ i = .int .i64 k ∧ (l.take k).any (isStr s) = false ∧ Below w.heap.size w wr) (fun i _ => n - (intOf i).toNat)
  case atStart => exact ⟨0, by omega, rfl, by simp, Below.refl _ _⟩
  case round =>
    obtain ⟨k, hk, rfl, hv, hb⟩ := hrel
    by_cases hlt : k < n
    · obtain ⟨b, o, x, rfl, hbl, hl, _, h0⟩ := Str_at (HH.out.now hb) hlt
      have hbl' : b < wr.heap.size := hbl
      have HL := Lib.hid (And.intro hl hv)
      clear hl hv hbl
      cases hp : isStr s x
      · have HP := Lib.hid hp
        have hp1 : (s.toList == x.toList) = false := hp
        have hp2 := isStr_comm hp
        clear hp
        go_wp2_with fail
        go_roundw
        case rel =>
          refine ⟨k + 1, by omega, by go_num, ?_, bel⟩
          rw [List.take_add_one, HL.out.1, List.any_append, HL.out.2]
          simp [HP.out]
        case measure => simp [intOf]; omega
      · have HP := Lib.hid hp
        have hp1 : (s.toList == x.toList) = true := hp
        have hp2 := isStr_comm hp
        clear hp
        go_wp2_with fail
        go_ret
        refine ⟨ret_int ?_, bel⟩
        have e2 : l.any (isStr s) = true := by
          rw [List.any_eq_true]
          exact ⟨x, List.mem_of_getElem? HL.out.1, HP.out⟩
        rw [idxOf, if_pos e2, firstAt_hit (isStr s) l k x HL.out.1 HP.out HL.out.2]
    · have hke : k = n := by omega
      subst hke
      have hl : l.take k = l := by rw [List.take_of_length_le (by rw [HH.out.len]; exact Nat.le_refl _)]
      rw [hl] at hv
      have HV := Lib.hid hv
      clear hl hv
      go_wp2_with fail
      go_ret
      exact ⟨ret_int (by rw [idxOf, HV.out]; rfl), hb⟩
set_option maxHeartbeats 400000 in
theorem strs_Contains (s : ByteArray) (A : Option Addr) (n c : Nat) (l : List ByteArray) (w : World) (hn : inL n) (h : Sl w (old w) 1 RStr A n l) :
    Calls Tryz.prog 40 #[.slice A n c, .string s] w (RetB w (l.any (isStr s))) := by
  have hcl := strs_Index s A n c l w hn h
  cases hany : l.any (isStr s)
  · have h1 : idxOf (isStr s) l = -1 := by rw [idxOf, hany]; rfl
    rw [h1] at hcl
    clear hany h1 h
    go_enter Tryz.func40, Tryz.ntmps40
    go_wp2_with (go_at_call 77; refine hcl.mono ?_; rintro e w1 ⟨rfl, hb1⟩)
    go_ret
    exact ⟨rfl, bel⟩
  · have h1 : idxOf (isStr s) l = (firstAt (isStr s) l : Int) := by rw [idxOf, hany]; rfl
    rw [h1] at hcl
    have hlt := firstAt_le (isStr s) l
    rw [h.len] at hlt
    unfold inL at hn
    clear hany h1 h
    go_enter Tryz.func40, Tryz.ntmps40
    go_wp2_with (go_at_call 77; refine hcl.mono ?_; rintro e w1 ⟨rfl, hb1⟩)
    go_ret
    exact ⟨rfl, bel⟩
set_option maxHeartbeats 400000 in
theorem ref_holds (s : ByteArray) (A : Option Addr) (n c : Nat) (l : List ByteArray) (w : World) (hn : inL n) (h : Sl w (old w) 1 RStr A n l) :
    Calls Tryz.prog 60 #[.slice A n c, .string s] w (RetB w (l.any (isStr s))) := by
  unfold inL at hn
  have HH := Lib.hid h
  clear h
  go_enter Tryz.func60, Tryz.ntmps60
  go_wp2_with fail
  go_loopw [9] (fun i wr => ∃ k : Nat, k ≤ n ∧ i = .int .i64 k ∧ (l.take k).any (isStr s) = false ∧ Below w.heap.size w wr) (fun i _ => n - (intOf i).toNat)
  case atStart => exact ⟨0, by omega, rfl, by simp, Below.refl _ _⟩
  case round =>
    obtain ⟨k, hk, rfl, hv, hb⟩ := hrel
    by_cases hlt : k < n
    · obtain ⟨b, o, x, rfl, hbl, hl, _, h0⟩ := Str_at (HH.out.now hb) hlt
      have hbl' : b < wr.heap.size := hbl
      have HL := Lib.hid (And.intro hl hv)
      clear hl hv hbl
      cases hp : isStr s x
      · have HP := Lib.hid hp
        have hp1 : (s.toList == x.toList) = false := hp
        have hp2 := isStr_comm hp
        clear hp
        go_wp2_with fail
        go_roundw
        case rel =>
          refine ⟨k + 1, by omega, by go_num, ?_, bel⟩
          rw [List.take_add_one, HL.out.1, List.any_append, HL.out.2]
          simp [HP.out]
        case measure => simp [intOf]; omega
      · have HP := Lib.hid hp
        have hp1 : (s.toList == x.toList) = true := hp
        have hp2 := isStr_comm hp
        clear hp
        go_wp2_with fail
        go_ret
        refine ⟨ret_bool ?_, bel⟩
        rw [eq_comm, List.any_eq_true]
        exact ⟨x, List.mem_of_getElem? HL.out.1, HP.out⟩
    · have hke : k = n := by omega
      subst hke
      have hl : l.take k = l := by rw [List.take_of_length_le (by rw [HH.out.len]; exact Nat.le_refl _)]
      rw [hl] at hv
      have HV := Lib.hid hv
      clear hl hv
      go_wp2_with fail
      go_ret
      exact ⟨ret_bool HV.out.symm, hb⟩
set_option maxHeartbeats 1000000 in
set_option maxRecDepth 100000 in
theorem clone_Str (A : Option Addr) (n c : Nat) (l : List ByteArray) (w : World) (hn : inB 16 n) (h : Sl w (old w) 1 RStr A n l) :
    Calls Tryz.prog 87 #[.slice A n c] w (OwnRow strCs 9 1 w l) := by
  cases A with
  | none =>
    obtain ⟨rfl, rfl⟩ := h.of_none
    have hq := fun w => Lib.run_eql_slice_nil (P := Tryz.prog) w 32 _ none 0 c 0 0 Tryz.underlying32
    go_enter Tryz.func87, Tryz.ntmps87
    go_wp2_with fail
    go_ret
    exact ⟨_, rfl, World.ownsRow_nil _ _ _ _, Below.refl _ _⟩
  | some p =>
    obtain ⟨i0, hi, hz0, hz1, hz2⟩ := info_parts Tryz.infoStr'
    have hq := fun w => Lib.run_eql_slice_nil (P := Tryz.prog) w 32 _ (some p) n c 0 0 Tryz.underlying32
    have hc := h.cellsStr p rfl
    have hl := h.len
    unfold inB at hn
    have HC := Lib.hid hc
    clear hc h
    go_enter Tryz.func87, Tryz.ntmps87
    go_wp2_with (at_builtin; refine wpList_append_sl rfl _ _ 32 rfl w.heap.size 9 i0 (.string ⟨#[]⟩) 1 16 Tryz.underlying32 hi hz0 hz1 hz2 rfl (by decide) _ 0 [] rfl (World.ownsRow_made w #[] 0 (Nat.le_refl _) (Nat.zero_le _) (by simp)) (some p) n c (l.flatMap strCs) rfl (by rw [flat_len _ 1 (fun _ => rfl), hl]) (fun p' hp j u hj => by cases hp; exact Lib.cell?_alloc_some _ (HC.out j u hj)) (by simp) (oneStr l) (by unfold maxLen; omega) (by omega) (by simp) ?_; intro v1 w1 hown1 hb1 hz1)
    go_ret
    refine ⟨v1, rfl, by rw [hl]; simpa using hown1, (Below.refl _ _).alloc (Nat.le_refl _) _ |>.trans hb1⟩
end Go.Proofs.YtgmcojnhpedpnaaGreat
