/- Slices of texts: slices.Index, Contains and Clone at []string; the reference holds. -/
import Derived.Test.YtgmcojnhpedpnaaRow
import Derived.Test.YtgmcojnhpedpnaaIdx
namespace Go.Proofs.Ytgmcojnhpedpnaa
open Go.RowKit

def isStr (s t : ByteArray) : Bool := s.toList == t.toList
theorem isStr_comm {s t : ByteArray} {b : Bool} (h : isStr s t = b) : (t.toList == s.toList) = b := by rw [← h, isStr, Bool.eq_iff_iff, beq_iff_eq, beq_iff_eq]; exact ⟨Eq.symm, Eq.symm⟩
abbrev strCs (s : ByteArray) : List Value := [.string s]
theorem Try.infoStr' : (Try.prog.info? 9).map (fun i => (i.zero, i.size, i.bytes)) = some (some (.string ⟨#[]⟩), 1, 16) := by kernel_rfl
theorem oneStr (l : List ByteArray) : ∀ u ∈ l.flatMap strCs, u.oneCell' = true := by
  intro u hu
  obtain ⟨x, _, hx⟩ := List.mem_flatMap.1 hu
  simp only [strCs, List.mem_cons, List.not_mem_nil, or_false] at hx
  rw [hx]; rfl
theorem Sl.cellsStr {w : World} {S : Nat → Prop} {A : Option Addr} {n : Nat} {l : List ByteArray} (h : Sl w S 1 RStr A n l) : ∀ p, A = some p → ∀ j u, (l.flatMap strCs)[j]? = some u → w.cell? (p.add j) = some u :=
  Sl.cells (by decide) (fun _ => rfl) (fun _ _ h => h.1) h
theorem ownStr {w : World} {base : Nat} {e : TypeId} {v : Value} {n : Nat} {l : List ByteArray} (h : w.ownsRow base e 1 v n (l.flatMap strCs)) (hl : l.length = n) (hw : ∀ a ∈ l, inS a) :
    ∃ A c, v = .slice A n c ∧ n ≤ c ∧ Sl w (old w) 1 RStr A n l := own_slw strCs inS (fun _ => rfl) h hl hw

set_option maxHeartbeats 400000 in
theorem ref_holds (s : ByteArray) (A : Option Addr) (n c : Nat) (l : List ByteArray) (w : World) (hn : inL n) (h : Sl w (old w) 1 RStr A n l) :
    Calls Try.prog 20 #[.slice A n c, .string s] w (RetB w (l.any (isStr s))) := by
  unfold inL at hn
  have HH := Lib.hid h
  clear h
  go_enter Try.func20, Try.ntmps20
  go_wp2_with fail
  go_loopw [9] (fun i wr => ∃ k : Nat, k ≤ n ∧ i = .int .i64 k ∧ (l.take k).any (isStr s) = false ∧ Below w.heap.size w wr) (fun i _ => n - (intOf i).toNat)
  case atStart => exact ⟨0, by omega, rfl, by simp, Below.refl _ _⟩
  case round =>
    obtain ⟨k, hk, rfl, hv, hb⟩ := hrel
    by_cases hlt : k < n
    · obtain ⟨b, o, x, rfl, hbl, hl, _, h0⟩ := Str_at (HH.out.now hb) hlt
      have hbl' : b < wr.heap.size := hbl
      have HL := Lib.hid (And.intro hl hv)
      clear hl hv hbl
      cases hp : isStr s x
      · have HP := Lib.hid hp
        have hp1 : (s.toList == x.toList) = false := hp
        have hp2 := isStr_comm hp
        clear hp
        go_wp2_with fail
        go_roundw
        case rel =>
          refine ⟨k + 1, by omega, by go_num, ?_, bel⟩
          rw [List.take_add_one, HL.out.1, List.any_append, HL.out.2]
          simp [HP.out]
        case measure => simp [intOf]; omega
      · have HP := Lib.hid hp
        have hp1 : (s.toList == x.toList) = true := hp
        have hp2 := isStr_comm hp
        clear hp
        go_wp2_with fail
        go_ret
        refine ⟨ret_bool ?_, bel⟩
        rw [eq_comm, List.any_eq_true]
        exact ⟨x, List.mem_of_getElem? HL.out.1, HP.out⟩
    · have hke : k = n := by omega
      subst hke
      have hl : l.take k = l := by rw [List.take_of_length_le (by rw [HH.out.len]; exact Nat.le_refl _)]
      rw [hl] at hv
      have HV := Lib.hid hv
      clear hl hv
      go_wp2_with fail
      go_ret
      exact ⟨ret_bool HV.out.symm, hb⟩
end Go.Proofs.Ytgmcojnhpedpnaa
