/- Slices of ints: slices.IndexFunc, ContainsFunc, Index, Contains, Equal at []int. (printed by mkrnk.py) -/
import Derived.Test.YtgmcojnhpedpnaaRnkP
import Derived.Test.YtgmcojnhpedpnaaRow
import Derived.Test.YtgmcojnhpedpnaaOwn
namespace Go.Proofs.Ytgmcojnhpedpnaa
open Go.RowKit

abbrev intCs (n : Int) : List Value := [.int .i64 n]
theorem Try.infoIn9 : (Try.prog.info? 3).map (fun i => (i.zero, i.size, i.bytes)) = some (some (.int .i64 0), 1, 8) := by kernel_rfl
theorem ownInt {w : World} {base : Nat} {e : TypeId} {v : Value} {n : Nat} {l : List Int} (h : w.ownsRow base e 1 v n (l.flatMap intCs)) (hl : l.length = n) (hw : ∀ a ∈ l, inI a) :
    ∃ A c, v = .slice A n c ∧ n ≤ c ∧ Sl w (old w) 1 RInt A n l := own_slw intCs inI (fun _ => rfl) h hl hw
def isInt (v x : Int) : Bool := v == x
theorem isInt_comm {s t : Int} {b : Bool} (h : isInt s t = b) : (t == s) = b := by rw [← h, isInt, Bool.eq_iff_iff, beq_iff_eq, beq_iff_eq]; exact ⟨Eq.symm, Eq.symm⟩
theorem negO_lt {r : Int} (h : negO r = true) : r < 0 := by simpa [negO] using h
theorem negO_ge {r : Int} (h : negO r = false) : ¬ r < 0 := by simpa [negO] using h
abbrev natCs (n : Nat) : List Value := [.int .i64 (n : Int)]
def RNat (cs : List Value) (n : Nat) : Prop := cs = natCs n
theorem Nat_at {w : World} {S : Nat → Prop} {A : Option Addr} {n k : Nat} {l : List Nat} (h : Sl w S 1 RNat A n l) (hk : k < n) :
    ∃ b o c, A = some ⟨b, o, none⟩ ∧ S b ∧ l[k]? = some c ∧ w.cell? ⟨b, o + k, none⟩ = some (.int .i64 (c : Int)) := by
  obtain ⟨b, o, c, cs, rfl, hs, hl, hr, _, hc⟩ := h.at_ hk
  have h0 := hc 0 (by decide)
  rw [Nat.mul_one, hr] at h0
  exact ⟨b, o, c, rfl, hs, hl, h0⟩
/-- A slice of places. -/
def RIs (w : World) (S : Nat → Prop) (cs : List Value) (m : List Nat) : Prop := ∃ A c, cs = [.slice A m.length c] ∧ m.length ≤ c ∧ Sl w S 1 RNat A m.length m
theorem keeps_RIs : Keeps RIs := by
  rintro w w' S S' cs m ⟨A, c, h1, h2, h3⟩ hk
  exact ⟨A, c, h1, h2, h3.keepN (keeps_flat RNat) hk⟩
theorem Try.infoInts : (Try.prog.info? 34).map (fun i => (i.zero, i.size, i.bytes)) = some (some (.slice none 0 0), 1, 24) := by kernel_rfl
theorem Is_at {w : World} {S : Nat → Prop} {A : Option Addr} {n k : Nat} {l : List (List Nat)} (h : Sl w S 1 (RIs w S) A n l) (hk : k < n) :
    ∃ b o m X C, A = some ⟨b, o, none⟩ ∧ S b ∧ l[k]? = some m ∧ w.cell? ⟨b, o + k, none⟩ = some (.slice X m.length C) ∧ m.length ≤ C ∧ Sl w S 1 RNat X m.length m := by
  obtain ⟨b, o, m, cs, rfl, hs, hl, ⟨X, C, rfl, h2, h3⟩, _, hc⟩ := h.at_ hk
  have h0 := hc 0 (by decide)
  rw [Nat.mul_one] at h0
  exact ⟨b, o, m, X, C, rfl, hs, hl, h0, h2, h3⟩
set_option maxHeartbeats 400000 in
theorem neg_of (x : Int) (w : World) : Calls Try.prog 26 #[.int .i64 x] w (RetB w (negO x)) := by
  cases h : negO x
  · have h1 := negO_ge h
    clear h
    go_enter Try.func26, Try.ntmps26
    go_wp2
    go_ret
    exact ⟨rfl, bel⟩
  · have h1 := negO_lt h
    clear h
    go_enter Try.func26, Try.ntmps26
    go_wp2
    go_ret
    exact ⟨rfl, bel⟩
theorem cf_neg_of (args : Array Value) (w : World) : (callFunc 26 args).run Try.prog w = .ok (.enter 26 args) w :=
  cf _ _ Try.func26 (by kernel_rfl) (by kernel_rfl) args w
set_option maxHeartbeats 400000 in
theorem neg_cyc (x : Int) (w : World) : Calls Try.prog 45 #[.int .i64 x] w (RetB w (negO x)) := by
  cases h : negO x
  · have h1 := negO_ge h
    clear h
    go_enter Try.func45, Try.ntmps45
    go_wp2
    go_ret
    exact ⟨rfl, bel⟩
  · have h1 := negO_lt h
    clear h
    go_enter Try.func45, Try.ntmps45
    go_wp2
    go_ret
    exact ⟨rfl, bel⟩
theorem cf_neg_cyc (args : Array Value) (w : World) : (callFunc 45 args).run Try.prog w = .ok (.enter 45 args) w :=
  cf _ _ Try.func45 (by kernel_rfl) (by kernel_rfl) args w
set_option maxHeartbeats 400000 in
theorem ints_Index (v : Int) (A : Option Addr) (n c : Nat) (l : List Int) (w : World) (hn : inL n) (h : Sl w (old w) 1 RInt A n l) :
    Calls Try.prog 47 #[.slice A n c, .int .i64 v] w (RetI w (idxOf (isInt v) l)) := by
  unfold inL at hn
  have HH := Lib.hid h
  clear h
  go_enter Try.func47, Try.ntmps47
  go_wp2_with fail
  go_loopw [8] (fun i wr => ∃ k : Nat, k ≤ n ∧ i = .int .i64 k ∧ (l.take k).any (isInt v) = false ∧ Below w.heap.size w wr) (fun i _ => n - (intOf i).toNat)
  case atStart => exact ⟨0, by omega, rfl, by simp, Below.refl _ _⟩
  case round =>
    obtain ⟨k, hk, rfl, hv, hb⟩ := hrel
    by_cases hlt : k < n
    · obtain ⟨b, o, x, rfl, hbl, hl, _, h0⟩ := Int_at (HH.out.now hb) hlt
      have hbl' : b < wr.heap.size := hbl
      have HL := Lib.hid (And.intro hl hv)
      clear hl hv hbl
      cases hp : isInt v x
      · have HP := Lib.hid hp
        have hp2 := isInt_comm hp
        have hp1 : (v == x) = _ := hp
        clear hp
        go_wp2_with fail
        go_roundw
        case rel =>
          refine ⟨k + 1, by omega, by go_num, ?_, bel⟩
          rw [List.take_add_one, HL.out.1, List.any_append, HL.out.2]
          simp [HP.out]
        case measure => simp [intOf]; omega
      · have HP := Lib.hid hp
        have hp2 := isInt_comm hp
        have hp1 : (v == x) = _ := hp
        clear hp
        go_wp2_with fail
        go_ret
        refine ⟨ret_int ?_, bel⟩
        have e2 : l.any (isInt v) = true := by
          rw [List.any_eq_true]
          exact ⟨x, List.mem_of_getElem? HL.out.1, HP.out⟩
        rw [idxOf, if_pos e2, firstAt_hit (isInt v) l k x HL.out.1 HP.out HL.out.2]
    · have hke : k = n := by omega
      subst hke
      have hl : l.take k = l := by rw [List.take_of_length_le (by rw [HH.out.len]; exact Nat.le_refl _)]
      rw [hl] at hv
      have HV := Lib.hid hv
      clear hl hv
      go_wp2_with fail
      go_ret
      exact ⟨ret_int (by rw [idxOf, HV.out]; rfl), hb⟩
set_option maxHeartbeats 400000 in
theorem ints_Contains (v : Int) (A : Option Addr) (n c : Nat) (l : List Int) (w : World) (hn : inL n) (h : Sl w (old w) 1 RInt A n l) :
    Calls Try.prog 46 #[.slice A n c, .int .i64 v] w (RetB w (l.any (isInt v))) := by
  have hcl := ints_Index v A n c l w hn h
  cases hany : l.any (isInt v)
  · have h1 : idxOf (isInt v) l = -1 := by rw [idxOf, hany]; rfl
    rw [h1] at hcl
    clear hany h1 h
    go_enter Try.func46, Try.ntmps46
    go_wp2_with (go_at_call 47; refine hcl.mono ?_; rintro e w1 ⟨rfl, hb1⟩)
    go_ret
    exact ⟨rfl, bel⟩
  · have h1 : idxOf (isInt v) l = (firstAt (isInt v) l : Int) := by rw [idxOf, hany]; rfl
    rw [h1] at hcl
    have hlt := firstAt_le (isInt v) l
    rw [h.len] at hlt
    unfold inL at hn
    clear hany h1 h
    go_enter Try.func46, Try.ntmps46
    go_wp2_with (go_at_call 47; refine hcl.mono ?_; rintro e w1 ⟨rfl, hb1⟩)
    go_ret
    exact ⟨rfl, bel⟩
set_option maxHeartbeats 400000 in
theorem ints_IdxOf  (A : Option Addr) (n c : Nat) (l : List Int) (w : World) (hn : inL n) (h : Sl w (old w) 1 RInt A n l) :
    Calls Try.prog 44 #[.slice A n c, .func (.func 26) #[] #[]] w (RetI w (idxOf (negO) l)) := by
  unfold inL at hn
  have HH := Lib.hid h
  clear h
  go_enter Try.func44, Try.ntmps44
  go_wp2_with fail
  go_loopw [8] (fun i wr => ∃ k : Nat, k ≤ n ∧ i = .int .i64 k ∧ (l.take k).any (negO) = false ∧ Below w.heap.size w wr) (fun i _ => n - (intOf i).toNat)
  case atStart => exact ⟨0, by omega, rfl, by simp, Below.refl _ _⟩
  case round =>
    obtain ⟨k, hk, rfl, hv, hb⟩ := hrel
    by_cases hlt : k < n
    · obtain ⟨b, o, x, rfl, hbl, hl, _, h0⟩ := Int_at (HH.out.now hb) hlt
      have hbl' : b < wr.heap.size := hbl
      have HL := Lib.hid (And.intro hl hv)
      clear hl hv hbl
      cases hp : negO x
      · have HP := Lib.hid hp

        clear hp
        go_wp2_with (refine (neg_of _ _).mono ?_; rintro e w1 ⟨rfl, hb1⟩; try rw [HP.out])
        go_roundw
        case rel =>
          refine ⟨k + 1, by omega, by go_num, ?_, bel⟩
          rw [List.take_add_one, HL.out.1, List.any_append, HL.out.2]
          simp [HP.out]
        case measure => simp [intOf]; omega
      · have HP := Lib.hid hp

        clear hp
        go_wp2_with (refine (neg_of _ _).mono ?_; rintro e w1 ⟨rfl, hb1⟩; try rw [HP.out])
        go_ret
        refine ⟨ret_int ?_, bel⟩
        have e2 : l.any (negO) = true := by
          rw [List.any_eq_true]
          exact ⟨x, List.mem_of_getElem? HL.out.1, HP.out⟩
        rw [idxOf, if_pos e2, firstAt_hit (negO) l k x HL.out.1 HP.out HL.out.2]
    · have hke : k = n := by omega
      subst hke
      have hl : l.take k = l := by rw [List.take_of_length_le (by rw [HH.out.len]; exact Nat.le_refl _)]
      rw [hl] at hv
      have HV := Lib.hid hv
      clear hl hv
      go_wp2_with fail
      go_ret
      exact ⟨ret_int (by rw [idxOf, HV.out]; rfl), hb⟩
set_option maxHeartbeats 400000 in
theorem ints_IdxCyc  (A : Option Addr) (n c : Nat) (l : List Int) (w : World) (hn : inL n) (h : Sl w (old w) 1 RInt A n l) :
    Calls Try.prog 44 #[.slice A n c, .func (.func 45) #[] #[]] w (RetI w (idxOf (negO) l)) := by
  unfold inL at hn
  have HH := Lib.hid h
  clear h
  go_enter Try.func44, Try.ntmps44
  go_wp2_with fail
  go_loopw [8] (fun i wr => ∃ k : Nat, k ≤ n ∧ i = .int .i64 k ∧ (l.take k).any (negO) = false ∧ Below w.heap.size w wr) (fun i _ => n - (intOf i).toNat)
  case atStart => exact ⟨0, by omega, rfl, by simp, Below.refl _ _⟩
  case round =>
    obtain ⟨k, hk, rfl, hv, hb⟩ := hrel
    by_cases hlt : k < n
    · obtain ⟨b, o, x, rfl, hbl, hl, _, h0⟩ := Int_at (HH.out.now hb) hlt
      have hbl' : b < wr.heap.size := hbl
      have HL := Lib.hid (And.intro hl hv)
      clear hl hv hbl
      cases hp : negO x
      · have HP := Lib.hid hp

        clear hp
        go_wp2_with (refine (neg_cyc _ _).mono ?_; rintro e w1 ⟨rfl, hb1⟩; try rw [HP.out])
        go_roundw
        case rel =>
          refine ⟨k + 1, by omega, by go_num, ?_, bel⟩
          rw [List.take_add_one, HL.out.1, List.any_append, HL.out.2]
          simp [HP.out]
        case measure => simp [intOf]; omega
      · have HP := Lib.hid hp

        clear hp
        go_wp2_with (refine (neg_cyc _ _).mono ?_; rintro e w1 ⟨rfl, hb1⟩; try rw [HP.out])
        go_ret
        refine ⟨ret_int ?_, bel⟩
        have e2 : l.any (negO) = true := by
          rw [List.any_eq_true]
          exact ⟨x, List.mem_of_getElem? HL.out.1, HP.out⟩
        rw [idxOf, if_pos e2, firstAt_hit (negO) l k x HL.out.1 HP.out HL.out.2]
    · have hke : k = n := by omega
      subst hke
      have hl : l.take k = l := by rw [List.take_of_length_le (by rw [HH.out.len]; exact Nat.le_refl _)]
      rw [hl] at hv
      have HV := Lib.hid hv
      clear hl hv
      go_wp2_with fail
      go_ret
      exact ⟨ret_int (by rw [idxOf, HV.out]; rfl), hb⟩
set_option maxHeartbeats 400000 in
theorem ints_ContOf  (A : Option Addr) (n c : Nat) (l : List Int) (w : World) (hn : inL n) (h : Sl w (old w) 1 RInt A n l) :
    Calls Try.prog 25 #[.slice A n c, .func (.func 26) #[] #[]] w (RetB w (l.any (negO))) := by
  have hcl := ints_IdxOf  A n c l w hn h
  cases hany : l.any (negO)
  · have h1 : idxOf (negO) l = -1 := by rw [idxOf, hany]; rfl
    rw [h1] at hcl
    clear hany h1 h
    go_enter Try.func25, Try.ntmps25
    go_wp2_with (go_at_call 44; refine hcl.mono ?_; rintro e w1 ⟨rfl, hb1⟩)
    go_ret
    exact ⟨rfl, bel⟩
  · have h1 : idxOf (negO) l = (firstAt (negO) l : Int) := by rw [idxOf, hany]; rfl
    rw [h1] at hcl
    have hlt := firstAt_le (negO) l
    rw [h.len] at hlt
    unfold inL at hn
    clear hany h1 h
    go_enter Try.func25, Try.ntmps25
    go_wp2_with (go_at_call 44; refine hcl.mono ?_; rintro e w1 ⟨rfl, hb1⟩)
    go_ret
    exact ⟨rfl, bel⟩
theorem Int_at' {w : World} {S : Nat → Prop} {A : Option Addr} {n k : Nat} {l : List Int} (h : Sl w S 1 (fun cs s => cs = [Value.int .i64 s]) A n l) (hk : k < n) :
    ∃ b o c, A = some ⟨b, o, none⟩ ∧ S b ∧ l[k]? = some c ∧ w.cell? ⟨b, o + k, none⟩ = some (.int .i64 c) := by
  obtain ⟨b, o, c, cs, rfl, hs, hl, rfl, _, hc⟩ := h.at_ hk
  have h0 := hc 0 (by decide)
  rw [Nat.mul_one] at h0
  exact ⟨b, o, c, rfl, hs, hl, h0⟩
set_option maxHeartbeats 400000 in
theorem slices_Equal_Int (A A' : Option Addr) (n c n' c' : Nat) (l : List Int) (S S' : Nat → Prop) (w : World) (hn : n ≤ 9223372036854775807)
    (h : Sl w S 1 (fun cs s => cs = [Value.int .i64 s]) A n l) (h' : Sl w S' 1 (fun cs s => cs = [Value.int .i64 s]) A' n' l) :
    Calls Try.prog 31 #[.slice A n c, .slice A' n' c'] w fun e w' => e = .returned (.bool true) ∧ ∃ k, w' = w.drewN k := by
  obtain rfl : n = n' := by rw [← h.len, ← h'.len]
  have HH := Lib.hid (And.intro h h')
  clear h h'
  go_enter Try.func31, Try.ntmps31
  go_wp2_with fail
  go_loopw [13] (fun i wr => ∃ k : Nat, k ≤ n ∧ i = .int .i64 k ∧ ∃ j, wr = w.drewN j) (fun i _ => n - (intOf i).toNat)
  case atStart => exact ⟨0, by omega, rfl, 0, rfl⟩
  case round =>
    obtain ⟨k, hk, rfl, j, rfl⟩ := hrel
    by_cases hlt : k < n
    · obtain ⟨b, o, x, rfl, _, hl, h0⟩ := Int_at' HH.out.1 hlt
      obtain ⟨b', o', x', rfl, _, hl', h0'⟩ := Int_at' HH.out.2 hlt
      rw [hl] at hl'
      cases hl'
      clear hl
      go_wp2_with fail
      go_quiet (fail)
      go_wp2_with fail
      go_roundw
      case rel => exact ⟨k + 1, by omega, by go_num, _, rfl⟩
      case measure => simp [intOf]; omega
    · have hke : k = n := by omega
      subst hke
      go_wp2_with fail
      go_ret
      exact ⟨rfl, _, rfl⟩
set_option maxHeartbeats 400000 in
theorem same_Ints (A A' : Option Addr) (n c n' c' : Nat) (l : List Int) (S S' : Nat → Prop) (w : World) (hn : n ≤ 9223372036854775807)
    (h : Sl w S 1 (fun cs s => cs = [Value.int .i64 s]) A n l) (h' : Sl w S' 1 (fun cs s => cs = [Value.int .i64 s]) A' n' l) :
    Calls Try.prog 12 #[.slice A n c, .slice A' n' c'] w fun e w' => e = .returned (.bool true) ∧ ∃ k, w' = w.drewN k := by
  go_enter Try.func12, Try.ntmps12
  go_wp2_with (go_at_call 31; refine (slices_Equal_Int A A' n c n' c' l S S' _ hn h h').mono ?_; rintro e w1 ⟨rfl, k, rfl⟩)
  go_ret
  exact ⟨rfl, _, rfl⟩
end Go.Proofs.Ytgmcojnhpedpnaa
