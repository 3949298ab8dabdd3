/- rank.cycle: a cycle from the first field that can't be ranked. -/
import Derived.Test.YtgmcojnhpedpnaaRnk3
namespace Go.Proofs.Ytgmcojnhpedpnaa
open Go.RowKit

def lenOf : Value → Nat
  | .slice _ n _ => n
  | _ => 0
abbrev toI (l : List Nat) : List Int := l.map fun (i : Nat) => (i : Int)
theorem own_sli {w : World} {base : Nat} {e : TypeId} {v : Value} {n : Nat} {l : List Int} (h : w.ownsRow base e 1 v n (l.flatMap intCs)) (hl : l.length = n) (hw : ∀ a ∈ l, inI a) :
    ∃ A c, v = .slice A n c ∧ n ≤ c ∧ Sl w (since base w) 1 RInt A n l := by
  obtain ⟨A, c, rfl, hc, hs⟩ := own_sl intCs (fun _ => rfl) h hl
  refine ⟨A, c, rfl, hc, hs.1, fun hn => ?_⟩
  obtain ⟨b, o, e, hS, hcc⟩ := hs.2 hn
  refine ⟨b, o, e, hS, fun i v hv => ?_⟩
  obtain ⟨cs, rfl, hl', h'⟩ := hcc i v hv
  exact ⟨_, ⟨rfl, hw v (List.mem_of_getElem? hv)⟩, hl', h'⟩
theorem any_isInt (l : List Nat) (i : Nat) : (toI l).any (isInt i) = l.any (fun x => x == i) := by
  rw [List.any_map]
  congr 1
  funext x
  simp only [Function.comp_apply, isInt]
  rw [Bool.eq_iff_iff, beq_iff_eq, beq_iff_eq]
  omega
theorem firstAt_isInt (i : Nat) : ∀ l : List Nat, firstAt (isInt i) (toI l) = firstAt (fun x => x == i) l
  | [] => rfl
  | a :: l => by
    have h := firstAt_isInt i l
    have e : isInt i (a : Int) = (a == i) := by rw [isInt, Bool.eq_iff_iff, beq_iff_eq, beq_iff_eq]; omega
    simp only [toI, List.map_cons, firstAt, e] at h ⊢
    rw [h]
theorem inI_small {x : Int} (h1 : 0 ≤ x) (h2 : x ≤ 1000000) : inI x := by
  unfold inI
  rw [Lit.wf]
  have e1 : IntKind.i64.min = -9223372036854775808 := by decide
  have e2 : IntKind.i64.max = 9223372036854775807 := by decide
  simp only [e1, e2, Bool.and_eq_true, decide_eq_true_eq]
  omega
theorem toI_in {n : Nat} {path : List Nat} (h : PathC n path) (h14 : n ≤ 14) : ∀ a ∈ toI path, inI a := by
  intro a ha
  obtain ⟨x, hx, rfl⟩ := List.mem_map.1 ha
  have := h.2 x hx
  exact inI_small (by omega) (by omega)
theorem firstAt_any {α : Type} (p : α → Bool) (l : List α) (h : l.any p = true) : firstAt p l < l.length := by
  obtain ⟨_, _, _, h3⟩ := find_at p l h
  exact h3
theorem find_take {bad : Nat → Bool} {m : List Nat} {j s : Nat} (h : ∀ x ∈ m.take j, bad x = false) (hs : m[j]? = some s) (hb : bad s = true) : m.find? bad = some s := by
  have hj := (List.getElem?_eq_some_iff.1 hs).1
  have e : m = m.take j ++ s :: m.drop (j + 1) := by
    have := List.take_append_drop j m
    rw [List.drop_eq_getElem_cons hj] at this
    have e2 : m[j] = s := by rw [List.getElem?_eq_getElem hj] at hs; exact Option.some.inj hs
    rw [e2] at this
    exact this.symm
  rw [e, List.find?_append, List.find?_eq_none.2 (fun x hx => by rw [h x hx]; decide)]
  simp [hb]

set_option maxRecDepth 100000 in
set_option maxHeartbeats 4000000 in
theorem rank_cycle (nd : List (List Nat)) (O : List Int) (L A2 : Option Addr) (n d c2 : Nat) (w : World) (h14 : n ≤ 14) (hN : ∀ i, ∀ s ∈ ndAt nd i, s < n) (hl : Sl w (old w) 1 (RIs w (old w)) L n nd) (hln : ∀ m ∈ nd, m.length ≤ 1048576)
    (hr : Sl w (old w) 1 RInt A2 n O) (hbad : O.any negO = true) :
    Calls Try.prog 27 #[.slice L n d, .slice A2 n c2] w (RetInts w (toI (cycC (fun i => negO (outAt O i)) nd (n + 1) [] (firstAt negO O)))) := by
  obtain ⟨i0, hi, hz0, hz1, hz2⟩ := info_parts Try.infoIn9
  have hcyc := fun w h => ints_IdxCyc A2 n c2 O w (by unfold inL; omega) h
  have hfa := firstAt_any negO O hbad
  rw [idxOf, if_pos hbad] at hcyc
  rw [hr.len] at hfa
  generalize hres : cycC (fun i => negO (outAt O i)) nd (n + 1) [] (firstAt negO O) = RES
  generalize firstAt negO O = a0 at *
  have HH := Lib.hid (And.intro hl (And.intro hN (And.intro hln (And.intro hr hr.len))))
  have HRES := Lib.hid hres
  clear hl hN hln hr hbad hres
  go_enter Try.func27, Try.ntmps27
  go_wp2_with (go_at_call 44; refine (hcyc _ (HH.out.2.2.2.1.now bel)).mono ?_; rintro e w1 ⟨rfl, hb1⟩)
  go_loopw [5, 6] (fun at_ v wr => ∃ (path : List Nat) (i : Nat), at_ = .int .i64 i ∧ i < n ∧ Hid (wr.ownsRow w.heap.size 3 1 v path.length ((toI path).flatMap intCs)) ∧ lenOf v = path.length ∧ PathC n path ∧ Hid (cycC (fun i => negO (outAt O i)) nd (n + 1 - path.length) path i = RES) ∧ Below w.heap.size w wr) (fun _ v _ => n + 1 - lenOf v)
  case atStart => exact ⟨[], a0, rfl, hfa, Lib.hid (by simpa using World.ownsRow_nil _ _ _ _), rfl, PathC.nil n, HRES, hb1⟩
  case round =>
    obtain ⟨path, i, rfl, hin, hown, hlv, hpc, hcy, hbr⟩ := hrel
    have hpl := hpc.len
    obtain ⟨A9, c9, e9, hc9, hs9⟩ := ownInt hown.out (by simp) (toI_in hpc h14)
    subst e9
    have hcn := fun w h => ints_Contains (i : Int) A9 path.length c9 (toI path) w (by unfold inL; omega) h
    rw [any_isInt] at hcn
    have HS := Lib.hid (And.intro hs9 hlv)
    have HP := Lib.hid (toI_in hpc h14)
    clear hs9 hlv
    cases hany : path.any (fun x => x == i)
    · rw [hany] at hcn
      obtain ⟨m, hlm⟩ : ∃ m, nd[i]? = some m := ⟨_, List.getElem?_eq_getElem (by rw [HH.out.1.len]; exact hin)⟩
      have hnm : ndAt nd i = m := ndAt_at hlm
      have hml := HH.out.2.2.1 m (List.mem_of_getElem? hlm)
      have hmN : ∀ s ∈ m, s < n := fun s hs => HH.out.2.1 i s (by rw [hnm]; exact hs)
      have hpc' := hpc.snoc hin hany
      have hpl' := hpc'.len
      have hcy' : cycC (fun i => negO (outAt O i)) nd (n + 1 - (path ++ [i]).length) (path ++ [i]) ((m.find? fun i => negO (outAt O i)).getD i) = RES := by
        have h1 := hcy.out
        rw [show n + 1 - path.length = (n + 1 - (path ++ [i]).length) + 1 by simp at hpl' ⊢; omega, cycC_step hany, nxtC, hnm] at h1
        exact h1
      have hpl2 : path.length + 1 ≤ n := by simpa using hpl'
      have HC := Lib.hid (And.intro hpc' (And.intro hcy' (And.intro hmN hlm)))
      clear hpc hcy hany hpc' hcy' hmN hlm hnm hpl'
      go_wp2_with (first
        | (go_at_call 46; refine (hcn _ (HS.out.1.now bel)).mono ?_; rintro e w3 ⟨rfl, hb3⟩; obtain ⟨hc3, hf3⟩ := bcell hb3; (try simp only [World.heap_drewN, World.cell?_drewN, World.frozen?_drewN] at hc3 hf3); have hz3 := hb3.size; (try simp at hz3); (try (have hy3 := Nat.lt_of_succ_le hz3)); (try (have hx3 := Nat.lt_of_succ_lt hy3)); (first | refine szz6 w3 wr (by omega) ?_ | refine szz5 w3 wr (by omega) ?_ | refine szz4 w3 wr (by omega) ?_ | refine szz3 w3 wr (by omega) ?_ | refine szz2 w3 wr (by omega) ?_ | refine szz1 w3 wr (by omega) ?_ | refine szz0 w3 wr (by omega) ?_ | refine szzn w3 wr (by omega) ?_ | skip); intros)
        | (at_builtin; refine wpList_append1 rfl _ _ 34 rfl w.heap.size 3 i0 _ 1 8 Try.underlying34 hi hz0 hz1 hz2 rfl (by decide) _ path.length _ rfl (ownsRow_keep hown.out hb3) [.int .i64 (i : Int)] 3 rfl _ rfl (by simp) rfl (by simp [Value.oneCell']) (by omega) (by unfold maxLen; omega) (by have := hbr.size; have := hb3.size; omega) ?_; intro v6 w6 hown6 hb6 hz6 hk6; have hB6 : Below w.heap.size w w6 := below_step (below_step hbr (show Below wr.heap.size wr w3 from bel) hbr.size) hb6 (Nat.le_refl _); obtain ⟨b, o, m', X, C, hAe, hbl, hlm', x0, hmC, hsm⟩ := Is_at (HH.out.1.nowN keeps_RIs hB6) hin; obtain rfl : m' = m := Option.some.inj (hlm'.symm.trans HC.out.2.2.2); subst hAe; have hbl' : b < w6.heap.size := hbl; have HSM := Lib.hid hsm; have HO6 := Lib.hid hown6; have hlv6 : lenOf v6 = path.length + 1 := (by obtain ⟨A6, c6, e6, _⟩ := ownInt (l := toI (path ++ [i])) (by simpa using hown6) (by simp) (toI_in HC.out.1 h14); rw [e6]; rfl); clear hown6 hsm hlm' hbl))
      generalize hwq : w6 = wq at *
      clear hwq
      go_loopw [5, 24] (fun at_ j wr => ∃ j' : Nat, j' ≤ m'.length ∧ j = .int .i64 j' ∧ at_ = .int .i64 i ∧ wr = wq ∧ Hid (∀ x ∈ m'.take j', negO (outAt O x) = false)) (fun _ j _ => m'.length - (intOf j).toNat)
      case atStart => exact ⟨0, by omega, rfl, rfl, rfl, Lib.hid (fun x h => absurd h (by simp))⟩
      case round =>
        obtain ⟨j, hj, rfl, rfl, rfl, hno⟩ := hrel
        by_cases hltj : j < m'.length
        · obtain ⟨b2, o2, s, hX, hb2, hls, y0⟩ := Nat_at HSM.out hltj
          subst hX
          have hb2' : b2 < wr.heap.size := hb2
          have hsn := HC.out.2.2.1 s (List.mem_of_getElem? hls)
          obtain ⟨b4, o4, r, hA4, hb4, hlr, hri, y1⟩ := Int_at (HH.out.2.2.2.1.now hB6) hsn
          subst hA4
          have hb4' : b4 < wr.heap.size := hb4
          have hor : outAt O s = r := outAt_at hlr
          cases hng : negO r
          · have h0 := negO_ge hng
            have HN := Lib.hid (show ∀ x ∈ m'.take (j + 1), negO (outAt O x) = false by
              intro x hx
              rw [List.take_add_one, hls] at hx
              rcases List.mem_append.1 hx with hx | hx
              · exact hno.out x hx
              · simp at hx; rw [hx, hor]; exact hng)
            clear hno hls hb2 hb4 hlr hri hor hng
            go_wp2_with fail
            go_roundw
            case rel => exact ⟨j + 1, by omega, by go_num, by trivial, by trivial, HN⟩
            case measure => simp [intOf]; omega
          · have h0 := negO_lt hng
            have hfd := find_take (bad := fun i => negO (outAt O i)) hno.out hls (by rw [hor]; exact hng)
            have hcy2 := HC.out.2.1
            rw [hfd] at hcy2
            have HCY := Lib.hid hcy2
            clear hno hls hb2 hb4 hlr hri hor hng hfd hcy2
            go_wp2_with fail
            go_roundw
            case rel => exact ⟨path ++ [i], s, rfl, hsn, Lib.hid (by simpa using HO6.out), by simpa using hlv6, HC.out.1, HCY, hB6⟩
            case measure => rw [hlv6]; simp only [HS.out.2]; omega
        · have hje : j = m'.length := by omega
          subst hje
          have hno' := hno.out
          rw [List.take_length] at hno'
          have hfd : (m'.find? fun i => negO (outAt O i)) = none := List.find?_eq_none.2 (fun x hx => by rw [hno' x hx]; decide)
          have hcy2 := HC.out.2.1
          rw [hfd] at hcy2
          have HCY := Lib.hid hcy2
          clear hno hno' hfd hcy2
          go_wp2_with fail
          go_roundw
          case rel => exact ⟨path ++ [i], i, rfl, hin, Lib.hid (by simpa using HO6.out), by simpa using hlv6, HC.out.1, HCY, hB6⟩
          case measure => rw [hlv6]; simp only [HS.out.2]; omega
    · rw [hany] at hcn
      have hix := fun w h => ints_Index (i : Int) A9 path.length c9 (toI path) w (by unfold inL; omega) h
      have hlt := firstAt_any _ path hany
      have hidx : idxOf (isInt i) (toI path) = (firstAt (fun x => x == i) path : Int) := by rw [idxOf, any_isInt, if_pos hany, firstAt_isInt]
      rw [hidx] at hix
      have hr1 := hcy.out
      rw [show n + 1 - path.length = (n - path.length) + 1 by omega, cycC_stop hany] at hr1
      have HR := Lib.hid hr1
      generalize firstAt (fun x => x == i) path = q at *
      clear hcy hany hidx hr1
      go_wp2_with (first
        | (go_at_call 46; refine (hcn _ (HS.out.1.now bel)).mono ?_; rintro e w3 ⟨rfl, hb3⟩; obtain ⟨hc3, hf3⟩ := bcell hb3; (try simp only [World.heap_drewN, World.cell?_drewN, World.frozen?_drewN] at hc3 hf3); have hz3 := hb3.size; (try simp at hz3); (try (have hy3 := Nat.lt_of_succ_le hz3)); (try (have hx3 := Nat.lt_of_succ_lt hy3)); (first | refine szz6 w3 wr (by omega) ?_ | refine szz5 w3 wr (by omega) ?_ | refine szz4 w3 wr (by omega) ?_ | refine szz3 w3 wr (by omega) ?_ | refine szz2 w3 wr (by omega) ?_ | refine szz1 w3 wr (by omega) ?_ | refine szz0 w3 wr (by omega) ?_ | refine szzn w3 wr (by omega) ?_ | skip); intros)
        | (go_at_call 47; refine (hix _ (HS.out.1.now bel)).mono ?_; rintro e w4 ⟨rfl, hb4⟩; obtain ⟨hc4, hf4⟩ := bcell hb4; (try simp only [World.heap_drewN, World.cell?_drewN, World.frozen?_drewN] at hc4 hf4); have hz4 := hb4.size; (try simp at hz4); (try (have hy4 := Nat.lt_of_succ_le hz4)); (try (have hx4 := Nat.lt_of_succ_lt hy4)); (first | refine szz6 w4 wr (by omega) ?_ | refine szz5 w4 wr (by omega) ?_ | refine szz4 w4 wr (by omega) ?_ | refine szz3 w4 wr (by omega) ?_ | refine szz2 w4 wr (by omega) ?_ | refine szz1 w4 wr (by omega) ?_ | refine szz0 w4 wr (by omega) ?_ | refine szzn w4 wr (by omega) ?_ | skip); intros))
      go_ret
      have hB4 : Below wr.heap.size wr w4 := bel
      have hlen : (toI RES).length = path.length - q := by rw [← HR.out, List.length_map, List.length_drop]
      obtain ⟨A8, c8, e8, hc8, hs8⟩ := own_sli hown.out (by simp) HP.out
      cases e8
      obtain ⟨A7, e7, hs7⟩ := ((hs8.keep (w' := w4) (fun b hb => hB4.block b hb.2) (fun _ _ h => h)).mono (S' := fun b => w.heap.size ≤ b ∧ b < w4.heap.size) (fun b hb => ⟨hb.1, Nat.lt_of_lt_of_le hb.2 hB4.size⟩)).cut (k := q) (by omega) hc8
      rw [if_neg (by omega), Nat.mul_one] at e7
      subst e7
      refine ⟨_, c9 - q, by rw [hlen]; rfl, by rw [hlen]; omega, ?_, below_step hbr hB4 hbr.size⟩
      rw [hlen, ← HR.out]
      have e9 : toI (path.drop q) = (toI path).drop q := by simp only [toI, List.map_drop]
      rw [e9]
      exact hs7
end Go.Proofs.Ytgmcojnhpedpnaa
