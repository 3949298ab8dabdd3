/- rank.ranks: the ranks of all fields that can be ranked. -/
import Derived.Test.YtgmcojnhpedpnaaRnk1
import Derived.Deep.OwnRows
namespace Go.Proofs.Ytgmcojnhpedpnaa
open Go.RowKit

/-- Block g holds the numbers O. -/
def IntBlk (w : World) (g : Nat) (O : List Int) : Prop := ∀ j, j < O.length → w.cell? ⟨g, j, none⟩ = some (.int .i64 (outAt O j)) ∧ w.frozen? ⟨g, j, none⟩ = false
theorem IntBlk.below {w w' : World} {g : Nat} {O : List Int} (h : IntBlk w g O) (hb : Below w.heap.size w w') (hg : g < w.heap.size) : IntBlk w' g O := fun j hj =>
  ⟨(hb.cell (p := ⟨g, j, none⟩) hg).trans (h j hj).1, (hb.frozen (p := ⟨g, j, none⟩) hg).trans (h j hj).2⟩
theorem IntBlk.set {w : World} {g i : Nat} {O : List Int} (h : IntBlk w g O) (hi : i < O.length) (v : Int) : IntBlk (w.setCell ⟨g, i, none⟩ (.int .i64 v)) g (O.set i v) := by
  intro j hj
  rw [List.length_set] at hj
  rw [outAt_set _ _ _ _ hi]
  refine ⟨?_, by rw [World.frozen?_setCell]; exact (h j hj).2⟩
  by_cases hij : i = j
  · subst hij
    rw [if_pos rfl]
    exact World.cell?_setCell_same' _ _ _ (by rw [(h i hi).1]; rfl)
  · rw [if_neg hij, World.cell?_setCell_other]
    · exact (h j hj).1
    · intro e
      exact hij (by injection e)
theorem outAt_at {O : List Int} {i : Nat} {v : Int} (h : O[i]? = some v) : outAt O i = v := by unfold outAt; rw [h]; rfl
theorem IntBlk.sl {w : World} {g : Nat} {O : List Int} {S : Nat → Prop} (h : IntBlk w g O) (hg : S g) (hw : ∀ a ∈ O, inI a) : Sl w S 1 RInt (some ⟨g, 0, none⟩) O.length O := by
  refine ⟨rfl, fun hn => ⟨g, 0, rfl, hg, fun i v hv => ⟨[.int .i64 v], ⟨rfl, hw v (List.mem_of_getElem? hv)⟩, rfl, fun j hj => ?_⟩⟩⟩
  obtain rfl : j = 0 := by omega
  have hi := (List.getElem?_eq_some_iff.1 hv).1
  have := (h i hi).1
  rw [outAt_at hv] at this
  simpa using this
/-- The ending with a slice of numbers in new memory. -/
def RetInts (w : World) (O : List Int) (e : Ending) (w' : World) : Prop := ∃ A c, e = .returned (.slice A O.length c) ∧ O.length ≤ c ∧ Sl w' (fun b => w.heap.size ≤ b ∧ b < w'.heap.size) 1 RInt A O.length O ∧ Below w.heap.size w w'
theorem GoodO.bd {nd : List (List Nat)} {N : Nat} (hN : ∀ i, ∀ s ∈ ndAt nd i, s < N) {out : List Int} (h : GoodO nd N out) {i : Nat} (hi : i < N) : -1 ≤ outAt out i ∧ outAt out i < N := by
  rcases h.2 i hi with h1 | ⟨n, k, h1, h2⟩
  · omega
  · have := (rkL_inv (rkL_top hN hi h2)).1
    omega
theorem GoodO.inI {nd : List (List Nat)} {N : Nat} (hN : ∀ i, ∀ s ∈ ndAt nd i, s < N) {out : List Int} (h : GoodO nd N out) (h14 : N ≤ 14) : ∀ a ∈ out, inI a := by
  intro a ha
  obtain ⟨i, hi, e⟩ := List.mem_iff_getElem.1 ha
  have h1 := h.bd hN (i := i) (by rw [← h.1]; exact hi)
  rw [outAt_at (v := a) (by rw [List.getElem?_eq_getElem hi, e])] at h1
  unfold Go.Proofs.Ytgmcojnhpedpnaa.inI
  rw [Lit.wf]
  have e1 : IntKind.i64.min = -9223372036854775808 := by decide
  have e2 : IntKind.i64.max = 9223372036854775807 := by decide
  simp only [e1, e2, Bool.and_eq_true, decide_eq_true_eq]
  omega
theorem maxO_snoc (out : List Int) (l : List Nat) (k : Nat) : maxO out (l ++ [k]) = max (maxO out l) (outAt out k + 1) := by simp [maxO]
theorem mostO_neg {out : List Int} {l : List Nat} {k j : Nat} (h : l[j]? = some k) (hk : outAt out k < 0) : mostO out l = -1 := by
  unfold mostO
  rw [if_pos (List.any_eq_true.2 ⟨k, List.mem_of_getElem? h, by simpa using hk⟩)]
theorem mostO_all {out : List Int} {l : List Nat} (h : ∀ s ∈ l, ¬ outAt out s < 0) : mostO out l = maxO out l := by
  unfold mostO
  rw [if_neg (fun ha => by
    obtain ⟨s, hs, h1⟩ := List.any_eq_true.1 ha
    exact h s hs (by simpa using h1))]
theorem ndAt_at {nd : List (List Nat)} {i : Nat} {m : List Nat} (h : nd[i]? = some m) : ndAt nd i = m := by unfold ndAt; rw [h]; rfl
theorem rep_set (N k : Nat) (hk : k < N) : (List.replicate k (-1 : Int) ++ List.replicate (N - k) 0).set k (-1) = List.replicate (k + 1) (-1) ++ List.replicate (N - (k + 1)) 0 := by
  obtain ⟨m, hm⟩ : ∃ m, N - k = m + 1 := ⟨N - k - 1, by omega⟩
  have hm' : N - (k + 1) = m := by omega
  rw [hm, hm', List.set_append, if_neg (by simp), List.length_replicate, Nat.sub_self, List.replicate_succ, List.set_cons_zero, List.replicate_succ', List.append_assoc]
  rfl

set_option maxRecDepth 100000 in
set_option maxHeartbeats 4000000 in
theorem rank_ranks (nd : List (List Nat)) (L : Option Addr) (n d : Nat) (w : World) (h14 : n ≤ 14) (hN : ∀ i, ∀ s ∈ ndAt nd i, s < n) (hl : Sl w (old w) 1 (RIs w (old w)) L n nd) (hln : ∀ m ∈ nd, m.length ≤ 1048576) :
    Calls Try.prog 24 #[.slice L n d] w (RetInts w (sweepsO nd n n)) := by
  have hmk := fun w => run_make_row' (P := Try.prog) 34 3 (.int .i64 0) 8 Try.underlying34 Try.infoIn9 rfl .i64 .i64 n (by omega) (by omega) w
  have HH := Lib.hid (And.intro hl (And.intro hN hln))
  clear hl hN hln
  go_enter Try.func24, Try.ntmps24
  go_wp2_with fail
  have hb0 : IntBlk (w.alloc (.cells (madeCells #[Value.int .i64 0] n) 3)) w.heap.size (List.replicate 0 (-1) ++ List.replicate (n - 0) 0) := by
    intro j hj
    have hjn : j < n := by simpa using hj
    have e : outAt (List.replicate 0 (-1) ++ List.replicate (n - 0) (0 : Int)) j = 0 := outAt_at (by simp [List.getElem?_replicate, hjn])
    rw [e]
    refine ⟨?_, ?_⟩
    · have h1 := (World.rowIs_made w (.int .i64 0) n 3).cell hjn
      simpa using h1
    · exact (World.rowIs_made w (.int .i64 0) n 3).frozen j
  go_loopw [15] (fun i wr => ∃ k : Nat, k ≤ n ∧ i = .int .i64 k ∧ IntBlk wr w.heap.size (List.replicate k (-1) ++ List.replicate (n - k) 0) ∧ Below w.heap.size w wr ∧ w.heap.size < wr.heap.size) (fun i _ => n - (intOf i).toNat)
  case atStart => exact ⟨0, by omega, rfl, hb0, bel, by simp⟩
  case round =>
    obtain ⟨k, hk, rfl, hO, hbr, hgl⟩ := hrel
    by_cases hlt : k < n
    · have hlen : (List.replicate k (-1 : Int) ++ List.replicate (n - k) 0).length = n := by simp; omega
      have hc := hO k (by omega)
      have c0 := hc.1
      have f0 := hc.2
      have HO := Lib.hid (And.intro hO hlen)
      clear hO hc hlen
      go_wp2_with fail
      go_roundw
      case rel =>
        refine ⟨k + 1, by omega, by go_num, ?_, bel, by simp; omega⟩
        have h1 := HO.out.1.set (i := k) (by rw [HO.out.2]; exact hlt) (-1)
        rw [rep_set n k hlt] at h1
        exact h1
      case measure => simp [intOf]; omega
    · have hkn : k = n := by omega
      subst hkn
      have hO' : IntBlk wr w.heap.size (sweepsO nd k 0) := by simpa [sweepsO] using hO
      clear hO
      go_wp2_with fail
      generalize hwq : wr = wq at *
      clear hwq
      go_loopw [24] (fun i wr => ∃ t : Nat, t ≤ k ∧ i = .int .i64 t ∧ IntBlk wr w.heap.size (sweepsO nd k t) ∧ Below w.heap.size w wr ∧ w.heap.size < wr.heap.size) (fun i _ => k - (intOf i).toNat)
      case atStart => exact ⟨0, by omega, rfl, hO', hbr, hgl⟩
      case round =>
        obtain ⟨t, ht, rfl, hOt, hbt, hgt⟩ := hrel
        by_cases hltt : t < k
        · have HG := Lib.hid (sweepsO_good HH.out.2.1 t).1
          generalize hwt : wr = wt at *
          clear hwt
          go_wp2_with fail
          go_loopw [28] (fun i wr => ∃ i' : Nat, i' ≤ k ∧ i = .int .i64 i' ∧ IntBlk wr w.heap.size (sweepTo nd (sweepsO nd k t) i') ∧ Below w.heap.size w wr ∧ w.heap.size < wr.heap.size) (fun i _ => k - (intOf i).toNat)
          case atStart => exact ⟨0, by omega, rfl, hOt, hbt, hgt⟩
          case round =>
            obtain ⟨i, hik, rfl, hOi, hbi, hgi⟩ := hrel
            by_cases hlti : i < k
            · obtain ⟨b, o, m, X, C, hAe, hbl, hlm, x0, hmC, hsm⟩ := Is_at (HH.out.1.nowN keeps_RIs hbi) hlti
              subst hAe
              have hbl' : b < wr.heap.size := hbl
              have hGi := (sweepTo_good HH.out.2.1 HG.out i hik).1
              have hOl : (sweepTo nd (sweepsO nd k t) i).length = k := hGi.1
              have hst : sweepTo nd (sweepsO nd k t) (i + 1) = (sweepTo nd (sweepsO nd k t) i).set i (max (outAt (sweepTo nd (sweepsO nd k t) i) i) (mostO (sweepTo nd (sweepsO nd k t) i) m)) := by
                show stepO nd _ i = _
                rw [stepO, ndAt_at hlm]
              have hbd := fun j hj => hGi.bd HH.out.2.1 (i := j) hj
              have hml := HH.out.2.2 m (List.mem_of_getElem? hlm)
              have hmN : ∀ s ∈ m, s < k := fun s hs => HH.out.2.1 i s (by rw [ndAt_at hlm]; exact hs)
              generalize sweepTo nd (sweepsO nd k t) i = O at *
              have HO := Lib.hid (And.intro hOi (And.intro hOl (And.intro hst (And.intro hbd (And.intro hmN hsm)))))
              clear hOi hst hbd hmN hsm hlm hGi hbl
              generalize hwi : wr = wi at *
              clear hwi
              go_wp2_with fail
              go_loopw [7, 35] (fun mm j wr => ∃ j' : Nat, j' ≤ m.length ∧ j = .int .i64 j' ∧ mm = .int .i64 (maxO O (m.take j')) ∧ (∀ s ∈ m.take j', ¬ outAt O s < 0) ∧ wr = wi ∧ 0 ≤ maxO O (m.take j') ∧ maxO O (m.take j') ≤ k) (fun _ j _ => m.length - (intOf j).toNat)
              case atStart => exact ⟨0, by omega, rfl, rfl, fun s h => absurd h (by simp), rfl, by simp [maxO], by simp [maxO]⟩
              case round =>
                obtain ⟨j, hj, rfl, rfl, hnn, rfl, hm0, hmk'⟩ := hrel
                by_cases hltj : j < m.length
                · obtain ⟨b2, o2, s, hX, hb2, hls, y0⟩ := Nat_at HO.out.2.2.2.2.2 hltj
                  subst hX
                  have hb2' : b2 < wr.heap.size := hb2
                  have hsk := HO.out.2.2.2.2.1 s (List.mem_of_getElem? hls)
                  have hcs := (HO.out.1 s (by rw [HO.out.2.1]; exact hsk)).1
                  have hbs := HO.out.2.2.2.1 s hsk
                  by_cases hneg : outAt O s < 0
                  · have HM := Lib.hid (mostO_neg hls hneg)
                    have hci := HO.out.1 i (by rw [HO.out.2.1]; exact hlti)
                    have c0 := hci.1
                    have f0 := hci.2
                    have hbi' := HO.out.2.2.2.1 i hlti
                    generalize hoi : outAt O i = vi at *
                    have HOI := Lib.hid hoi
                    clear hnn hls hb2 hci hoi hm0 hmk'
                    go_wp2_with fail
                    go_roundw
                    case rel =>
                      refine ⟨i + 1, by omega, by go_num, ?_, bel, by simp; omega⟩
                      have h1 := HO.out.1.set (i := i) (by rw [HO.out.2.1]; exact hlti) (max (outAt O i) (mostO O m))
                      rw [HOI.out, ← HO.out.2.2.1, HM.out] at h1
                      refine Eq.mp ?_ h1
                      first
                        | (congr 3; done)
                        | (congr 3; split <;> omega)
                    case measure => simp [intOf]; omega
                  · have hwr : IntKind.i64.wrap (outAt O s + 1) = outAt O s + 1 := IntWalk.i64_in _ (by omega)
                    have htk : m.take (j + 1) = m.take j ++ [s] := by rw [List.take_add_one, hls]; rfl
                    have hmx : maxO O (m.take (j + 1)) = max (maxO O (m.take j)) (outAt O s + 1) := by rw [htk, maxO_snoc]
                    have HX := Lib.hid (And.intro hnn (And.intro htk hmx))
                    generalize hoi : outAt O s = vs at *
                    have HOI := Lib.hid hoi
                    generalize maxO O (m.take j) = mx at *
                    clear hnn hls hb2 htk hmx hoi
                    go_wp2_with fail
                    go_roundw
                    case rel =>
                      refine ⟨j + 1, by omega, by go_num, ?_, ?_, by trivial, by rw [HX.out.2.2]; omega, by rw [HX.out.2.2]; omega⟩
                      · rw [HX.out.2.2] <;> first | (congr 1; done) | (congr 1; split <;> omega)
                      · intro x hx
                        rw [HX.out.2.1] at hx
                        rcases List.mem_append.1 hx with hx | hx
                        · exact HX.out.1 x hx
                        · simp at hx
                          rw [hx, HOI.out]
                          exact hneg
                    case measure => simp [intOf]; omega
                · have hje : j = m.length := by omega
                  subst hje
                  rw [List.take_length] at *
                  have HM := Lib.hid (mostO_all hnn)
                  have hci := HO.out.1 i (by rw [HO.out.2.1]; exact hlti)
                  have c0 := hci.1
                  have f0 := hci.2
                  have hbi' := HO.out.2.2.2.1 i hlti
                  generalize hoi : outAt O i = vi at *
                  have HOI := Lib.hid hoi
                  generalize hmo : maxO O m = mx at *
                  have HMO := Lib.hid hmo
                  clear hnn hci hoi hmo
                  go_wp2_with fail
                  go_roundw
                  case rel =>
                    refine ⟨i + 1, by omega, by go_num, ?_, bel, by simp; omega⟩
                    have h1 := HO.out.1.set (i := i) (by rw [HO.out.2.1]; exact hlti) (max (outAt O i) (mostO O m))
                    rw [HOI.out, ← HO.out.2.2.1, HM.out] at h1
                    refine Eq.mp ?_ h1
                    first
                      | (congr 3; done)
                      | (congr 3; split <;> omega)
                  case measure => simp [intOf]; omega
            · have hik' : i = k := by omega
              subst hik'
              have HS := Lib.hid (show IntBlk wr w.heap.size (sweepsO nd i (t + 1)) from hOi)
              clear hOi
              go_wp2_with fail
              go_roundw
              case rel => exact ⟨t + 1, by omega, by go_num, HS.out, hbi, hgi⟩
              case measure => simp [intOf]; omega
        · have htk : t = k := by omega
          subst htk
          have HG := Lib.hid (sweepsO_good HH.out.2.1 t).1
          have HS := Lib.hid hOt
          clear hOt
          go_wp2_with fail
          go_ret
          refine ⟨some ⟨w.heap.size, 0, none⟩, t, by rw [HG.out.1]; rfl, by rw [HG.out.1]; exact Nat.le_refl _, HS.out.sl (S := fun b => w.heap.size ≤ b ∧ b < wr.heap.size) ⟨Nat.le_refl _, hgt⟩ (HG.out.inI HH.out.2.1 h14), hbt⟩
end Go.Proofs.Ytgmcojnhpedpnaa
