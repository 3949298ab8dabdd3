/- Texts merged: Ord1 Ord2 Ord3 Ord4 Ord5 Ord6 Ord7 Ord8. -/
import Derived.Test.YtbhkpepinogigaaGreatRnk7
import Derived.Deep.QuietTactic
import Derived.BigQuiet
import Derived.Test.YtbhkpepinogigaaGreatTypes
/- Fields by their ranks: plain laws; cmp.Compare, the insertion sort and rank.Order. -/
namespace Go.Proofs.YtbhkpepinogigaaGreat
open Go.RowKit

/-- By rank; of one rank, by place. -/
def ltR (O : Nat → Int) (a b : Nat) : Prop := O a < O b ∨ (O a = O b ∧ a < b)
theorem ltR_irr (O : Nat → Int) (a : Nat) : ¬ ltR O a a := fun h => by unfold ltR at h; omega
theorem ltR_tr (O : Nat → Int) (a b c : Nat) (h : ltR O a b) (k : ltR O b c) : ltR O a c := by unfold ltR at *; omega
/-- What insertion makes of one more place (greater than all before). -/
def insAt (l : List Nat) (x j : Nat) : List Nat := l.take j ++ x :: l.drop j
theorem insAt_sorted {O : Nat → Int} {l : List Nat} {x j : Nat} (h : l.Pairwise (ltR O)) (hx : ∀ y ∈ l, y < x) (hhi : ∀ y ∈ l.drop j, O x < O y) (hlo : ∀ y ∈ l.take j, O y ≤ O x) : (insAt l x j).Pairwise (ltR O) := by
  unfold insAt
  have hsp := h
  rw [← List.take_append_drop j l, List.pairwise_append] at hsp
  obtain ⟨p1, p2, p3⟩ := hsp
  rw [List.pairwise_append]
  refine ⟨p1, List.pairwise_cons.2 ⟨fun y hy => .inl (hhi y hy), p2⟩, fun a ha b hb => ?_⟩
  rcases List.mem_cons.1 hb with rfl | hb
  · have h1 := hlo a ha
    have h2 := hx a (List.mem_of_mem_take ha)
    unfold ltR; omega
  · exact p3 a ha b hb
theorem insAt_mem (l : List Nat) (x j y : Nat) : y ∈ insAt l x j ↔ y ∈ l ∨ y = x := by
  unfold insAt
  conv => rhs; rw [← List.take_append_drop j l]
  simp only [List.mem_append, List.mem_cons]
  constructor
  · rintro (h | h | h)
    · exact .inl (.inl h)
    · exact .inr h
    · exact .inl (.inr h)
  · rintro ((h | h) | h)
    · exact .inl h
    · exact .inr (.inr h)
    · exact .inr (.inl h)
/-- One sweep to the left: where x comes to stand. -/
def leftTo (O : Nat → Int) (l : List Nat) (x : Nat) : Nat → Nat
  | 0 => 0
  | j + 1 => if O x < O (l[j]?.getD 0) then leftTo O l x j else j + 1
theorem leftTo_le (O : Nat → Int) (l : List Nat) (x : Nat) : ∀ j, leftTo O l x j ≤ j
  | 0 => Nat.le_refl _
  | j + 1 => by unfold leftTo; split; (have := leftTo_le O l x j; omega); omega
theorem leftTo_hi (O : Nat → Int) (l : List Nat) (x : Nat) : ∀ j i, leftTo O l x j ≤ i → i < j → O x < O (l[i]?.getD 0)
  | 0, i, _, h => absurd h (Nat.not_lt_zero _)
  | j + 1, i, h1, h2 => by
    unfold leftTo at h1
    split at h1
    · rename_i hq
      by_cases he : i = j
      · subst he; exact hq
      · exact leftTo_hi O l x j i h1 (by omega)
    · omega
theorem leftTo_lo (O : Nat → Int) (l : List Nat) (x : Nat) (hs : l.Pairwise (ltR O)) : ∀ j i, j ≤ l.length → i < leftTo O l x j → O (l[i]?.getD 0) ≤ O x
  | 0, i, _, h => absurd h (Nat.not_lt_zero _)
  | j + 1, i, hj, h => by
    unfold leftTo at h
    split at h
    · exact leftTo_lo O l x hs j i (by omega) h
    · rename_i hq
      have hjl : j < l.length := by omega
      rcases Nat.lt_or_ge i j with h1 | h1
      · have hp := List.pairwise_iff_getElem.1 hs i j (by omega) hjl h1
        rw [List.getElem?_eq_getElem hjl] at hq
        rw [List.getElem?_eq_getElem (by omega : i < l.length)]
        simp only [Option.getD_some] at hq ⊢
        unfold ltR at hp
        omega
      · rw [show i = j by omega]; omega
/-- The first k places, sorted. -/
def ordK (O : Nat → Int) : Nat → List Nat
  | 0 => []
  | k + 1 => insAt (ordK O k) k (leftTo O (ordK O k) k (ordK O k).length)
theorem insAt_len (l : List Nat) (x j : Nat) : (insAt l x j).length = l.length + 1 := by unfold insAt; simp; omega
theorem ordK_len (O : Nat → Int) : ∀ k, (ordK O k).length = k
  | 0 => rfl
  | k + 1 => by rw [ordK, insAt_len, ordK_len O k]
theorem ordK_mem (O : Nat → Int) : ∀ k y, y ∈ ordK O k ↔ y < k
  | 0, y => by simp [ordK]
  | k + 1, y => by rw [ordK, insAt_mem, ordK_mem O k y]; omega
theorem ordK_sorted (O : Nat → Int) : ∀ k, (ordK O k).Pairwise (ltR O)
  | 0 => List.Pairwise.nil
  | k + 1 => by
    have h := ordK_sorted O k
    refine insAt_sorted h (fun y hy => (ordK_mem O k y).1 hy) (fun y hy => ?_) (fun y hy => ?_)
    · obtain ⟨i, hi, rfl⟩ := List.mem_iff_getElem.1 hy
      rw [List.length_drop] at hi
      rw [List.getElem_drop]
      have := leftTo_hi O (ordK O k) k (ordK O k).length _ (Nat.le_add_right _ i) (by omega)
      rw [List.getElem?_eq_getElem (by omega)] at this
      exact this
    · obtain ⟨i, hi, rfl⟩ := List.mem_iff_getElem.1 hy
      rw [List.length_take] at hi
      rw [List.getElem_take]
      have := leftTo_lo O (ordK O k) k h (ordK O k).length i (Nat.le_refl _) (by omega)
      rw [List.getElem?_eq_getElem (by omega)] at this
      exact this
/-- The reference's order: rank by rank. -/
def lvlK (O : Nat → Int) (N lev : Nat) : List Nat := (List.range N).filter fun i => O i == (lev : Int)
def lvls (O : Nat → Int) (N : Nat) : Nat → List Nat
  | 0 => []
  | lev + 1 => lvls O N lev ++ lvlK O N lev
theorem lvlK_mem (O : Nat → Int) (N lev y : Nat) : y ∈ lvlK O N lev ↔ y < N ∧ O y = lev := by simp [lvlK]
theorem lvls_mem (O : Nat → Int) (N : Nat) : ∀ L y, y ∈ lvls O N L ↔ y < N ∧ ∃ lev : Nat, lev < L ∧ O y = lev
  | 0, y => by simp [lvls]
  | L + 1, y => by
    rw [lvls, List.mem_append, lvls_mem O N L y, lvlK_mem]
    constructor
    · rintro (⟨h1, lev, h2, h3⟩ | ⟨h1, h2⟩)
      · exact ⟨h1, lev, by omega, h3⟩
      · exact ⟨h1, L, by omega, h2⟩
    · rintro ⟨h1, lev, h2, h3⟩
      by_cases he : lev = L
      · subst he; exact .inr ⟨h1, h3⟩
      · exact .inl ⟨h1, lev, by omega, h3⟩
theorem lvls_sorted (O : Nat → Int) (N : Nat) : ∀ L, (lvls O N L).Pairwise (ltR O)
  | 0 => List.Pairwise.nil
  | L + 1 => by
    rw [lvls, List.pairwise_append]
    refine ⟨lvls_sorted O N L, ?_, fun a ha b hb => ?_⟩
    · have hr : (List.range N).Pairwise (· < ·) := List.pairwise_lt_range
      have hf : (lvlK O N L).Pairwise (· < ·) := hr.filter _
      refine List.Pairwise.imp_of_mem ?_ hf
      intro a b ha hb hab
      have h1 := ((lvlK_mem O N L a).1 ha).2
      have h2 := ((lvlK_mem O N L b).1 hb).2
      exact .inr ⟨by omega, hab⟩
    · obtain ⟨_, lev, h2, h3⟩ := (lvls_mem O N L a).1 ha
      have h4 := ((lvlK_mem O N L b).1 hb).2
      exact .inl (by omega)

theorem ordK_lvls {O : Nat → Int} {N : Nat} (hO : ∀ i, i < N → 0 ≤ O i ∧ O i < N) : ordK O N = lvls O N N := by
  refine sorted_ext (ltR_irr O) (ltR_tr O) _ _ (ordK_sorted O N) (lvls_sorted O N N) fun y => ?_
  rw [ordK_mem, lvls_mem]
  constructor
  · intro h
    have := hO y h
    exact ⟨h, (O y).toNat, by omega, by omega⟩
  · exact fun h => h.1
/-- While x is on its way to the left. -/
def rowJ (O : Nat → Int) (n k j : Nat) : List Nat := insAt (ordK O k) k j ++ List.range' (k + 1) (n - (k + 1))
theorem rowJ_len (O : Nat → Int) {n k j : Nat} (hk : k < n) : (rowJ O n k j).length = n := by
  unfold rowJ
  rw [List.length_append, insAt_len, ordK_len, List.length_range']
  omega
theorem rowJ_at (O : Nat → Int) {n k j : Nat} (hk : k < n) (hj : j ≤ k) : (rowJ O n k j)[j]? = some k := by
  unfold rowJ
  have hl := ordK_len O k
  rw [List.getElem?_append_left (by rw [insAt_len]; omega), insAt, List.getElem?_append_right (by rw [List.length_take]; omega), List.length_take]
  rw [show j - min j (ordK O k).length = 0 by omega]
  rfl
theorem rowJ_left (O : Nat → Int) {n k j : Nat} (hk : k < n) (hj : j < k) : (rowJ O n k (j + 1))[j]? = some ((ordK O k)[j]?.getD 0) := by
  unfold rowJ
  have hl := ordK_len O k
  have hjl : j < (ordK O k).length := by omega
  rw [List.getElem?_append_left (by rw [insAt_len]; omega), insAt, List.getElem?_append_left (by rw [List.length_take]; omega), List.getElem?_take, if_pos (by omega), List.getElem?_eq_getElem hjl]
  rfl
theorem rowJ_swap (O : Nat → Int) {n k j : Nat} (hk : k < n) (hj : j < k) : ((rowJ O n k (j + 1)).set (j + 1) ((ordK O k)[j]?.getD 0)).set j k = rowJ O n k j := by
  have hl := ordK_len O k
  have hjl : j < (ordK O k).length := by omega
  unfold rowJ insAt
  generalize List.range' (k + 1) (n - (k + 1)) = R
  generalize ordK O k = l at *
  rw [List.getElem?_eq_getElem hjl, Option.getD_some]
  have e1 : l.take (j + 1) = l.take j ++ [l[j]] := by rw [List.take_add_one, List.getElem?_eq_getElem hjl]; rfl
  have e2 : l.drop j = l[j] :: l.drop (j + 1) := List.drop_eq_getElem_cons hjl
  rw [e1, e2]
  have hlt : (l.take j).length = j := by rw [List.length_take]; omega
  generalize l.take j = a at *
  generalize l.drop (j + 1) = d
  generalize l[j] = y
  subst hlt
  simp [List.set_append]
theorem rowJ_swap' (O : Nat → Int) {n k j : Nat} (hk : k < n) (hj : j < k) : ((rowJ O n k (j + 1)).set j k).set (j + 1) ((ordK O k)[j]?.getD 0) = rowJ O n k j := by
  rw [List.set_comm _ _ (by omega)]
  exact rowJ_swap O hk hj
theorem rowJ_start (O : Nat → Int) {n k : Nat} (hk : k < n) : ordK O k ++ List.range' k (n - k) = rowJ O n k k := by
  unfold rowJ insAt
  have hl := ordK_len O k
  rw [List.take_of_length_le (by omega), List.drop_eq_nil_of_le (by omega), List.append_assoc]
  congr 1
  rw [show n - k = (n - (k + 1)) + 1 by omega, List.range'_succ]
  rfl
theorem rowJ_end (O : Nat → Int) {n k : Nat} : rowJ O n k (leftTo O (ordK O k) k k) = ordK O (k + 1) ++ List.range' (k + 1) (n - (k + 1)) := by
  unfold rowJ
  rw [ordK, ordK_len]
theorem leftTo_step {O : Nat → Int} {l : List Nat} {x j : Nat} (h : O x < O (l[j]?.getD 0)) : leftTo O l x (j + 1) = leftTo O l x j := by rw [leftTo, if_pos h]
theorem leftTo_stop {O : Nat → Int} {l : List Nat} {x j : Nat} (h : ¬ O x < O (l[j]?.getD 0)) : leftTo O l x (j + 1) = j + 1 := by rw [leftTo, if_neg h]

def cmpI (x y : Int) : Int := if x < y then -1 else if y < x then 1 else 0
set_option maxHeartbeats 1000000 in
theorem cmp_Compare (x y : Int) (w : World) : Calls Tryz.prog 56 #[.int .i64 x, .int .i64 y] w fun e w' => e = .returned (.int .i64 (cmpI x y)) ∧ ∃ k, w' = w.drewN k := by
  have g1 : (x != x) = false := by simp
  have g2 : (y != y) = false := by simp
  rcases Int.lt_trichotomy x y with h | h | h
  · have hr : cmpI x y = -1 := by rw [cmpI, if_pos h]
    rw [hr]
    clear hr
    go_enter Tryz.func56, Tryz.ntmps56
    go_wp2
    go_ret
    exact ⟨rfl, 0, rfl⟩
  · subst h
    have hr : cmpI x x = 0 := by rw [cmpI, if_neg (by omega), if_neg (by omega)]
    rw [hr]
    have h1 : ¬ x < x := by omega
    clear hr
    go_enter Tryz.func56, Tryz.ntmps56
    go_wp2
    go_ret
    exact ⟨rfl, 0, rfl⟩
  · have hr : cmpI x y = 1 := by rw [cmpI, if_neg (by omega), if_pos h]
    rw [hr]
    have h1 : ¬ x < y := by omega
    clear hr
    go_enter Tryz.func56, Tryz.ntmps56
    go_wp2
    go_ret
    exact ⟨rfl, 0, rfl⟩
set_option maxRecDepth 100000 in
set_option maxHeartbeats 1000000 in
theorem rank_Order1 (O : List Int) (A : Option Addr) (n c g a b : Nat) (w : World) (ha : a < n) (hb : b < n) (hg : w.cell? ⟨g, 0, none⟩ = some (.slice A n c)) (h : Sl w (old w) 1 RInt A n O) :
    Calls Tryz.prog 55 #[.int .i64 a, .int .i64 b, .pointer (some ⟨g, 0, none⟩)] w fun e w' => e = .returned (.int .i64 (cmpI (outAt O a) (outAt O b))) ∧ ∃ k, w' = w.drewN k := by
  obtain ⟨bk, o, x, rfl, hbl, hl, _, h0⟩ := Int_at h ha
  obtain ⟨bk', o', x', e', hbl', hl', _, h0'⟩ := Int_at h hb
  cases e'
  have hc := fun w => cmp_Compare x x' w
  rw [outAt_at hl, outAt_at hl']
  have hgl := block_lt_of_cell hg
  simp only at hgl
  have hbl2 : bk < w.heap.size := hbl
  clear hl hl' hbl hbl' h
  go_enter Tryz.func55, Tryz.ntmps55
  go_wp2_with fail
  go_quiet ((go_at_call 56; refine Calls.quiet_of (hc _)))
  go_wp2_with fail
  go_ret
  exact ⟨rfl, _, rfl⟩
end Go.Proofs.YtbhkpepinogigaaGreat
/- slices.SortStableFunc at up to 20 ints by their ranks; rank.Order. -/
namespace Go.Proofs.YtbhkpepinogigaaGreat
open Go.RowKit

theorem IntBlk.of_own {w : World} {base : Nat} {e : TypeId} {g n cap : Nat} {O : List Int} (h : w.ownsRow base e 1 (.slice (some ⟨g, 0, none⟩) n cap) n (O.flatMap intCs)) (hn : 0 < n) : IntBlk w g O ∧ base ≤ g ∧ g < w.heap.size ∧ n ≤ cap ∧ O.length = n := by
  have hl : O.length = n := by
    have h1 := h.1
    rw [flat_len intCs 1 (fun _ => rfl)] at h1
    omega
  rcases h.2 with ⟨_, h0⟩ | ⟨g', cap', cur, hv, hbg, hgg, hnc, hcm, hcs, hxs⟩
  · omega
  · cases hv
    refine ⟨fun j hj => ?_, hbg, (Array.getElem?_eq_some_iff.1 hgg).1, hnc, hl⟩
    have hc := h.cells (g := g) rfl j (.int .i64 (outAt O j)) (by
      have := flat_at intCs 1 (fun _ => rfl) O j 0 (outAt O j) (by rw [List.getElem?_eq_getElem hj]; exact congrArg some (outAt_at (List.getElem?_eq_getElem hj)).symm) (by omega)
      simpa using this)
    rw [Addr.add_lit, Nat.zero_add] at hc
    refine ⟨hc, ?_⟩
    simp [World.frozen?, hgg]
theorem cmpI_neg {x y : Int} : cmpI x y < 0 ↔ x < y := by
  unfold cmpI
  split
  · simp; omega
  · split <;> simp <;> omega
theorem toI_set (l : List Nat) (j v : Nat) : toI (l.set j v) = (toI l).set j (v : Int) := by simp [toI, List.map_set]
theorem outAt_toI {l : List Nat} {j v : Nat} (h : l[j]? = some v) : outAt (toI l) j = (v : Int) := outAt_at (by simp [toI, h])
set_option maxRecDepth 100000 in
set_option maxHeartbeats 4000000 in
theorem insertion_sort (O : List Int) (n gd cd gb B : Nat) (w : World) (h20 : n ≤ 1000) (h0 : 0 < n) (hD : IntBlk w gd (toI (List.range n))) (hgd : gd < w.heap.size) (hB : B ≤ gd)
    (hT : ∀ w', Below B w w' → ∀ a b : Nat, a < n → b < n → Calls Tryz.prog 55 #[.int .i64 a, .int .i64 b, .pointer (some ⟨gb, 0, none⟩)] w' fun e w2 => e = .returned (.int .i64 (cmpI (outAt O a) (outAt O b))) ∧ ∃ k, w2 = w'.drewN k) :
    Calls Tryz.prog 169 #[.slice (some ⟨gd, 0, none⟩) n cd, .int .i64 0, .int .i64 n, .func (.func 55) #[] #[.pointer (some ⟨gb, 0, none⟩)]] w fun e w' => e = .returned (.tuple #[]) ∧ IntBlk w' gd (toI (ordK (outAt O) n)) ∧ Below B w w' ∧ gd < w'.heap.size := by
  have HT := Lib.hid hT
  clear hT
  go_enter Tryz.func169, Tryz.ntmps169
  go_wp2_with fail
  go_loopw [8] (fun i wr => ∃ k : Nat, 1 ≤ k ∧ k ≤ n ∧ i = .int .i64 k ∧ Hid (IntBlk wr gd (toI (ordK (outAt O) k ++ List.range' k (n - k)))) ∧ Below B w wr ∧ gd < wr.heap.size) (fun i _ => n + 1 - (intOf i).toNat)
  case atStart =>
    refine ⟨1, Nat.le_refl _, by omega, rfl, Lib.hid ?_, Below.refl _ _, hgd⟩
    have e : ordK (outAt O) 1 ++ List.range' 1 (n - 1) = List.range n := by
      rw [List.range_eq_range', show n = (n - 1) + 1 by omega, List.range'_succ]
      rfl
    rw [e]
    exact hD
  case round =>
    obtain ⟨k, hk1, hkn, rfl, hbk, hbr, hgr⟩ := hrel
    by_cases hlt : k < n
    · have HK := Lib.hid (show IntBlk wr gd (toI (rowJ (outAt O) n k k)) by rw [← rowJ_start (outAt O) hlt]; exact hbk.out)
      clear hbk
      go_wp2_with fail
      generalize hwq : wr = wq at *
      clear hwq
      go_loopw [9] (fun j wr => ∃ j' : Nat, j' ≤ k ∧ j = .int .i64 j' ∧ Hid (IntBlk wr gd (toI (rowJ (outAt O) n k j'))) ∧ Hid (leftTo (outAt O) (ordK (outAt O) k) k k = leftTo (outAt O) (ordK (outAt O) k) k j') ∧ Below B w wr ∧ gd < wr.heap.size) (fun j _ => (intOf j).toNat)
      case atStart => exact ⟨k, Nat.le_refl _, rfl, HK, Lib.hid rfl, hbr, hgr⟩
      case round =>
        obtain ⟨j, hj, rfl, hbj, hlf, hbj2, hgj⟩ := hrel
        rcases j with _ | j
        · have HE := Lib.hid (show IntBlk wr gd (toI (ordK (outAt O) (k + 1) ++ List.range' (k + 1) (n - (k + 1)))) by
            rw [← rowJ_end, hlf.out]
            exact hbj.out)
          clear hbj hlf
          go_wp2_with fail
          go_quiet (fail)
          go_wp2_with fail
          go_roundw
          case rel => exact ⟨k + 1, by omega, by omega, by go_num, Lib.hid (fun j hj => by simpa using HE.out j hj), below_drewN hbj2 _, by simpa using hgj⟩
          case measure => simp [intOf]; omega
        · have hjk : j < k := by omega
          have hln := rowJ_len (outAt O) (j := j + 1) hlt
          have q1 := (hbj.out (j + 1) (by simp [hln]; omega))
          have q0 := (hbj.out j (by simp [hln]; omega))
          rw [outAt_toI (rowJ_at (outAt O) hlt hj)] at q1
          rw [outAt_toI (rowJ_left (outAt O) hlt hjk)] at q0
          obtain ⟨y, hy⟩ : ∃ y, y = (ordK (outAt O) k)[j]?.getD 0 := ⟨_, rfl⟩
          have hyn : y < n := by
            have hm : j < (ordK (outAt O) k).length := by rw [ordK_len]; exact hjk
            rw [hy, List.getElem?_eq_getElem hm, Option.getD_some]
            have := (ordK_mem (outAt O) k _).1 (List.getElem_mem hm)
            omega
          rw [← hy] at q0
          have HY := Lib.hid hy
          clear hy
          obtain ⟨c1, f1⟩ := q1
          obtain ⟨c0, f0⟩ := q0
          have hjn : j + 1 < n := by omega
          have hjn2 : j < n := by omega
          have hjn' : ((j : Int) + 1) < (n : Int) := by omega
          have hjn3 : (((j + 1 : Nat)) : Int) < (n : Int) := by omega
          have h00 : (0 : Int) ≤ (j : Int) + 1 := by omega
          have h01 : (0 : Int) < (j : Int) + 1 := by omega
          have hw1 : IntKind.i64.wrap (j : Int) = j := IntWalk.i64_in _ (by omega)
          have hj0 : (0 : Int) ≤ (j : Int) := by omega
          have hjn4 : (j : Int) < (n : Int) := by omega
          have hcl := fun m => HT.out (wr.drewN m) (below_drewN hbj2 m) k y hlt hyn
          by_cases hcm : outAt O k < outAt O y
          · have hci : cmpI (outAt O k) (outAt O y) = -1 := by rw [cmpI, if_pos hcm]
            rw [hci] at hcl
            have HL := Lib.hid (hlf.out.trans (leftTo_step (by rw [← HY.out]; exact hcm)))
            clear hlf hcm hci
            go_wp2_with fail
            go_quiet ((go_at_call 55; refine Calls.quiet_of (hcl _)))
            go_wp2_with fail
            go_region
            go_wp2_with fail
            go_roundw
            case rel =>
              have hb1 : IntBlk (wr.drewN (nq + 1)) gd (toI (rowJ (outAt O) n k (j + 1))) := fun j hj => by simpa using hbj.out j hj
              have hb2 := (hb1.set (i := j + 1) (by simp [hln]; omega) (y : Int)).set (i := j) (by simp [hln]; omega) (k : Int)
              rw [← toI_set, ← toI_set, HY.out, rowJ_swap (outAt O) hlt hjk, ← HY.out] at hb2
              exact ⟨j, by omega, by go_num, Lib.hid hb2, HL, below_set (below_set (below_drewN hbj2 _) hB) hB, by simpa using hgj⟩
            case measure => simp [intOf]
          · have hci : ¬ cmpI (outAt O k) (outAt O y) < 0 := by rw [cmpI_neg]; exact hcm
            have HE := Lib.hid (show IntBlk wr gd (toI (ordK (outAt O) (k + 1) ++ List.range' (k + 1) (n - (k + 1)))) by
              rw [← rowJ_end, hlf.out, leftTo_stop (by rw [← HY.out]; exact hcm)]
              exact hbj.out)
            clear hlf hcm
            go_wp2_with fail
            go_quiet ((go_at_call 55; refine Calls.quiet_of (hcl _)))
            go_wp2_with fail
            go_roundw
            case rel => exact ⟨k + 1, by omega, by omega, by go_num, Lib.hid (fun j hj => by simpa using HE.out j hj), below_drewN hbj2 _, by simpa using hgj⟩
            case measure => simp [intOf]; omega
    · have hkn : k = n := by omega
      subst hkn
      have HE := Lib.hid (show IntBlk wr gd (toI (ordK (outAt O) k)) by have := hbk.out; rw [Nat.sub_self, List.range'_zero, List.append_nil] at this; exact this)
      clear hbk
      go_wp2_with fail
      go_end0
      exact ⟨rfl, HE.out, hbr, hgr⟩
set_option maxRecDepth 100000 in
set_option maxHeartbeats 2000000 in
theorem stable_sort (O : List Int) (n gd cd gb B : Nat) (w : World) (h14 : n ≤ 14) (h0 : 0 < n) (hD : IntBlk w gd (toI (List.range n))) (hgd : gd < w.heap.size) (hB : B ≤ gd)
    (hT : ∀ w', Below B w w' → ∀ a b : Nat, a < n → b < n → Calls Tryz.prog 55 #[.int .i64 a, .int .i64 b, .pointer (some ⟨gb, 0, none⟩)] w' fun e w2 => e = .returned (.int .i64 (cmpI (outAt O a) (outAt O b))) ∧ ∃ k, w2 = w'.drewN k) :
    Calls Tryz.prog 121 #[.slice (some ⟨gd, 0, none⟩) n cd, .int .i64 n, .func (.func 55) #[] #[.pointer (some ⟨gb, 0, none⟩)]] w fun e w' => e = .returned (.tuple #[]) ∧ IntBlk w' gd (toI (ordK (outAt O) n)) ∧ Below B w w' ∧ gd < w'.heap.size := by
  have hs := insertion_sort O n gd cd gb B w (by omega) h0 hD hgd hB hT
  have hn20 : ¬ (20 : Int) ≤ (n : Int) := by omega
  have hn21 : ¬ (20 : Int) < (n : Int) := by omega
  clear hD hT
  go_enter Tryz.func121, Tryz.ntmps121
  go_wp2_with fail
  go_loopw [7, 8] (fun a b wr => a = .int .i64 0 ∧ b = .int .i64 20 ∧ wr = w) (fun _ _ _ => 0)
  case atStart => exact ⟨rfl, rfl, rfl⟩
  case round =>
    obtain ⟨rfl, rfl, rfl⟩ := hrel
    go_wp2_with fail
    refine hs.mono ?_; rintro e w1 ⟨rfl, hd1, hb1, hg1⟩
    have HD := Lib.hid hd1
    clear hd1
    go_wp2_with fail
    go_loopw [6] (fun b wr => b = .int .i64 20 ∧ wr = w1) (fun _ _ => 0)
    case atStart => exact ⟨rfl, rfl⟩
    case round =>
      obtain ⟨rfl, rfl⟩ := hrel
      go_wp2_with fail
      go_end0
      exact ⟨rfl, HD.out, hb1, hg1⟩
set_option maxRecDepth 100000 in
set_option maxHeartbeats 1000000 in
theorem SortStable (O : List Int) (n gd cd gb B : Nat) (w : World) (h14 : n ≤ 14) (h0 : 0 < n) (hD : IntBlk w gd (toI (List.range n))) (hgd : gd < w.heap.size) (hB : B ≤ gd)
    (hT : ∀ w', Below B w w' → ∀ a b : Nat, a < n → b < n → Calls Tryz.prog 55 #[.int .i64 a, .int .i64 b, .pointer (some ⟨gb, 0, none⟩)] w' fun e w2 => e = .returned (.int .i64 (cmpI (outAt O a) (outAt O b))) ∧ ∃ k, w2 = w'.drewN k) :
    Calls Tryz.prog 54 #[.slice (some ⟨gd, 0, none⟩) n cd, .func (.func 55) #[] #[.pointer (some ⟨gb, 0, none⟩)]] w fun e w' => e = .returned (.tuple #[]) ∧ IntBlk w' gd (toI (ordK (outAt O) n)) ∧ Below B w w' ∧ gd < w'.heap.size := by
  have hs := stable_sort O n gd cd gb B w h14 h0 hD hgd hB hT
  clear hD hT
  go_enter Tryz.func54, Tryz.ntmps54
  go_wp2_with fail
  refine hs.mono ?_; rintro e w1 ⟨rfl, hd1, hb1, hg1⟩
  have HD := Lib.hid hd1
  clear hd1
  go_wp2_with fail
  go_end0
  exact ⟨rfl, HD.out, hb1, hg1⟩
/-- Of nothing. -/
theorem stable_none (f : Value) (w : World) : Calls Tryz.prog 54 #[.slice none 0 0, f] w fun e w' => e = .returned (.tuple #[]) ∧ Below w.heap.size w w' := by
  have h1 : Calls Tryz.prog 169 #[.slice none 0 0, .int .i64 0, .int .i64 0, f] w fun e w' => e = .returned (.tuple #[]) ∧ Below w.heap.size w w' := by
    go_enter Tryz.func169, Tryz.ntmps169
    go_wp2_with fail
    go_loopw [8] (fun b wr => b = .int .i64 1 ∧ wr = w) (fun _ _ => 0)
    case atStart => exact ⟨rfl, rfl⟩
    case round =>
      obtain ⟨rfl, rfl⟩ := hrel
      go_wp2_with fail
      go_end0
      exact ⟨rfl, Below.refl _ _⟩
  have h2 : Calls Tryz.prog 121 #[.slice none 0 0, .int .i64 0, f] w fun e w' => e = .returned (.tuple #[]) ∧ Below w.heap.size w w' := by
    go_enter Tryz.func121, Tryz.ntmps121
    go_wp2_with fail
    go_loopw [7, 8] (fun a b wr => a = .int .i64 0 ∧ b = .int .i64 20 ∧ wr = w) (fun _ _ _ => 0)
    case atStart => exact ⟨rfl, rfl, rfl⟩
    case round =>
      obtain ⟨rfl, rfl, rfl⟩ := hrel
      go_wp2_with fail
      refine h1.mono ?_; rintro e w1 ⟨rfl, hb1⟩
      go_wp2_with fail
      go_loopw [6] (fun b wr => b = .int .i64 20 ∧ wr = w1) (fun _ _ => 0)
      case atStart => exact ⟨rfl, rfl⟩
      case round =>
        obtain ⟨rfl, rfl⟩ := hrel
        go_wp2_with fail
        go_end0
        exact ⟨rfl, hb1⟩
  go_enter Tryz.func54, Tryz.ntmps54
  go_wp2_with fail
  refine h2.mono ?_; rintro e w1 ⟨rfl, hb1⟩
  go_wp2_with fail
  go_end0
  exact ⟨rfl, hb1⟩
end Go.Proofs.YtbhkpepinogigaaGreat
/- rank.Order: the places of fields by their ranks. -/
namespace Go.Proofs.YtbhkpepinogigaaGreat
open Go.RowKit

theorem toI_range_len (n : Nat) : (toI (List.range n)).length = n := by simp [toI]
/-- What rank.Order answers. -/
def ordF (F : List Fld) : List Nat := ordK (outAt (rankO F)) F.length
def orderR (F : List Fld) : List Int × Int := if (rankR F).2.2 = 0 then (toI (ordF F), 0) else ([], (rankR F).2.2)
/-- The ending with numbers in new memory and an error's number. -/
def RetIntsC (w : World) (r : List Int × Int) (e : Ending) (w' : World) : Prop :=
  ∃ A c, e = .returned (.tuple #[.slice A r.1.length c, .int .i64 r.2]) ∧ r.1.length ≤ c ∧ Sl w' (fun b => w.heap.size ≤ b ∧ b < w'.heap.size) 1 RInt A r.1.length r.1 ∧ Below w.heap.size w w'
theorem rankR_zero {F : List Fld} (h : (rankR F).2.2 = 0) : fieldsErr F = 0 ∧ rankR F = (rankO F, [], 0) := by
  unfold rankR at h ⊢
  by_cases he : fieldsErr F = 0
  · refine ⟨he, ?_⟩
    rw [if_neg (by simpa using he)] at h ⊢
    cases ha : (rankO F).any negO
    · rw [if_neg (by decide)]
    · rw [ha, if_pos rfl] at h; cases h
  · rw [if_pos he] at h; exact absurd h he

theorem own_form9 {w : World} {base : Nat} {e : TypeId} {size : Nat} {v : Value} {n : Nat} {xs : List Value} (h : w.ownsRow base e size v n xs) (hn : 0 < n) : ∃ g cap, v = .slice (some ⟨g, 0, none⟩) n cap := by
  rcases h.2 with ⟨_, h0⟩ | ⟨g, cap, cur, rfl, _⟩
  · omega
  · exact ⟨g, cap, rfl⟩
set_option maxRecDepth 100000 in
set_option maxHeartbeats 4000000 in
theorem rank_Order (l : List Fld) (L : Option Addr) (n d : Nat) (w : World) (hn : inB 112 n) (hnd : n ≤ d) (hl : Sl w (old w) 9 (RFld w (old w)) L n l) (hN : ∀ f ∈ l, f.source.nodes ≤ 1048576) (hst : ∀ f ∈ l, inS f.name ∧ ∀ s ∈ askN f.source, inS s) :
    Calls Tryz.prog 14 #[.slice L n d] w (RetIntsC w (orderR l)) := by
  have hof := fun w h => rank_Of l L n d w hn hnd h hN hst
  have HL := Lib.hid (And.intro hl hl.len)
  by_cases he : (rankR l).2.2 = 0
  · obtain ⟨hfe, hr⟩ := rankR_zero he
    have h14 : n ≤ 14 := by rw [← hl.len]; exact (fieldsErr_all hfe).1
    have hro : orderR l = (toI (ordF l), 0) := by rw [orderR, if_pos he]
    have hlo : (rankO l).length = n := by rw [(rankO_any hfe).1]; exact hl.len
    have hof' : ∀ w, Sl w (old w) 9 (RFld w (old w)) L n l → Calls Tryz.prog 53 #[.slice L n d] w (fun e w' => ∃ A c B d, e = .returned (.tuple #[.slice A n c, .slice B 0 d, .int .i64 0]) ∧ Sl w' (fresh w w') 1 RInt A n (rankO l) ∧ Below w.heap.size w w') := fun w h => (hof w h).mono (fun e w' q => by
      rw [hr] at q
      obtain ⟨A, c, B, d, q1, q2, q3, q4, q5, q6⟩ := q
      exact ⟨A, c, B, d, by rw [q1, show ((rankO l, ([] : List ByteArray), (0 : Int)).1).length = n from hlo]; rfl, by rw [show ((rankO l, ([] : List ByteArray), (0 : Int)).1).length = n from hlo] at q4; exact q4, q6⟩)
    have hol : ordF l = ordK (outAt (rankO l)) n := by unfold ordF; rw [hl.len]
    rw [hro]
    obtain ⟨i0, ei, ez0, ez1, ez2⟩ := info_parts Tryz.infoIn9
    have HO := Lib.hid (And.intro hol hlo)
    clear hof hl he hr hro hn hnd hN hst hfe hol hlo
    generalize rankO l = O at *
    generalize ordF l = od at *
    go_enter Tryz.func14, Tryz.ntmps14
    go_wp2_with fail
    refine (hof' _ (HL.out.1.nowN keeps_Fld bel)).mono ?_; rintro e w1 ⟨A1, c1, B1, d1, rfl, hs1, hb1⟩; obtain ⟨hc1, hf1⟩ := bcell hb1; (try simp only [World.heap_drewN, World.cell?_drewN, World.frozen?_drewN] at hc1 hf1); have hz1 := hb1.size; (try simp at hz1); (try (have hy1 := Nat.lt_of_succ_le hz1)); (try (have hx1 := Nat.lt_of_succ_lt hy1)); refine szz w1 w ?_; intros
    have HS1 := Lib.hid hs1
    clear hs1
    go_wp2_with fail
    have hg0 : (w1.alloc (.cells #[.slice A1 n c1] 23)).cell? ⟨w1.heap.size, 0, none⟩ = some (.slice A1 n c1) := by go_simp
    have hB0 : Below w1.heap.size w1 (w1.alloc (.cells #[.slice A1 n c1] 23)) := bel
    have hz0 : (w1.alloc (.cells #[.slice A1 n c1] 23)).heap.size = w1.heap.size + 1 := by simp
    generalize hW : w1.alloc (.cells #[.slice A1 n c1] 23) = W1 at *
    clear hW
    have hB1 : Below w.heap.size w w1 := hb1
    go_loopw [7, 20] (fun v i wr => ∃ k : Nat, k ≤ n ∧ i = .int .i64 k ∧ Hid (wr.ownsRow W1.heap.size 3 1 v k ((toI (List.range k)).flatMap intCs)) ∧ (k = 0 → v = .slice none 0 0) ∧ Below W1.heap.size W1 wr) (fun _ i _ => n - (intOf i).toNat)
    case atStart => exact ⟨0, by omega, rfl, Lib.hid (by simpa using World.ownsRow_nil _ _ _ _), fun _ => rfl, Below.refl _ _⟩
    case round =>
      obtain ⟨k, hk, rfl, hown, hnil, hbr⟩ := hrel
      by_cases hlt : k < n
      · go_wp2_with (at_builtin; refine wpList_append1 rfl _ _ 23 rfl W1.heap.size 3 i0 (.int .i64 0) 1 8 Tryz.underlying23 ei ez0 ez1 ez2 rfl (by decide) _ k _ rfl hown.out [.int .i64 (k : Int)] 3 rfl _ rfl rfl rfl (by simp [Value.oneCell']) (by omega) (by unfold maxLen; omega) (by have := hbr.size; omega) ?_; intro v6 w6 hown6 hb6 hz6 _)
        go_roundw
        case rel =>
          refine ⟨k + 1, by omega, by go_num, Lib.hid ?_, fun h => absurd h (by omega), below_step hbr hb6 (Nat.le_refl _)⟩
          rw [List.range_succ, toI, List.map_append, List.flatMap_append]
          simpa [toI] using hown6
        case measure => simp [intOf]; omega
      · have hke : k = n := by omega
        subst hke
        have hBr : Below w.heap.size w wr := below_step (below_step hB1 hB0 hB1.size) hbr (by have := hB1.size; omega)
        have hgl : w1.heap.size < wr.heap.size := by have := hbr.size; omega
        have hgr : wr.cell? ⟨w1.heap.size, 0, none⟩ = some (.slice A1 k c1) := (hbr.cell (p := ⟨w1.heap.size, 0, none⟩) (by simp; omega)).trans hg0
        have hB1r : Below w1.heap.size w1 wr := below_step hB0 hbr (by omega)
        have hsl : Sl wr (fun b => b < W1.heap.size) 1 RInt A1 k O := (HS1.out.keep (w' := wr) (fun b hb => hB1r.block b hb.2) (fun _ _ h => h)).mono (fun b hb => by have := hb.2; omega)
        rcases Nat.eq_zero_or_pos k with h0 | h0
        · subst h0
          have hv := hnil rfl
          subst hv
          have hol : toI od = [] := by rw [HO.out.1]; rfl
          have HI := Lib.hid hol
          clear hnil hsl hol
          go_wp2_with fail
          refine (stable_none _ _).mono ?_; rintro e w8 ⟨rfl, hb8⟩
          have hB8 : Below w.heap.size w w8 := below_step hBr hb8 (by have := hB1.size; omega)
          go_wp2_with fail
          go_ret2
          rw [HI.out]
          exact ⟨none, 0, rfl, Nat.le_refl _, Sl.nil, hB8⟩
        · obtain ⟨g9, c9, e9⟩ := own_form9 hown.out h0
          subst e9
          obtain ⟨hD, hgB, hgw, hc9, _⟩ := IntBlk.of_own hown.out h0
          have hT : ∀ w', Below W1.heap.size wr w' → ∀ a b : Nat, a < k → b < k → Calls Tryz.prog 55 #[.int .i64 a, .int .i64 b, .pointer (some ⟨w1.heap.size, 0, none⟩)] w' fun e w2 => e = .returned (.int .i64 (cmpI (outAt O a) (outAt O b))) ∧ ∃ k, w2 = w'.drewN k := by
            intro w' hb' a b ha hb
            refine rank_Order1 O A1 k c1 w1.heap.size a b w' ha hb ((hb'.cell (p := ⟨w1.heap.size, 0, none⟩) (by simp; omega)).trans hgr) ?_
            exact (hsl.keep (w' := w') (fun b hb => hb'.block b hb) (fun _ _ h => h)).mono (fun b hb => by have h1 := hb'.size; have h2 := hbr.size; exact Nat.lt_of_lt_of_le hb (Nat.le_trans h2 h1))
          have hss := SortStable O k g9 c9 w1.heap.size W1.heap.size wr h14 h0 hD hgw hgB hT
          have HHg := Lib.hid hgB
          clear hT hsl hD
          go_wp2_with fail
          refine hss.mono ?_; rintro e w8 ⟨rfl, hd8, hb8, hg8⟩
          have hB8 : Below w.heap.size w w8 := below_step hBr hb8 (by have := hB1.size; omega)
          rw [← HO.out.1] at hd8
          have hol : (toI od).length = k := by rw [HO.out.1, List.length_map, ordK_len]
          have HD := Lib.hid hd8
          have hin : ∀ a ∈ toI od, inI a := by
            intro a ha
            obtain ⟨x, hx, rfl⟩ := List.mem_map.1 ha
            rw [HO.out.1] at hx
            have := (ordK_mem _ _ _).1 hx
            exact inI_small (by omega) (by omega)
          have HI := Lib.hid (And.intro hol hin)
          clear hd8 hol hin hss
          go_wp2_with fail
          go_ret2
          refine ⟨some ⟨g9, 0, none⟩, c9, by rw [HI.out.1]; rfl, by rw [HI.out.1]; exact hc9, ?_, hB8⟩
          exact HD.out.sl (S := fun b => w.heap.size ≤ b ∧ b < w8.heap.size) ⟨by have := hB1.size; omega, hg8⟩ HI.out.2
  · have hro : orderR l = ([], (rankR l).2.2) := by rw [orderR, if_neg he]
    rw [hro]
    obtain ⟨lo, lc, er, hr⟩ : ∃ lo lc er, rankR l = (lo, lc, er) := ⟨_, _, _, rfl⟩
    rw [hr] at he ⊢
    have g1 : (er != 0) = true := by simpa using he
    have hof' : ∀ w, Sl w (old w) 9 (RFld w (old w)) L n l → Calls Tryz.prog 53 #[.slice L n d] w (fun e w' => ∃ A c B d, e = .returned (.tuple #[.slice A lo.length c, .slice B lc.length d, .int .i64 er]) ∧ Below w.heap.size w w') := fun w h => (hof w h).mono (fun e w' q => by
      rw [hr] at q
      obtain ⟨A, c, B, d, q1, q2, q3, q4, q5, q6⟩ := q
      exact ⟨A, c, B, d, q1, q6⟩)
    show Calls Tryz.prog 14 #[.slice L n d] w (RetIntsC w ([], er))
    clear hof hl he hr hro hn hnd hN hst
    go_enter Tryz.func14, Tryz.ntmps14
    go_wp2_with fail
    refine (hof' _ (HL.out.1.nowN keeps_Fld bel)).mono ?_; rintro e w1 ⟨A1, c1, B1, d1, rfl, hb1⟩; obtain ⟨hc1, hf1⟩ := bcell hb1; (try simp only [World.heap_drewN, World.cell?_drewN, World.frozen?_drewN] at hc1 hf1); have hz1 := hb1.size; (try simp at hz1); (try (have hy1 := Nat.lt_of_succ_le hz1)); (try (have hx1 := Nat.lt_of_succ_lt hy1)); refine szz w1 w ?_; intros
    go_wp2_with fail
    go_ret2
    exact ⟨none, 0, rfl, Nat.le_refl _, Sl.nil, bel⟩
end Go.Proofs.YtbhkpepinogigaaGreat
/- The reference FieldOrder. -/
namespace Go.Proofs.YtbhkpepinogigaaGreat
open Go.RowKit

def lvlTo (O : Nat → Int) (lev i : Nat) : List Nat := (List.range i).filter fun i => O i == (lev : Int)
theorem lvlTo_yes {O : Nat → Int} {lev i : Nat} (h : O i = lev) : lvlTo O lev (i + 1) = lvlTo O lev i ++ [i] := by
  unfold lvlTo
  rw [List.range_succ, List.filter_append]
  simp [h]
theorem lvlTo_no {O : Nat → Int} {lev i : Nat} (h : ¬ O i = lev) : lvlTo O lev (i + 1) = lvlTo O lev i := by
  unfold lvlTo
  rw [List.range_succ, List.filter_append]
  simp [h]
theorem lvlTo_len (O : Nat → Int) (lev i : Nat) : (lvlTo O lev i).length ≤ i := by
  unfold lvlTo
  have := List.length_filter_le (fun i => O i == (lev : Int)) (List.range i)
  rw [List.length_range] at this
  exact this
theorem lvls_len (O : Nat → Int) (N : Nat) : ∀ L, (lvls O N L).length ≤ N * L
  | 0 => by simp [lvls]
  | L + 1 => by
    have h1 := lvls_len O N L
    have h2 := lvlTo_len O L N
    have e : lvlK O N L = lvlTo O L N := rfl
    rw [lvls, List.length_append, e, Nat.mul_add]
    omega
theorem rankR_range {F : List Fld} (h : (rankR F).2.2 = 0) : ∀ i, i < F.length → 0 ≤ outAt (rankO F) i ∧ outAt (rankO F) i < F.length := by
  obtain ⟨he, hr⟩ := rankR_zero h
  intro i hi
  have hg := rankO_any he
  have hbd := hg.2.bd (needL_lt he) hi
  refine ⟨?_, hbd.2⟩
  cases ha : (rankO F).any negO
  · rw [List.any_eq_false] at ha
    have hil : i < (rankO F).length := by rw [hg.1]; exact hi
    have hn := ha _ (List.getElem_mem hil)
    rw [outAt_at (List.getElem?_eq_getElem hil)]
    simp [negO] at hn
    exact hn
  · unfold rankR at h
    rw [if_neg (by simpa using he), if_pos ha] at h
    cases h
theorem ordF_lvls {F : List Fld} (h : (rankR F).2.2 = 0) : ordF F = lvls (outAt (rankO F)) F.length F.length := ordK_lvls (rankR_range h)
set_option maxRecDepth 100000 in
set_option maxHeartbeats 4000000 in
theorem ref_FieldOrder (l : List Fld) (L : Option Addr) (n d : Nat) (w : World) (hn : inB 112 n) (hl : Sl w (old w) 9 (RFld w (old w)) L n l) (hN : ∀ f ∈ l, f.source.nodes ≤ 1048576) (hst : ∀ f ∈ l, inS f.name ∧ ∀ s ∈ askN f.source, inS s) :
    Calls Tryz.prog 16 #[.slice L n d] w (RetIntsC w (orderR l)) := by
  have hof := fun w h => ref_FieldRanks l L n d w hn h hN hst
  have HL := Lib.hid (And.intro hl hl.len)
  by_cases he : (rankR l).2.2 = 0
  · obtain ⟨hfe, hr⟩ := rankR_zero he
    have h14 : n ≤ 14 := by rw [← hl.len]; exact (fieldsErr_all hfe).1
    have hro : orderR l = (toI (ordF l), 0) := by rw [orderR, if_pos he]
    have hlo : (rankO l).length = n := by rw [(rankO_any hfe).1]; exact hl.len
    have hof' : ∀ w, Sl w (old w) 9 (RFld w (old w)) L n l → Calls Tryz.prog 61 #[.slice L n d] w (fun e w' => ∃ A c B d, e = .returned (.tuple #[.slice A n c, .slice B 0 d, .int .i64 0]) ∧ Sl w' (fresh w w') 1 RInt A n (rankO l) ∧ Below w.heap.size w w') := fun w h => (hof w h).mono (fun e w' q => by
      rw [hr] at q
      obtain ⟨A, c, B, d, q1, q2, q3, q4, q5, q6⟩ := q
      exact ⟨A, c, B, d, by rw [q1, show ((rankO l, ([] : List ByteArray), (0 : Int)).1).length = n from hlo]; rfl, by rw [show ((rankO l, ([] : List ByteArray), (0 : Int)).1).length = n from hlo] at q4; exact q4, q6⟩)
    have hol : ordF l = lvls (outAt (rankO l)) n n := by rw [ordF_lvls he, hl.len]
    have hod : (ordF l).length ≤ 14 ∧ ∀ x ∈ ordF l, x < 14 ∨ x < n := ⟨by unfold ordF; rw [ordK_len, hl.len]; exact h14, fun x hx => .inr (by have := (ordK_mem _ _ _).1 hx; rw [hl.len] at this; exact this)⟩
    rw [hro]
    obtain ⟨i0, ei, ez0, ez1, ez2⟩ := info_parts Tryz.infoIn9
    have HO := Lib.hid (And.intro hol (And.intro hlo hod))
    clear hof hl he hr hro hn hN hst hfe hol hlo hod
    generalize rankO l = O at *
    generalize ordF l = od at *
    go_enter Tryz.func16, Tryz.ntmps16
    go_wp2_with fail
    refine (hof' _ (HL.out.1.nowN keeps_Fld bel)).mono ?_; rintro e w1 ⟨A1, c1, B1, d1, rfl, hs1, hb1⟩; obtain ⟨hc1, hf1⟩ := bcell hb1; (try simp only [World.heap_drewN, World.cell?_drewN, World.frozen?_drewN] at hc1 hf1); have hz1 := hb1.size; (try simp at hz1); (try (have hy1 := Nat.lt_of_succ_le hz1)); (try (have hx1 := Nat.lt_of_succ_lt hy1)); refine szz w1 w ?_; intros
    have HS1 := Lib.hid (hs1.mono (S' := old w1) (fun b hb => hb.2))
    clear hs1
    have hB1 : Below w.heap.size w w1 := bel
    go_wp2_with fail
    go_loopw [7, 8] (fun v lv wr => ∃ k : Nat, k ≤ n ∧ lv = .int .i64 k ∧ Hid (wr.ownsRow w1.heap.size 3 1 v (lvls (outAt O) n k).length ((toI (lvls (outAt O) n k)).flatMap intCs)) ∧ Below w1.heap.size w1 wr) (fun _ lv _ => n - (intOf lv).toNat)
    case atStart => exact ⟨0, by omega, rfl, Lib.hid (by simpa [lvls] using World.ownsRow_nil _ _ _ _), Below.refl _ _⟩
    case round =>
      obtain ⟨k, hk, rfl, hown, hbr⟩ := hrel
      by_cases hlt : k < n
      · have hll := lvls_len (outAt O) n k
        have hnk : n * k ≤ 196 := Nat.le_trans (Nat.mul_le_mul h14 (by omega : k ≤ 14)) (by omega)
        go_wp2_with fail
        generalize hwq : wr = wq at *
        clear hwq
        go_loopw [7, 27] (fun v i wr => ∃ j : Nat, j ≤ n ∧ i = .int .i64 j ∧ Hid (wr.ownsRow w1.heap.size 3 1 v ((lvls (outAt O) n k).length + (lvlTo (outAt O) k j).length) ((toI (lvls (outAt O) n k ++ lvlTo (outAt O) k j)).flatMap intCs)) ∧ Below w1.heap.size w1 wr) (fun _ i _ => n - (intOf i).toNat)
        case atStart => exact ⟨0, by omega, rfl, Lib.hid (by simpa [lvlTo] using hown.out), hbr⟩
        case round =>
          obtain ⟨j, hj, rfl, hown2, hbj⟩ := hrel
          by_cases hltj : j < n
          · obtain ⟨b, o, x, hAe, hbl, hlx, hxi, y0⟩ := Int_at (HS1.out.now hbj) hltj
            subst hAe
            have hbl' : b < wr.heap.size := hbl
            have hox := outAt_at hlx
            have hjl := lvlTo_len (outAt O) k j
            clear hbl hlx hxi
            by_cases hq : x = (k : Int)
            · have HT := Lib.hid (lvlTo_yes (O := outAt O) (lev := k) (i := j) (hox.trans hq))
              have g1 : (x == (k : Int)) = true := by rw [hq]; simp
              clear hox hq
              go_wp2_with (at_builtin; refine wpList_append1 rfl _ _ 23 rfl w1.heap.size 3 i0 (.int .i64 0) 1 8 Tryz.underlying23 ei ez0 ez1 ez2 rfl (by decide) _ ((lvls (outAt O) n k).length + (lvlTo (outAt O) k j).length) _ rfl hown2.out [.int .i64 (j : Int)] 3 rfl _ rfl rfl rfl (by simp [Value.oneCell']) (by omega) (by unfold maxLen; omega) (by have := hbj.size; omega) ?_; intro v6 w6 hown6 hb6 hz6 _)
              go_roundw
              case rel =>
                refine ⟨j + 1, by omega, by go_num, Lib.hid ?_, below_step hbj hb6 (Nat.le_refl _)⟩
                rw [HT.out, ← List.append_assoc, toI, List.map_append, List.flatMap_append, List.length_append]
                simpa [toI, Nat.add_assoc] using hown6
              case measure => simp [intOf]; omega
            · have HT := Lib.hid (lvlTo_no (O := outAt O) (lev := k) (i := j) (by rw [hox]; exact hq))
              have g1 : (x == (k : Int)) = false := by simpa using hq
              clear hox hq
              go_wp2_with fail
              go_roundw
              case rel => exact ⟨j + 1, by omega, by go_num, Lib.hid (by rw [HT.out]; exact hown2.out), hbj⟩
              case measure => simp [intOf]; omega
          · have hje : j = n := by omega
            subst hje
            have HE := Lib.hid (show wr.ownsRow w1.heap.size 3 1 u7 (lvls (outAt O) j (k + 1)).length ((toI (lvls (outAt O) j (k + 1))).flatMap intCs) by
              have := hown2.out
              rw [lvls, List.length_append]
              exact this)
            clear hown2
            go_wp2_with fail
            go_roundw
            case rel => exact ⟨k + 1, by omega, by go_num, HE, hbj⟩
            case measure => simp [intOf]; omega
      · have hke : k = n := by omega
        subst hke
        have ho := hown.out
        rw [← HO.out.1] at ho
        obtain ⟨A9, c9, e9, hc9, hs9⟩ := own_sli ho (by simp) (by
          intro a ha
          obtain ⟨x, hx, rfl⟩ := List.mem_map.1 ha
          rcases HO.out.2.2.2 x hx with h | h
          · exact inI_small (by omega) (by omega)
          · exact inI_small (by omega) (by omega))
        subst e9
        have HS := Lib.hid (And.intro hs9 hc9)
        clear ho hs9 hc9 hown
        have hBr : Below w.heap.size w wr := below_step hB1 hbr hB1.size
        go_wp2_with fail
        go_ret2
        have hlen : (toI od).length = od.length := by simp [toI]
        exact ⟨A9, c9, by rw [hlen]; rfl, by rw [hlen]; exact HS.out.2, by rw [hlen]; exact HS.out.1.mono (fun b hb => ⟨by have := hb.1; have := hB1.size; omega, hb.2⟩), hBr⟩
  · have hro : orderR l = ([], (rankR l).2.2) := by rw [orderR, if_neg he]
    rw [hro]
    obtain ⟨lo, lc, er, hr⟩ : ∃ lo lc er, rankR l = (lo, lc, er) := ⟨_, _, _, rfl⟩
    rw [hr] at he ⊢
    have g1 : (er != 0) = true := by simpa using he
    have hof' : ∀ w, Sl w (old w) 9 (RFld w (old w)) L n l → Calls Tryz.prog 61 #[.slice L n d] w (fun e w' => ∃ A c B d, e = .returned (.tuple #[.slice A lo.length c, .slice B lc.length d, .int .i64 er]) ∧ Below w.heap.size w w') := fun w h => (hof w h).mono (fun e w' q => by
      rw [hr] at q
      obtain ⟨A, c, B, d, q1, q2, q3, q4, q5, q6⟩ := q
      exact ⟨A, c, B, d, q1, q6⟩)
    show Calls Tryz.prog 16 #[.slice L n d] w (RetIntsC w ([], er))
    clear hof hl he hr hro hn hN hst
    go_enter Tryz.func16, Tryz.ntmps16
    go_wp2_with fail
    refine (hof' _ (HL.out.1.nowN keeps_Fld bel)).mono ?_; rintro e w1 ⟨A1, c1, B1, d1, rfl, hb1⟩; obtain ⟨hc1, hf1⟩ := bcell hb1; (try simp only [World.heap_drewN, World.cell?_drewN, World.frozen?_drewN] at hc1 hf1); have hz1 := hb1.size; (try simp at hz1); (try (have hy1 := Nat.lt_of_succ_le hz1)); (try (have hx1 := Nat.lt_of_succ_lt hy1)); refine szz w1 w ?_; intros
    go_wp2_with fail
    go_ret2
    exact ⟨none, 0, rfl, Nat.le_refl _, Sl.nil, bel⟩
end Go.Proofs.YtbhkpepinogigaaGreat
/- What hangs on a field: plain laws. No program text is walked here. -/
namespace Go.Proofs.YtbhkpepinogigaaGreat

/-- Does i come to a in at most k steps? -/
def hgK (nd : List (List Nat)) (a : Nat) : Nat → Nat → Bool
  | 0, i => i == a
  | k + 1, i => i == a || (ndAt nd i).any (hgK nd a k)
theorem any_congr9 {α : Type} {l : List α} {p q : α → Bool} (h : ∀ x ∈ l, p x = q x) : l.any p = l.any q := by
  induction l with
  | nil => rfl
  | cons a r ih =>
    rw [List.any_cons, List.any_cons, h a (by simp), ih fun x hx => h x (by simp [hx])]
theorem rk_need {nd : List (List Nat)} {k i r s : Nat} (h : rkL nd k i = some r) (hs : s ∈ ndAt nd i) : ∃ q, rkL nd r s = some q ∧ q < r := by
  obtain ⟨_, _, h3⟩ := rkL_inv h
  obtain ⟨q, hq⟩ := Option.isSome_iff_exists.1 (h3 s hs)
  exact ⟨q, hq, (rkL_inv hq).1⟩
theorem hgK_stab {nd : List (List Nat)} {a : Nat} : ∀ (r i k : Nat), rkL nd (r + 1) i = some r → r ≤ k → hgK nd a k i = hgK nd a r i := by
  intro r
  induction r using Nat.strongRecOn with
  | ind r ih =>
    intro i k hr hk
    rcases k with _ | k
    · rw [show r = 0 by omega]
    · rcases r with _ | r
      · have h0 : ndAt nd i = [] := by
          cases hn : ndAt nd i with
          | nil => rfl
          | cons s t =>
            obtain ⟨q, _, hq⟩ := rk_need hr (s := s) (by rw [hn]; simp)
            omega
        simp only [hgK, h0, List.any_nil, Bool.or_false]
      · simp only [hgK]
        congr 1
        refine any_congr9 fun s hs => ?_
        obtain ⟨q, hq1, hq2⟩ := rk_need hr hs
        have hq3 := rkL_at hq1
        rw [ih q hq2 s k hq3 (by omega), ih q hq2 s r hq3 (by omega)]
/-- Does it hang on a? -/
def hangs (nd : List (List Nat)) (a N i : Nat) : Bool := hgK nd a N i
theorem hangs_eq {nd : List (List Nat)} {a N i : Nat} (hN : ∀ i, ∀ s ∈ ndAt nd i, s < N) (hi : i < N) {r : Nat} (hr : rkL nd N i = some r) (hall : ∀ s, s < N → (rkL nd N s).isSome = true) :
    hangs nd a N i = (i == a || (ndAt nd i).any (hangs nd a N)) := by
  have h1 := rkL_at hr
  have hrN := (rkL_inv hr).1
  unfold hangs
  rw [hgK_stab r i N h1 (by omega), ← hgK_stab r i (N + 1) h1 (by omega)]
  rfl
theorem hangs_self (nd : List (List Nat)) (a N : Nat) : hangs nd a N a = true := by
  unfold hangs
  cases N <;> simp [hgK]
/-- Whom the program has met behind j places of the order. -/
def metJ (nd : List (List Nat)) (a N : Nat) (ord : List Nat) (j i : Nat) : Bool := i == a || ((ord.take j).any (fun x => x == i) && hangs nd a N i)
theorem metJ_0 (nd : List (List Nat)) (a N : Nat) (ord : List Nat) (i : Nat) : metJ nd a N ord 0 i = (i == a) := by simp [metJ]
/-- Behind whom a place asks for stand ahead of it: the test finds whether it hangs. -/
theorem metJ_test {nd : List (List Nat)} {a N : Nat} {ord : List Nat} {j x : Nat} (hpre : ∀ s ∈ ndAt nd x, s ∈ ord.take j) : (ndAt nd x).any (metJ nd a N ord j) = (ndAt nd x).any (hangs nd a N) := by
  refine any_congr9 fun s hs => ?_
  unfold metJ
  have h1 : (ord.take j).any (fun y => y == s) = true := List.any_eq_true.2 ⟨s, hpre s hs, by simp⟩
  rw [h1, Bool.true_and]
  by_cases he : s = a
  · subst he; rw [hangs_self]; simp
  · simp [he]
theorem metJ_next {nd : List (List Nat)} {a N : Nat} {ord : List Nat} {j x : Nat} (hx : ord[j]? = some x) (i : Nat) : metJ nd a N ord (j + 1) i = (metJ nd a N ord j i || (x == i && hangs nd a N i)) := by
  unfold metJ
  rw [List.take_add_one, hx, List.any_append]
  cases (i == a) <;> cases (ord.take j).any (fun y => y == i) <;> cases hangs nd a N i <;> simp
theorem metJ_all {nd : List (List Nat)} {a N : Nat} {ord : List Nat} {i : Nat} (hm : i ∈ ord) : metJ nd a N ord ord.length i = hangs nd a N i := by
  unfold metJ
  rw [List.take_length, List.any_eq_true.2 ⟨i, hm, by simp⟩, Bool.true_and]
  by_cases he : i = a
  · subst he; rw [hangs_self]; simp
  · simp [he]
/-- In the order by ranks those that are asked for stand ahead. -/
theorem ord_ahead {O : Nat → Int} {N j x s : Nat} (hx : (ordK O N)[j]? = some x) (hs : s < N) (hlt : O s < O x) : s ∈ (ordK O N).take j := by
  have hj := (List.getElem?_eq_some_iff.1 hx).1
  have hxe : (ordK O N)[j] = x := by rw [List.getElem?_eq_getElem hj] at hx; exact Option.some.inj hx
  obtain ⟨i, hi, he⟩ := List.mem_iff_getElem.1 ((ordK_mem O N s).2 hs)
  rcases Nat.lt_trichotomy i j with h | h | h
  · exact List.mem_iff_getElem.2 ⟨i, by rw [List.length_take]; omega, by rw [List.getElem_take]; exact he⟩
  · subst h; rw [hxe] at he; subst he; omega
  · have hp := List.pairwise_iff_getElem.1 (ordK_sorted O N) j i hj hi h
    rw [hxe, he] at hp
    unfold ltR at hp
    omega
/-- What rank.Hangs answers. -/
def hangsL (nd : List (List Nat)) (a N : Nat) : List Nat := (List.range N).filter (hangs nd a N)
end Go.Proofs.YtbhkpepinogigaaGreat
/- rank.Hangs: the places of all fields that hang on one. -/
namespace Go.Proofs.YtbhkpepinogigaaGreat
open Go.RowKit

section
variable {P : Program} (w : World) {ops : Array Oper} {rest : List Oper} {o : Oper} {a : Act} {Q : Exit → Act → World → Prop}
theorem wpList_insert_Is9 (hg : o.guard = none) (m x v : Operand) (t : TypeId) (hop : o.op = Op.insert t m x v) (k e : TypeId) (K : Maps.Keyed P k) (ht : P.underlying t = some (.map k e))
    (b n : Nat) (f : Lit → Option Value) (hm : a.eval m = .map (some b)) (hown : MapIs w P k b n f) (hn : n < maxLen) (key val : Value) (kl : Lit) (hx : a.eval x = key) (hv : a.eval v = val) (hkey : keyOf P k key = some kl)
    (hK : ∀ w', MapIs w' P k b (n + 1) (putAt f kl val) → w.grownBy w' (some b) → wpList P ops Q rest (a.put o.dst undef) w') : wpList P ops Q (o :: rest) a w :=
  wpList_plain hg fun _ hK' => wp_insert_Is m x v t hop k e K ht b n f hm hown hn key val kl hx hv hkey fun w' h1 h2 => hK' _ _ (hK w' h1 h2)
end
theorem Tryz.zeroBo9 (w : World) : (zeroValue 4).run Tryz.prog w = .ok (.bool false) w := by kernel_rfl
/-- The map of places at which p holds. -/
def setMap (p : Nat → Bool) : Lit → Option Value
  | .int .i64 n => if 0 ≤ n ∧ p n.toNat = true then some (.bool true) else none
  | _ => none
theorem setMap_at (p : Nat → Bool) (i : Nat) : setMap p (.int .i64 (i : Int)) = if p i then some (.bool true) else none := by
  unfold setMap
  have h : (0 : Int) ≤ (i : Int) := by omega
  simp [h]
theorem setMap_put (p q : Nat → Bool) (i : Nat) (h : ∀ x, q x = (p x || i == x)) : putAt (setMap p) (.int .i64 (i : Int)) (.bool true) = setMap q := by
  funext kl
  by_cases he : kl = .int .i64 (i : Int)
  · subst he
    rw [putAt_same (by trivial), setMap_at, h i]
    simp
  · rw [putAt_other he]
    unfold setMap
    split
    · rename_i n
      by_cases hn : 0 ≤ n
      · have hni : ¬ i = n.toNat := fun e => he (by rw [show n = (i : Int) by omega])
        rw [h n.toNat]
        simp [hni]
      · simp [hn]
    · rfl
theorem setMap_congr {p q : Nat → Bool} (h : ∀ x, p x = q x) : setMap p = setMap q := by rw [show p = q from funext h]

set_option maxHeartbeats 1000000 in
theorem rank_Hangs1 (p : Nat → Bool) (g gb m i : Nat) (w : World) (hi : i ≤ 1000000) (hb : w.cell? ⟨gb, 0, none⟩ = some (.map (some g))) (hm : MapIs w Tryz.prog 3 g m (setMap p)) :
    Calls Tryz.prog 60 #[.int .i64 i, .pointer (some ⟨gb, 0, none⟩)] w (RetB w (p i)) := by
  have hgl := block_lt_of_cell hb
  simp only at hgl
  have hkey := Maps.keyOf_int_mk (P := Tryz.prog) (k := 3) Tryz.underlying3 (a := (i : Int)) (inI_small (by omega) (by omega))
  have hat := setMap_at p i
  have HM := Lib.hid (And.intro hm (And.intro hkey hat))
  clear hm hkey hat
  cases hp : p i
  · have HP := Lib.hid (show setMap p (.int .i64 (i : Int)) = none by rw [HM.out.2.2, hp]; rfl)
    clear hp
    go_enter Tryz.func60, Tryz.ntmps60
    go_wp2_with (at_lookup; refine wpList_lookup1_Is _ rfl _ _ 91 rfl 3 4 (Maps.int_keyed Tryz.underlying3) Tryz.underlying91 (Tryz.zeroBo9 _) g m _ rfl HM.out.1 _ _ rfl HM.out.2.1 ?_; rw [HP.out]; simp only [Option.getD_none])
    go_ret
    exact ⟨rfl, bel⟩
  · have HP := Lib.hid (show setMap p (.int .i64 (i : Int)) = some (.bool true) by rw [HM.out.2.2, hp]; rfl)
    clear hp
    go_enter Tryz.func60, Tryz.ntmps60
    go_wp2_with (at_lookup; refine wpList_lookup1_Is _ rfl _ _ 91 rfl 3 4 (Maps.int_keyed Tryz.underlying3) Tryz.underlying91 (Tryz.zeroBo9 _) g m _ rfl HM.out.1 _ _ rfl HM.out.2.1 ?_; rw [HP.out]; simp only [Option.getD_some])
    go_ret
    exact ⟨rfl, bel⟩
set_option maxHeartbeats 1000000 in
theorem nats_IdxHangs (p : Nat → Bool) (gb : Nat) (A : Option Addr) (n c : Nat) (l : List Nat) (w : World) (hn : inL n) (h : Sl w (old w) 1 RNat A n l)
    (hcall : ∀ wr i, Below w.heap.size w wr → i ∈ l → Calls Tryz.prog 60 #[.int .i64 (i : Nat), .pointer (some ⟨gb, 0, none⟩)] wr (RetB wr (p i))) :
    Calls Tryz.prog 125 #[.slice A n c, .func (.func 60) #[] #[.pointer (some ⟨gb, 0, none⟩)]] w (RetI w (idxOf p l)) := by
  unfold inL at hn
  have HH := Lib.hid (And.intro h hcall)
  clear h hcall
  go_enter Tryz.func125, Tryz.ntmps125
  go_wp2_with fail
  go_loopw [8] (fun i wr => ∃ k : Nat, k ≤ n ∧ i = .int .i64 k ∧ (l.take k).any p = false ∧ Below w.heap.size w wr) (fun i _ => n - (intOf i).toNat)
  case atStart => exact ⟨0, by omega, rfl, by simp, Below.refl _ _⟩
  case round =>
    obtain ⟨k, hk, rfl, hv, hb⟩ := hrel
    by_cases hlt : k < n
    · obtain ⟨b, o, x, rfl, hbl, hl, h0⟩ := Nat_at (HH.out.1.now hb) hlt
      have hbl' : b < wr.heap.size := hbl
      have hcl := HH.out.2 wr x hb (List.mem_of_getElem? hl)
      have HL := Lib.hid (And.intro hl hv)
      clear hl hv hbl
      cases hp : p x
      · rw [hp] at hcl
        have HP := Lib.hid hp
        clear hp
        go_wp2_with (refine hcl.mono ?_; rintro e w1 ⟨rfl, hb1⟩)
        go_roundw
        case rel =>
          refine ⟨k + 1, by omega, by go_num, ?_, bel⟩
          rw [List.take_add_one, HL.out.1, List.any_append, HL.out.2]
          simp [HP.out]
        case measure => simp [intOf]; omega
      · rw [hp] at hcl
        have HP := Lib.hid hp
        clear hp
        go_wp2_with (refine hcl.mono ?_; rintro e w1 ⟨rfl, hb1⟩)
        go_ret
        refine ⟨ret_int ?_, bel⟩
        have e2 : l.any p = true := by
          rw [List.any_eq_true]
          exact ⟨x, List.mem_of_getElem? HL.out.1, HP.out⟩
        rw [idxOf, if_pos e2, firstAt_hit p l k x HL.out.1 HP.out HL.out.2]
    · have hke : k = n := by omega
      subst hke
      have hl : l.take k = l := by rw [List.take_of_length_le (by rw [HH.out.1.len]; exact Nat.le_refl _)]
      rw [hl] at hv
      have HV := Lib.hid hv
      clear hl hv
      go_wp2_with fail
      go_ret
      exact ⟨ret_int (by rw [idxOf, HV.out]; rfl), hb⟩
set_option maxHeartbeats 400000 in
theorem nats_ContHangs (p : Nat → Bool) (gb : Nat) (A : Option Addr) (n c : Nat) (l : List Nat) (w : World) (hn : inL n) (h : Sl w (old w) 1 RNat A n l)
    (hcall : ∀ wr i, Below w.heap.size w wr → i ∈ l → Calls Tryz.prog 60 #[.int .i64 (i : Nat), .pointer (some ⟨gb, 0, none⟩)] wr (RetB wr (p i))) :
    Calls Tryz.prog 59 #[.slice A n c, .func (.func 60) #[] #[.pointer (some ⟨gb, 0, none⟩)]] w (RetB w (l.any p)) := by
  have hcl := nats_IdxHangs p gb A n c l w hn h hcall
  cases hany : l.any p
  · have h1 : idxOf p l = -1 := by rw [idxOf, hany]; rfl
    rw [h1] at hcl
    clear hany h1 h hcall
    go_enter Tryz.func59, Tryz.ntmps59
    go_wp2_with (go_at_call 125; refine hcl.mono ?_; rintro e w1 ⟨rfl, hb1⟩)
    go_ret
    exact ⟨rfl, bel⟩
  · have h1 : idxOf p l = (firstAt p l : Int) := by rw [idxOf, hany]; rfl
    rw [h1] at hcl
    have hlt := firstAt_le p l
    rw [h.len] at hlt
    unfold inL at hn
    clear hany h1 h hcall
    go_enter Tryz.func59, Tryz.ntmps59
    go_wp2_with (go_at_call 125; refine hcl.mono ?_; rintro e w1 ⟨rfl, hb1⟩)
    go_ret
    exact ⟨rfl, bel⟩
end Go.Proofs.YtbhkpepinogigaaGreat
/- rank.Hangs, walked. -/
namespace Go.Proofs.YtbhkpepinogigaaGreat
open Go.RowKit

def hangsR (l : List Fld) (name : ByteArray) : List Int × Int :=
  if (rankR l).2.2 ≠ 0 then ([], (rankR l).2.2) else if l.any (hasName name) then (toI (hangsL (needL l) (fieldAt l name) l.length), 0) else ([], 5)
theorem hangsTo_yes {p : Nat → Bool} {i : Nat} (h : p i = true) : (List.range (i + 1)).filter p = (List.range i).filter p ++ [i] := by
  rw [List.range_succ, List.filter_append]
  simp [h]
theorem hangsTo_no {p : Nat → Bool} {i : Nat} (h : p i = false) : (List.range (i + 1)).filter p = (List.range i).filter p := by
  rw [List.range_succ, List.filter_append]
  simp [h]
theorem rankR_some {F : List Fld} (h : (rankR F).2.2 = 0) : ∀ i, i < F.length → ∃ r, rkL (needL F) F.length i = some r ∧ outAt (rankO F) i = r := by
  obtain ⟨he, _⟩ := rankR_zero h
  intro i hi
  have h1 := rankR_range h i hi
  have h2 := sweepsO_is (needL_lt he) hi
  cases hq : rkL (needL F) F.length i with
  | none =>
    rw [hq] at h2
    have : outAt (rankO F) i = -1 := h2
    omega
  | some r => rw [hq] at h2; exact ⟨r, rfl, h2⟩
/-- The test of the x-th place of the order finds whether it hangs. -/
theorem order_test {F : List Fld} (h : (rankR F).2.2 = 0) {a j x : Nat} (hx : (ordF F)[j]? = some x) : x < F.length ∧ (x == a || (ndAt (needL F) x).any (metJ (needL F) a F.length (ordF F) j)) = hangs (needL F) a F.length x := by
  obtain ⟨he, _⟩ := rankR_zero h
  have hxl : x < F.length := (ordK_mem _ _ _).1 (List.mem_of_getElem? hx)
  obtain ⟨r, hr1, hr2⟩ := rankR_some h x hxl
  refine ⟨hxl, ?_⟩
  rw [metJ_test (fun s hs => ?_), hangs_eq (needL_lt he) hxl hr1 (fun s hs => by obtain ⟨q, hq, _⟩ := rankR_some h s hs; rw [hq]; rfl)]
  have hsl := needL_lt he x s hs
  obtain ⟨q, hq1, hq2⟩ := rankR_some h s hsl
  obtain ⟨q', hq3, hq4⟩ := rk_need (rkL_at hr1) hs
  have hqq := rkL_unique hq1 hq3
  exact ord_ahead hx hsl (by rw [hq2, hr2]; omega)

set_option maxRecDepth 100000 in
set_option maxHeartbeats 4000000 in
theorem rank_Hangs (l : List Fld) (L : Option Addr) (n d : Nat) (name : ByteArray) (w : World) (hn : inB 112 n) (hnd : n ≤ d) (hl : Sl w (old w) 9 (RFld w (old w)) L n l) (hN : ∀ f ∈ l, f.source.nodes ≤ 1048576) (hst : ∀ f ∈ l, inS f.name ∧ ∀ s ∈ askN f.source, inS s) :
    Calls Tryz.prog 15 #[.slice L n d, .string name] w (RetIntsC w (hangsR l name)) := by
  have hof := fun w h => rank_Order l L n d w hn hnd h hN hst
  have hfi := fun w h => field_Find L n d l name w (hn.l (by decide)) h
  have HL := Lib.hid (And.intro hl hl.len)
  by_cases he : (rankR l).2.2 = 0
  · have hro : orderR l = (toI (ordF l), 0) := by rw [orderR, if_pos he]
    have hodl : (toI (ordF l)).length = n := by rw [List.length_map, ordF, ordK_len]; exact hl.len
    have hof' : ∀ w, Sl w (old w) 9 (RFld w (old w)) L n l → Calls Tryz.prog 14 #[.slice L n d] w (fun e w' => ∃ A c, e = .returned (.tuple #[.slice A n c, .int .i64 0]) ∧ Sl w' (fun b => w.heap.size ≤ b ∧ b < w'.heap.size) 1 RInt A n (toI (ordF l)) ∧ Below w.heap.size w w') := fun w h => (hof w h).mono (fun e w' q => by
      rw [hro] at q
      obtain ⟨A, c, q1, q2, q3, q4⟩ := q
      exact ⟨A, c, by rw [q1, show ((toI (ordF l), (0 : Int)).1).length = n from hodl], by rw [show ((toI (ordF l), (0 : Int)).1).length = n from hodl] at q3; exact q3, q4⟩)
    cases hany : l.any (hasName name)
    · have hr : hangsR l name = ([], 5) := by rw [hangsR, if_neg (by simpa using he), if_neg (by rw [hany]; decide)]
      rw [hr]
      simp only [findRes, hany, Bool.false_eq_true, if_false] at hfi
      clear hof hr he hro hl hany hN hst hn hnd hodl
      go_enter Tryz.func15, Tryz.ntmps15
      go_wp2_with fail
      refine (hof' _ (HL.out.1.nowN keeps_Fld bel)).mono ?_; rintro e w1 ⟨A1, c1, rfl, _, hb1⟩; obtain ⟨hc1, hf1⟩ := bcell hb1; (try simp only [World.heap_drewN, World.cell?_drewN, World.frozen?_drewN] at hc1 hf1); have hz1 := hb1.size; (try simp at hz1); (try (have hy1 := Nat.lt_of_succ_le hz1)); (try (have hx1 := Nat.lt_of_succ_lt hy1)); refine szz w1 w ?_; intros
      go_wp2_with fail
      refine (hfi _ (HL.out.1.nowN keeps_Fld bel)).mono ?_; rintro e w2 ⟨rfl, hb2⟩; obtain ⟨hc2, hf2⟩ := bcell hb2; (try simp only [World.heap_drewN, World.cell?_drewN, World.frozen?_drewN] at hc2 hf2); have hz2 := hb2.size; (try simp at hz2); (try (have hy2 := Nat.lt_of_succ_le hz2)); (try (have hx2 := Nat.lt_of_succ_lt hy2)); refine szz w2 w ?_; intros; refine szz w2 w1 ?_; intros
      go_wp2_with fail
      go_ret2
      exact ⟨none, 0, rfl, Nat.le_refl _, Sl.nil, bel⟩
    · have hr : hangsR l name = (toI (hangsL (needL l) (fieldAt l name) l.length), 0) := by rw [hangsR, if_neg (by simpa using he), if_pos hany]
      obtain ⟨hfe, _⟩ := rankR_zero he
      have h14 : n ≤ 14 := by rw [← hl.len]; exact (fieldsErr_all hfe).1
      have hal : fieldAt l name < n := by rw [← hl.len]; exact (fieldAt_some hany).1
      rw [hr]
      simp only [findRes, hany, if_true] at hfi
      have hfa : firstAt (hasName name) l = fieldAt l name := rfl
      rw [hfa] at hfi
      have hnd' := fun w h => rank_needs l L n d w hn h hfe hN (fun f hf => (hst f hf).2)
      have htest := fun j x => order_test (a := fieldAt l name) he (j := j) (x := x)
      have hin := needL_inner hN
      have hmm := @run_makeMap Tryz.prog
      rw [hl.len] at htest ⊢
      have hnl : (needL l).length = n := (needL_len l).trans hl.len
      have hnlt := needL_lt hfe
      rw [hl.len] at hnlt
      have hodm : ∀ x, x ∈ ordF l ↔ x < n := fun x => by rw [ordF, ordK_mem, hl.len]
      obtain ⟨i0, ei, ez0, ez1, ez2⟩ := info_parts Tryz.infoIn9
      generalize fieldAt l name = a at *
      generalize ordF l = od at *
      have HX := Lib.hid (And.intro htest (And.intro hin (And.intro hnl (And.intro hnlt (And.intro hodm hodl)))))
      clear hof hr he hro hl hany hN hst hn hnd hodl htest hin hnl hnlt hodm hfe hfa
      go_enter Tryz.func15, Tryz.ntmps15
      go_wp2_with fail
      refine (hof' _ (HL.out.1.nowN keeps_Fld bel)).mono ?_; rintro e w1 ⟨A1, c1, rfl, hs1, hb1⟩; obtain ⟨hc1, hf1⟩ := bcell hb1; (try simp only [World.heap_drewN, World.cell?_drewN, World.frozen?_drewN] at hc1 hf1); have hz1 := hb1.size; (try simp at hz1); (try (have hy1 := Nat.lt_of_succ_le hz1)); (try (have hx1 := Nat.lt_of_succ_lt hy1)); refine szz w1 w ?_; intros
      have HS1 := Lib.hid (hs1.mono (S' := old w1) (fun b hb => hb.2))
      clear hs1
      go_wp2_with fail
      refine (hfi _ (HL.out.1.nowN keeps_Fld bel)).mono ?_; rintro e w2 ⟨rfl, hb2⟩; obtain ⟨hc2, hf2⟩ := bcell hb2; (try simp only [World.heap_drewN, World.cell?_drewN, World.frozen?_drewN] at hc2 hf2); have hz2 := hb2.size; (try simp at hz2); (try (have hy2 := Nat.lt_of_succ_le hz2)); (try (have hx2 := Nat.lt_of_succ_lt hy2)); refine szz w2 w ?_; intros; refine szz w2 w1 ?_; intros
      go_wp2_with fail
      refine (hnd' _ (HL.out.1.nowN keeps_Fld bel)).mono ?_; rintro e w3 ⟨v3, rfl, ho3, hb3⟩; obtain ⟨A3, c3, e3, hca3, hs3⟩ := ho3.sl keeps_RIs; subst e3; obtain ⟨hc3, hf3⟩ := bcell hb3; (try simp only [World.heap_drewN, World.cell?_drewN, World.frozen?_drewN] at hc3 hf3); have hz3 := hb3.size; (try simp at hz3); (try (have hy3 := Nat.lt_of_succ_le hz3)); (try (have hx3 := Nat.lt_of_succ_lt hy3)); refine szz w3 w ?_; intros; refine szz w3 w1 ?_; intros; refine szz w3 w2 ?_; intros
      rw [HX.out.2.2.1] at hs3 ⊢
      have HS3 := Lib.hid (hs3.keepN keeps_RIs (w' := w3) (S' := old w3) (fun b hb => ⟨hb.2, rfl⟩))
      clear hs3 ho3
      have hB3 : Below w.heap.size w w3 := bel
      have hB13 : Below w1.heap.size w1 w3 := below_chain hb2 hb3
      have hka := Maps.keyOf_int_mk (P := Tryz.prog) (k := 3) Tryz.underlying3 (a := (a : Int)) (inI_small (by omega) (by omega))
      go_wp2_with (refine wpList_insert_Is9 _ rfl _ _ _ 91 rfl 3 4 (Maps.int_keyed Tryz.underlying3) Tryz.underlying91 w3.heap.size 0 _ rfl (MapIs.made _ _ _) (by unfold maxLen; omega) _ _ _ rfl rfl hka ?_; intro w4 hm4 hg4)
      have hgsz : w3.heap.size < w4.heap.size := by have := hg4.size; simp at this; omega
      have hbx : (w4.alloc (.cells #[.map (some w3.heap.size)] 91)).cell? ⟨w4.heap.size, 0, none⟩ = some (.map (some w3.heap.size)) := by go_simp
      have hB4 : Below w3.heap.size w3 w4 := ((Below.refl w3.heap.size w3).alloc (Nat.le_refl _) _).grown hg4 (by simp) (fun b hb => by cases hb; exact Nat.le_refl _)
      have hB5 : Below w3.heap.size w3 (w4.alloc (.cells #[.map (some w3.heap.size)] 91)) := hB4.alloc hB4.size _
      have e0 : (fun _ : Lit => (none : Option Value)) = setMap (fun _ => false) := by
        funext kl
        unfold setMap
        split <;> simp
      have e1 : putAt (fun _ : Lit => (none : Option Value)) (.int .i64 (a : Int)) (.bool true) = setMap (metJ (needL l) a n od 0) := by
        rw [e0]
        refine setMap_put _ _ a fun x => ?_
        rw [metJ_0, Bool.false_or, Bool.eq_iff_iff, beq_iff_eq, beq_iff_eq]
        exact ⟨Eq.symm, Eq.symm⟩
      have hm5 : MapIs (w4.alloc (.cells #[.map (some w3.heap.size)] 91)) Tryz.prog 3 w3.heap.size (0 + 1) (setMap (metJ (needL l) a n od 0)) := by
        rw [← e1]
        exact hm4.kept (World.grownBy_alloc _ _ none) (by simp)
      have hz5 : w4.heap.size < (w4.alloc (.cells #[.map (some w3.heap.size)] 91)).heap.size := by simp
      have HM5 := Lib.hid hm5
      generalize w4.alloc (.cells #[.map (some w3.heap.size)] 91) = W5 at *
      generalize w4.heap.size = gb at *
      clear hm4 hg4 hm5 e0 e1 hka hB4
      go_loopw [39] (fun i wr => ∃ j : Nat, j ≤ n ∧ i = .int .i64 j ∧ Hid (MapIs wr Tryz.prog 3 w3.heap.size (j + 1) (setMap (metJ (needL l) a n od j))) ∧ wr.cell? ⟨gb, 0, none⟩ = some (.map (some w3.heap.size)) ∧ gb < wr.heap.size ∧ Below w3.heap.size w3 wr) (fun i _ => n - (intOf i).toNat)
      case atStart => exact ⟨0, by omega, rfl, HM5, hbx, hz5, hB5⟩
      case round =>
        obtain ⟨j, hj, rfl, hmj, hbj, hzj, hBj⟩ := hrel
        have hB1j : Below w1.heap.size w1 wr := below_step hB13 hBj hB13.size
        have hBwj : Below w.heap.size w wr := below_step hB3 hBj hB3.size
        by_cases hlt : j < n
        · obtain ⟨b, o, x, hAe, hbl, hlx, hxi, y0⟩ := Int_at (HS1.out.now hB1j) hlt
          subst hAe
          have hbl' : b < wr.heap.size := hbl
          obtain ⟨x', hx', hxe⟩ : ∃ x', od[j]? = some x' ∧ (x' : Int) = x := by
            rw [List.getElem?_map] at hlx
            cases hc : od[j]? with
            | none => rw [hc] at hlx; cases hlx
            | some x' => rw [hc] at hlx; exact ⟨x', rfl, Option.some.inj hlx⟩
          subst hxe
          obtain ⟨hxn, htx⟩ := HX.out.1 j x' hx'
          obtain ⟨b2, o2, m, X, C, hAe, hbl2, hlm, x0, hmC, hsm⟩ := Is_at (HS3.out.nowN keeps_RIs hBj) hxn
          subst hAe
          have hbl2' : b2 < wr.heap.size := hbl2
          rw [ndAt_at hlm] at htx
          have hml := HX.out.2.1 m (List.mem_of_getElem? hlm)
          have hmn : ∀ i ∈ m, i < n := fun i hi => HX.out.2.2.2.1 x' i (by rw [ndAt_at hlm]; exact hi)
          have hcall : ∀ wr' i, Below wr.heap.size wr wr' → i ∈ m → Calls Tryz.prog 60 #[.int .i64 (i : Nat), .pointer (some ⟨gb, 0, none⟩)] wr' (RetB wr' (metJ (needL l) a n od j i)) := fun wr' i hb hi =>
            rank_Hangs1 _ w3.heap.size gb (j + 1) i wr' (by have := hmn i hi; omega) (cell_keep hbj hb) (hmj.out.below hb hmj.out.lt)
          have hct := nats_ContHangs (metJ (needL l) a n od j) gb X m.length C m wr (by unfold inL; omega) hsm hcall
          have hkx := Maps.keyOf_int_mk (P := Tryz.prog) (k := 3) Tryz.underlying3 (a := (x' : Int)) (inI_small (by omega) (by omega))
          have hnx := fun i => metJ_next (nd := needL l) (a := a) (N := n) hx' i
          have HK := Lib.hid hkx
          clear hbl hlx hxi hbl2 hlm hsm hcall hkx hx'
          cases hc : m.any (metJ (needL l) a n od j)
          · rw [hc] at hct
            have hsame : setMap (metJ (needL l) a n od (j + 1)) = setMap (metJ (needL l) a n od j) := by
              refine setMap_congr fun i => ?_
              rw [hnx i]
              by_cases hxi : x' = i
              · subst hxi
                rw [hc, Bool.or_false] at htx
                rw [← htx]
                by_cases hxa : x' = a
                · subst hxa; unfold metJ; simp
                · simp [hxa]
              · simp [hxi]
            have HE := Lib.hid hsame
            clear hc htx hnx hsame
            go_wp2_with (go_at_call 59; refine hct.mono ?_; rintro e w6 ⟨rfl, hb6⟩)
            go_roundw
            case rel => exact ⟨j + 1, by omega, by go_num, Lib.hid (by rw [HE.out]; exact (hmj.out.below hb6 hmj.out.lt).mono (by omega)), cell_keep hbj hb6, Nat.lt_of_lt_of_le hzj hb6.size, below_step hBj hb6 hBj.size⟩
            case measure => simp [intOf]; omega
          · rw [hc] at hct
            have hput : putAt (setMap (metJ (needL l) a n od j)) (.int .i64 (x' : Int)) (.bool true) = setMap (metJ (needL l) a n od (j + 1)) := by
              refine setMap_put _ _ x' fun i => ?_
              rw [hnx i]
              by_cases hxi : x' = i
              · subst hxi
                rw [hc, Bool.or_true] at htx
                rw [← htx, Bool.and_true]
              · have hxf : (x' == i) = false := beq_eq_false_iff_ne.2 hxi
                rw [hxf, Bool.false_and]
            have HE := Lib.hid hput
            clear hc htx hnx hput
            go_wp2_with (first
              | (go_at_call 59; refine hct.mono ?_; rintro e w6 ⟨rfl, hb6⟩; have hb6c := cell_keep hbj hb6)
              | (at_mapUpdate; refine wpList_mapUpdate_Is _ rfl _ _ _ 91 rfl 3 4 (Maps.int_keyed Tryz.underlying3) Tryz.underlying91 w3.heap.size (j + 1) _ rfl (hmj.out.below hb6 hmj.out.lt) (by unfold maxLen; omega) _ _ _ rfl rfl HK.out ?_; intro w7 hm7 hg7; (try go_frame)))
            have hgne : gb ≠ w3.heap.size := by omega
            go_roundw
            case rel =>
              refine ⟨j + 1, by omega, by go_num, Lib.hid (by rw [← HE.out]; exact hm7), ?_, Nat.lt_of_lt_of_le (Nat.lt_of_lt_of_le hzj hb6.size) hg7.size, (below_step hBj hb6 hBj.size).grown hg7 (Nat.le_trans hBj.size hb6.size) (fun b hb => by cases hb; exact Nat.le_refl _)⟩
              exact (World.cell?_of_block (a := ⟨gb, 0, none⟩) (hg7.block gb (Nat.lt_of_lt_of_le hzj hb6.size) (fun e => hgne (Option.some.inj e)))).trans hb6c
            case measure => simp [intOf]; omega
        · have hje : j = n := by omega
          subst hje
          have hmf : MapIs wr Tryz.prog 3 w3.heap.size (j + 1) (setMap (metJ (needL l) a j od j)) := hmj.out
          have hall : ∀ i, i < j → metJ (needL l) a j od j i = hangs (needL l) a j i := fun i hi => by
            have hlo : od.length = j := by have := HX.out.2.2.2.2.2; simpa [toI] using this
            have := metJ_all (nd := needL l) (a := a) (N := j) (ord := od) (i := i) ((HX.out.2.2.2.2.1 i).2 hi)
            rw [hlo] at this
            exact this
          have HM := Lib.hid (And.intro hmf hall)
          clear hmj hmf hall
          go_wp2_with fail
          generalize hwq : wr = wq at *
          clear hwq
          go_loopw [13, 54] (fun v i wr => ∃ k : Nat, k ≤ j ∧ i = .int .i64 k ∧ Hid (wr.ownsRow wq.heap.size 3 1 v ((List.range k).filter (hangs (needL l) a j)).length ((toI ((List.range k).filter (hangs (needL l) a j))).flatMap intCs)) ∧ Below wq.heap.size wq wr) (fun _ i _ => j - (intOf i).toNat)
          case atStart => exact ⟨0, by omega, rfl, Lib.hid (by simpa using World.ownsRow_nil _ _ _ _), Below.refl _ _⟩
          case round =>
            obtain ⟨k, hk, rfl, hown, hbk⟩ := hrel
            have hbx2 := cell_keep hbj hbk
            have hgk : gb < wr.heap.size := Nat.lt_of_lt_of_le hzj hbk.size
            by_cases hltk : k < j
            · have hkk := Maps.keyOf_int_mk (P := Tryz.prog) (k := 3) Tryz.underlying3 (a := (k : Int)) (inI_small (by omega) (by omega))
              have hat := setMap_at (metJ (needL l) a j od j) k
              rw [HM.out.2 k hltk] at hat
              have hfl : ((List.range k).filter (hangs (needL l) a j)).length ≤ k := by
                have := List.length_filter_le (hangs (needL l) a j) (List.range k)
                rw [List.length_range] at this
                exact this
              have HK := Lib.hid (And.intro hkk (HM.out.1.below hbk HM.out.1.lt))
              clear hkk
              cases hh : hangs (needL l) a j k
              · rw [hh] at hat
                have HA := Lib.hid (And.intro (show setMap (metJ (needL l) a j od j) (.int .i64 (k : Int)) = none from hat) (hangsTo_no hh))
                clear hat hh
                go_wp2_with (at_lookup; refine wpList_lookup1_Is _ rfl _ _ 91 rfl 3 4 (Maps.int_keyed Tryz.underlying3) Tryz.underlying91 (Tryz.zeroBo9 _) w3.heap.size (j + 1) _ rfl HK.out.2 _ _ rfl HK.out.1 ?_; rw [HA.out.1]; simp only [Option.getD_none])
                go_roundw
                case rel => exact ⟨k + 1, by omega, by go_num, Lib.hid (by rw [HA.out.2]; exact hown.out), hbk⟩
                case measure => simp [intOf]; omega
              · rw [hh] at hat
                have HA := Lib.hid (And.intro (show setMap (metJ (needL l) a j od j) (.int .i64 (k : Int)) = some (.bool true) from hat) (hangsTo_yes hh))
                clear hat hh
                go_wp2_with (first
                  | (at_lookup; refine wpList_lookup1_Is _ rfl _ _ 91 rfl 3 4 (Maps.int_keyed Tryz.underlying3) Tryz.underlying91 (Tryz.zeroBo9 _) w3.heap.size (j + 1) _ rfl HK.out.2 _ _ rfl HK.out.1 ?_; rw [HA.out.1]; simp only [Option.getD_some])
                  | (at_builtin; refine wpList_append1 rfl _ _ 23 rfl wq.heap.size 3 i0 (.int .i64 0) 1 8 Tryz.underlying23 ei ez0 ez1 ez2 rfl (by decide) _ ((List.range k).filter (hangs (needL l) a j)).length _ rfl hown.out [.int .i64 (k : Int)] 3 rfl _ rfl rfl rfl (by simp [Value.oneCell']) (by omega) (by unfold maxLen; omega) (by have := hbk.size; omega) ?_; intro v6 w6 hown6 hb6 hz6 _))
                go_roundw
                case rel =>
                  refine ⟨k + 1, by omega, by go_num, Lib.hid ?_, below_step hbk hb6 (Nat.le_refl _)⟩
                  rw [HA.out.2, toI, List.map_append, List.flatMap_append, List.length_append]
                  simpa [toI] using hown6
                case measure => simp [intOf]; omega
            · have hke : k = j := by omega
              subst hke
              have hlen : (hangsL (needL l) a k).length ≤ k := by
                have := List.length_filter_le (hangs (needL l) a k) (List.range k)
                rw [List.length_range] at this
                exact this
              obtain ⟨A9, c9, e9, hc9, hs9⟩ := own_sli (l := toI (hangsL (needL l) a k)) hown.out (by simp [toI, hangsL]) (by
                intro y hy
                obtain ⟨z, hz, rfl⟩ := List.mem_map.1 hy
                have := List.mem_range.1 (List.mem_filter.1 (show z ∈ (List.range k).filter (hangs (needL l) a k) from hz)).1
                exact inI_small (by omega) (by omega))
              subst e9
              have HS := Lib.hid (And.intro hs9 hc9)
              clear hs9 hc9 hown
              have hBr : Below w.heap.size w wr := below_step hBwj hbk hBwj.size
              go_wp2_with fail
              go_ret2
              have hl2 : (toI (hangsL (needL l) a k)).length = ((List.range k).filter (hangs (needL l) a k)).length := by simp [toI, hangsL]
              exact ⟨A9, c9, by rw [hl2]; rfl, by rw [hl2]; exact HS.out.2, by rw [hl2]; exact HS.out.1.mono (fun b hb => ⟨by have := hb.1; have := hBwj.size; omega, hb.2⟩), hBr⟩
  · have hr : hangsR l name = ([], (rankR l).2.2) := by rw [hangsR, if_pos (by simpa using he)]
    have hro : orderR l = ([], (rankR l).2.2) := by rw [orderR, if_neg he]
    rw [hr]
    have g1 : ((rankR l).2.2 != 0) = true := by simpa using he
    have hof' : ∀ w, Sl w (old w) 9 (RFld w (old w)) L n l → Calls Tryz.prog 14 #[.slice L n d] w (fun e w' => ∃ A c, e = .returned (.tuple #[.slice A 0 c, .int .i64 (rankR l).2.2]) ∧ Below w.heap.size w w') := fun w h => (hof w h).mono (fun e w' q => by
      rw [hro] at q
      obtain ⟨A, c, q1, q2, q3, q4⟩ := q
      exact ⟨A, c, q1, q4⟩)
    generalize (rankR l).2.2 = er at *
    clear hof hl he hr hro hn hnd hN hst hfi
    go_enter Tryz.func15, Tryz.ntmps15
    go_wp2_with fail
    refine (hof' _ (HL.out.1.nowN keeps_Fld bel)).mono ?_; rintro e w1 ⟨A1, c1, rfl, hb1⟩; obtain ⟨hc1, hf1⟩ := bcell hb1; (try simp only [World.heap_drewN, World.cell?_drewN, World.frozen?_drewN] at hc1 hf1); have hz1 := hb1.size; (try simp at hz1); (try (have hy1 := Nat.lt_of_succ_le hz1)); (try (have hx1 := Nat.lt_of_succ_lt hy1)); refine szz w1 w ?_; intros
    go_wp2_with fail
    go_ret2
    exact ⟨none, 0, rfl, Nat.le_refl _, Sl.nil, bel⟩
end Go.Proofs.YtbhkpepinogigaaGreat
/- The reference FieldHangs. -/
namespace Go.Proofs.YtbhkpepinogigaaGreat
open Go.RowKit

/-- One element more; where the row lies then. -/
theorem wpList_append1c {P : Program} {ops : Array Oper} {rest : List Oper} {o : Oper} {a : Act} {Q : Exit → Act → World → Prop} {w W : World} (hgd : o.guard = none) (s x : Operand) (t : TypeId)
    (ho : o.op = .call { callee := .builtin .append, args := #[s, x], argTypes := #[t, t] })
    (base : Nat) (e : TypeId) (i : TypeInfo) (z : Value) (size bytes : Nat) (ht : P.underlying t = some (.slice e)) (hi : P.info? e = some i) (hz : i.zero = some z)
    (hsize : i.size = size) (hby : i.bytes = bytes) (hzs : z.cells.size = size) (hsz : 0 < size)
    (v : Value) (n : Nat) (xs : List Value) (hs : a.eval s = v) (hown : w.ownsRow base e size v n xs)
    (cs : List Value) (t' : TypeId) (hW : W = w.alloc (.cells cs.toArray t')) (g : Nat) (hx : a.eval x = .slice (some ⟨g, 0, none⟩) 1 1) (hg0 : g = w.heap.size) (hl : cs.length = size) (h1 : ∀ u ∈ cs, u.oneCell' = true)
    (hbytes : (n + 1) * bytes ≤ 140737488355328) (h63 : n + 1 ≤ maxLen) (hbase : base ≤ w.heap.size)
    (h : ∀ v' w', w'.ownsRow base e size v' (n + 1) (xs ++ cs) → Below base w w' → w.heap.size ≤ w'.heap.size → (∀ k, k < w.heap.size → some k ≠ v.ownBlock → w'.heap[k]? = w.heap[k]?) → (v'.ownBlock = v.ownBlock ∨ ∃ k, v'.ownBlock = some k ∧ w.heap.size ≤ k) → wpList P ops Q rest (a.put o.dst v') w') :
    wpList P ops Q (o :: rest) a W := by
  subst hW
  subst hg0
  refine wpList_plain hgd fun K hK => ?_
  obtain ⟨v', w', hr, h2, h3, h5⟩ := run_append_sl (P := P) (w.alloc (.cells cs.toArray t')) base t o.type e i z size bytes ht hi hz hsize hby hzs hsz v n xs (hown.alloc _) (some ⟨w.heap.size, 0, none⟩) 1 1 cs (by rw [hl, Nat.one_mul]) (fun p hp => by cases hp; exact news_new w cs t') (fun e => by cases e) h1 h63 hbytes (by simp; omega)
  unfold Oper.wp execOp
  simp only [ho, resolve, invoke, builtin, Sem.run_bind, Sem.run_pure, Result.andThen_ok, List.map_toArray, List.map_cons, List.map_nil, hs, hx, hr]
  have hsz' := h3.size
  simp only [World.size_alloc] at hsz'
  refine hK _ _ (h v' w' h2 ?_ (by omega) (fun k hk hne => ?_) ?_)
  · exact ((Below.refl base w).alloc hbase _).grown h3 (by simp; omega) fun k hk => (hown.lt k hk).1
  · rw [h3.block k (by simp; omega) hne]
    exact Below.heap_alloc w _ k hk
  · rcases h5 with h5 | h5
    · exact .inl h5
    · exact .inr ⟨_, h5, by simp⟩
/-- What the reference has met: each once, all of them hang, a among them. -/
def OnOk (l : List Fld) (a : Nat) (P : List Nat) : Prop := PathC l.length P ∧ a ∈ P ∧ ∀ i ∈ P, hangs (needL l) a l.length i = true
theorem OnOk.push {l : List Fld} {a i k : Nat} {P : List Nat} (he : (rankR l).2.2 = 0) (h : OnOk l a P) (hi : i < l.length) (hk : k ∈ P) (hn : k ∈ ndAt (needL l) i) (hni : P.any (fun x => x == i) = false) : OnOk l a (P ++ [i]) := by
  obtain ⟨hfe, _⟩ := rankR_zero he
  obtain ⟨r, hr, _⟩ := rankR_some he i hi
  refine ⟨h.1.snoc hi hni, List.mem_append_left _ h.2.1, fun x hx => ?_⟩
  rcases List.mem_append.1 hx with hx | hx
  · exact h.2.2 x hx
  · simp at hx
    subst hx
    rw [hangs_eq (needL_lt hfe) hi hr (fun s hs => by obtain ⟨q, hq, _⟩ := rankR_some he s hs; rw [hq]; rfl)]
    have : (ndAt (needL l) x).any (hangs (needL l) a l.length) = true := List.any_eq_true.2 ⟨k, hn, h.2.2 k hk⟩
    rw [this, Bool.or_true]
/-- t rounds are done, and the first m fields of the next one. -/
def OnAt (l : List Fld) (a t m : Nat) (P : List Nat) : Prop := (∀ i, i < l.length → hgK (needL l) a t i = true → i ∈ P) ∧ ∀ i, i < m → i < l.length → hgK (needL l) a (t + 1) i = true → i ∈ P
theorem OnAt.mono {l : List Fld} {a t m : Nat} {P Q : List Nat} (h : OnAt l a t m P) (hs : ∀ x ∈ P, x ∈ Q) : OnAt l a t m Q := ⟨fun i hi hh => hs i (h.1 i hi hh), fun i hm hi hh => hs i (h.2 i hm hi hh)⟩
theorem OnAt.round {l : List Fld} {a t : Nat} {P : List Nat} (h : OnAt l a t l.length P) : OnAt l a (t + 1) 0 P := ⟨fun i hi hh => h.2 i hi hi hh, fun i hm => absurd hm (Nat.not_lt_zero _)⟩
theorem OnAt.next {l : List Fld} {a t m : Nat} {P : List Nat} (h : OnAt l a t m P) (ha : a ∈ P) (hm : ∀ s ∈ ndAt (needL l) m, hgK (needL l) a t s = true → m ∈ P) : OnAt l a t (m + 1) P := by
  refine ⟨h.1, fun i him hi hh => ?_⟩
  by_cases he : i = m
  · subst he
    simp only [hgK, Bool.or_eq_true] at hh
    rcases hh with hh | hh
    · have : i = a := by simpa using hh
      subst this; exact ha
    · obtain ⟨s, hs, h2⟩ := List.any_eq_true.1 hh
      exact hm s hs h2
  · exact h.2 i (by omega) hi hh
theorem on_final {l : List Fld} {a : Nat} {P : List Nat} (h : OnOk l a P) (h2 : OnAt l a l.length 0 P) {i : Nat} (hi : i < l.length) : P.any (fun x => x == i) = hangs (needL l) a l.length i := by
  rw [Bool.eq_iff_iff, List.any_eq_true]
  constructor
  · rintro ⟨x, hx, e⟩
    have : x = i := by simpa using e
    subst this
    exact h.2.2 x hx
  · intro hh
    exact ⟨i, h2.1 i hi hh, by simp⟩

set_option maxRecDepth 100000 in
set_option maxHeartbeats 4000000 in
theorem ref_FieldHangs (l : List Fld) (L : Option Addr) (n d : Nat) (name : ByteArray) (w : World) (hn : inB 112 n) (hl : Sl w (old w) 9 (RFld w (old w)) L n l) (hnm : inS name) (hN : ∀ f ∈ l, f.source.nodes ≤ 1048576) (hst : ∀ f ∈ l, inS f.name ∧ ∀ s ∈ askN f.source, inS s) :
    Calls Tryz.prog 17 #[.slice L n d, .string name] w (RetIntsC w (hangsR l name)) := by
  have hof := fun w h => ref_FieldRanks l L n d w hn h hN hst
  have hfi := fun w h => ref_FieldAt L n d l name w (hn.l (by decide)) h
  have hlen := hl.len
  have HL := Lib.hid (And.intro hl hlen)
  by_cases he : (rankR l).2.2 = 0
  · obtain ⟨hfe, hr0⟩ := rankR_zero he
    have h14 : n ≤ 14 := by rw [← hlen]; exact (fieldsErr_all hfe).1
    have hof' : ∀ w, Sl w (old w) 9 (RFld w (old w)) L n l → Calls Tryz.prog 61 #[.slice L n d] w (fun e w' => ∃ A c B d' m, e = .returned (.tuple #[.slice A m c, .slice B 0 d', .int .i64 0]) ∧ Below w.heap.size w w') := fun w h => (hof w h).mono (fun e w' q => by
      rw [hr0] at q
      obtain ⟨A, c, B, d, q1, q2, q3, q4, q5, q6⟩ := q
      exact ⟨A, c, B, d, _, q1, q6⟩)
    cases hany : l.any (hasName name)
    · have hr : hangsR l name = ([], 5) := by rw [hangsR, if_neg (by simpa using he), if_neg (by rw [hany]; decide)]
      have hfa : firstAt (hasName name) l = n := by rw [firstAt_none _ _ hany, hlen]
      rw [hr]
      rw [hfa] at hfi
      clear hof hr he hr0 hl hany hN hst hn hfe hfa hlen
      go_enter Tryz.func17, Tryz.ntmps17
      go_wp2_with fail
      refine (hof' _ (HL.out.1.nowN keeps_Fld bel)).mono ?_; rintro e w1 ⟨A1, c1, B1, d1, m1, rfl, hb1⟩; obtain ⟨hc1, hf1⟩ := bcell hb1; (try simp only [World.heap_drewN, World.cell?_drewN, World.frozen?_drewN] at hc1 hf1); have hz1 := hb1.size; (try simp at hz1); (try (have hy1 := Nat.lt_of_succ_le hz1)); (try (have hx1 := Nat.lt_of_succ_lt hy1)); refine szz w1 w ?_; intros
      go_wp2_with fail
      refine (hfi _ (HL.out.1.nowN keeps_Fld bel)).mono ?_; rintro e w2 ⟨rfl, hb2⟩; obtain ⟨hc2, hf2⟩ := bcell hb2; (try simp only [World.heap_drewN, World.cell?_drewN, World.frozen?_drewN] at hc2 hf2); have hz2 := hb2.size; (try simp at hz2); (try (have hy2 := Nat.lt_of_succ_le hz2)); (try (have hx2 := Nat.lt_of_succ_lt hy2)); refine szz w2 w ?_; intros; refine szz w2 w1 ?_; intros
      go_wp2_with fail
      go_ret2
      exact ⟨none, 0, rfl, Nat.le_refl _, Sl.nil, bel⟩
    · have hr : hangsR l name = (toI (hangsL (needL l) (fieldAt l name) l.length), 0) := by rw [hangsR, if_neg (by simpa using he), if_pos hany]
      have hal : fieldAt l name < n := by rw [← hlen]; exact (fieldAt_some hany).1
      have hna := nameAt_field hany
      have hfa : firstAt (hasName name) l = fieldAt l name := rfl
      rw [hr]
      rw [hfa] at hfi
      obtain ⟨i0, ei, ez0, ez1, ez2⟩ := info_parts Tryz.infoIn9
      obtain ⟨s0, fi, fz0, fz1, fz2⟩ := info_parts Tryz.infoStr'
      generalize fieldAt l name = a at *
      have HX := Lib.hid (And.intro he (And.intro hfe (And.intro hN (And.intro hst (And.intro hlen hna)))))
      have gan : ((a : Int) == (n : Int)) = false := by simp only [beq_eq_false_iff_ne, ne_eq]; omega
      clear hof hr he hr0 hl hany hN hst hn hfe hfa hna
      go_enter Tryz.func17, Tryz.ntmps17
      go_wp2_with fail
      refine (hof' _ (HL.out.1.nowN keeps_Fld bel)).mono ?_; rintro e w1 ⟨A1, c1, B1, d1, m1, rfl, hb1⟩; obtain ⟨hc1, hf1⟩ := bcell hb1; (try simp only [World.heap_drewN, World.cell?_drewN, World.frozen?_drewN] at hc1 hf1); have hz1 := hb1.size; (try simp at hz1); (try (have hy1 := Nat.lt_of_succ_le hz1)); (try (have hx1 := Nat.lt_of_succ_lt hy1)); refine szz w1 w ?_; intros
      go_wp2_with fail
      refine (hfi _ (HL.out.1.nowN keeps_Fld bel)).mono ?_; rintro e w2 ⟨rfl, hb2⟩; obtain ⟨hc2, hf2⟩ := bcell hb2; (try simp only [World.heap_drewN, World.cell?_drewN, World.frozen?_drewN] at hc2 hf2); have hz2 := hb2.size; (try simp at hz2); (try (have hy2 := Nat.lt_of_succ_le hz2)); (try (have hx2 := Nat.lt_of_succ_lt hy2)); refine szz w2 w ?_; intros; refine szz w2 w1 ?_; intros
      have hB2 : Below w.heap.size w w2 := bel
      have hrow0 := own_str w2 9 name
      have hal' : Below w2.heap.size w2 (w2.alloc (.cells #[.string name] 9)) := bel
      have hP0 : OnOk l a [a] := ⟨⟨by simp, fun x hx => by simp at hx; subst hx; rw [HX.out.2.2.2.2.1]; exact hal⟩, by simp, fun i hi => by simp at hi; subst hi; exact hangs_self _ _ _⟩
      have hT0 : OnAt l a 0 0 [a] := ⟨fun i _ hh => by simpa [hgK] using hh, fun i hi => absurd hi (Nat.not_lt_zero _)⟩
      have H0 := Lib.hid (And.intro hrow0 (And.intro hP0 hT0))
      clear hrow0 hP0 hT0
      go_wp2_with fail
      go_loopw [9, 36] (fun v i wr => ∃ (P : List Nat) (t : Nat), t ≤ n ∧ i = .int .i64 t ∧ Hid (wr.ownsRow w2.heap.size 9 1 v P.length ((P.map (nameAt l)).flatMap strCs)) ∧ Hid (OnOk l a P ∧ OnAt l a t 0 P) ∧ Below w2.heap.size w2 wr) (fun _ i _ => n - (intOf i).toNat)
      case atStart => exact ⟨[a], 0, by omega, rfl, Lib.hid (by simpa [HX.out.2.2.2.2.2] using H0.out.1), Lib.hid H0.out.2, hal'⟩
      case round =>
        obtain ⟨P, t, ht, rfl, hown, hon, hbr⟩ := hrel
        by_cases hltt : t < n
        · go_wp2_with fail
          go_loopw [9, 40] (fun v i wr => ∃ (P : List Nat) (m : Nat), m ≤ n ∧ i = .int .i64 m ∧ Hid (wr.ownsRow w2.heap.size 9 1 v P.length ((P.map (nameAt l)).flatMap strCs)) ∧ Hid (OnOk l a P ∧ OnAt l a t m P) ∧ Below w2.heap.size w2 wr) (fun _ i _ => n - (intOf i).toNat)
          case atStart => exact ⟨P, 0, by omega, rfl, hown, hon, hbr⟩
          case round =>
            obtain ⟨P2, m, hm, rfl, hown2, hon2, hbr2⟩ := hrel
            have hBw : Below w.heap.size w wr := below_step hB2 hbr2 hB2.size
            by_cases hltm : m < n
            · obtain ⟨b, o, f, X, C, hAe, hbl, hlf, hrep, x0, x1, x2, x3, x4, x5, x6, x7, x8⟩ := Fld_at (HL.out.1.nowN keeps_Fld hBw) hltm
              subst hAe
              have hbl' : b < wr.heap.size := hbl
              have hfm := List.mem_of_getElem? hlf
              have hnf := HX.out.2.2.1 f hfm
              have hsf := HX.out.2.2.2.1 f hfm
              have hso := fun w h => ref_sources f X C w hnf hsf.2 h
              have hnd := ndAt_need hlf
              have hsi : ∀ s ∈ srcN f, inS s ∧ l.any (hasName s) = true := fun s hs => by
                refine ⟨?_, ((fieldsErr_all HX.out.2.1).2 m f hlf).2.2.2.2 s hs⟩
                unfold srcN at hs
                split at hs
                · cases hs
                · exact hsf.2 s ((rise_mem _ _).1 hs)
              have hsl : (srcN f).length ≤ 1048576 := by
                unfold srcN
                split
                · simp
                · exact Nat.le_trans (rise_len _) (Nat.le_trans (askN_nodes _) hnf)
              have hfn := nameAt_at hlf
              generalize srcN f = ss at *
              have HF := Lib.hid (And.intro hrep (And.intro hsi (And.intro hnd (And.intro hfn hsf.1))))
              clear hbl hlf hrep hfm hnf hsf hsi hnd hfn
              go_wp2_with (go_at_call 63; refine (hso _ (HF.out.1.keep (old_keep bel))).mono ?_; rintro e w4 ⟨v4, rfl, ho4, hb4⟩; obtain ⟨A4, c4, rfl, hca4, hs4⟩ := own_slw9 ho4 rfl (fun s hs => (HF.out.2.1 s hs).1); obtain ⟨hc4, hf4⟩ := bcell hb4; (try simp only [World.heap_drewN, World.cell?_drewN, World.frozen?_drewN] at hc4 hf4); have hz4 := hb4.size; (try simp at hz4); (try (have hy4 := Nat.lt_of_succ_le hz4)); (try (have hx4 := Nat.lt_of_succ_lt hy4)); refine szz w4 wr ?_; intros)
              have hB4 : Below wr.heap.size wr w4 := bel
              have hx4 : w4.cell? ⟨wr.heap.size, 0, none⟩ = some (.string f.name) := (hb4.cell (p := ⟨wr.heap.size, 0, none⟩) (by simp)).trans (by first | (go_simp; done) | (go_simp; exact World.cell?_setCell_same' _ _ _ (by go_simp)))
              have hzz4 : wr.heap.size < w4.heap.size := by have := hb4.size; simp at this; omega
              have hr4 := ownsRow_keep hown2.out hB4
              have hlt4 := hown2.out.lt
              have hs4' : Sl w4 (fun b => wr.heap.size ≤ b ∧ b < w4.heap.size) 1 RStr A4 ss.length ss := hs4.mono (fun b hb => ⟨by have := hb.1; simp at this; omega, hb.2⟩)
              have HS4 := Lib.hid (And.intro hs4' hr4)
              have hB24 : Below w2.heap.size w2 w4 := below_step hbr2 hB4 hbr2.size
              clear hs4 hs4' hr4 ho4 hso
              generalize hwq : wr = wq at *
              clear hwq
              go_loopw [9, 47] (fun v i wr => ∃ (P : List Nat) (q : Nat), q ≤ ss.length ∧ i = .int .i64 q ∧ Hid (wr.ownsRow w2.heap.size 9 1 v P.length ((P.map (nameAt l)).flatMap strCs)) ∧ Hid (OnOk l a P ∧ OnAt l a t m P ∧ ∀ s ∈ ss.take q, hgK (needL l) a t (fieldAt l s) = true → m ∈ P) ∧
                Hid ((∀ b, wq.heap.size ≤ b → b < w4.heap.size → wr.heap[b]? = w4.heap[b]?) ∧ ∀ k, v.ownBlock = some k → k < wq.heap.size ∨ w4.heap.size ≤ k) ∧ w4.heap.size ≤ wr.heap.size ∧ Below w2.heap.size w2 wr) (fun _ i _ => ss.length - (intOf i).toNat)
              case atStart => exact ⟨P2, 0, by omega, rfl, Lib.hid HS4.out.2, Lib.hid ⟨hon2.out.1, hon2.out.2, fun s h => absurd h (by simp)⟩, Lib.hid ⟨fun b _ _ => rfl, fun k hk => .inl (hlt4 k hk).2⟩, Nat.le_refl _, hB24⟩
              case round =>
                obtain ⟨P3, q, hq, rfl, hown3, hon3, hfr, hz3, hbr3⟩ := hrel
                have hpl := hon3.out.1.1.len
                have hlen' := HX.out.2.2.2.2.1
                have hBr3 : Below w.heap.size w wr := below_step hB2 hbr3 hB2.size
                have hml : m < l.length := by omega
                have hin : ∀ s ∈ P3.map (nameAt l), inS s := by
                  intro s hs
                  obtain ⟨x, hx, rfl⟩ := List.mem_map.1 hs
                  have hxl := hon3.out.1.1.2 x hx
                  rw [nameAt_at (List.getElem?_eq_getElem hxl)]
                  exact (HX.out.2.2.2.1 _ (List.getElem_mem hxl)).1
                obtain ⟨A9, c9, e9, hca9, hs9⟩ := ownStr hown3.out (by simp) hin
                subst e9
                have HS9 := Lib.hid hs9
                clear hs9 hin
                by_cases hltq : q < ss.length
                · obtain ⟨b3, o3, s, hA3, hb3, hls, hins, y0⟩ := Str_at (HS4.out.1.keep (w' := wr) (fun b hb => hfr.out.1 b hb.1 hb.2) (fun _ _ h => h)) hltq
                  subst hA3
                  have hb3' : b3 < wr.heap.size := Nat.lt_of_lt_of_le hb3.2 hz3
                  have hsm := HF.out.2.1 s (List.mem_of_getElem? hls)
                  have hkl := (fieldAt_some hsm.2).1
                  have hxr : wr.cell? ⟨wq.heap.size, 0, none⟩ = some (.string f.name) := (World.cell?_of_block (a := ⟨wq.heap.size, 0, none⟩) (hfr.out.1 wq.heap.size (Nat.le_refl _) hzz4)).trans hx4
                  have hlw : wq.heap.size < wr.heap.size := Nat.lt_of_lt_of_le hzz4 hz3
                  have hh1 := fun w h => ref_holds s A9 P3.length c9 (P3.map (nameAt l)) w (by unfold inL; omega) h
                  have hh2 := fun w h => ref_holds f.name A9 P3.length c9 (P3.map (nameAt l)) w (by unfold inL; omega) h
                  have ha1 := any_nameAt HX.out.2.1 hkl P3 hon3.out.1.1.2
                  rw [nameAt_field hsm.2] at ha1
                  have ha2 := any_nameAt HX.out.2.1 hml P3 hon3.out.1.1.2
                  rw [HF.out.2.2.2.1] at ha2
                  rw [ha1] at hh1
                  rw [ha2] at hh2
                  have hnd : fieldAt l s ∈ ndAt (needL l) m := by rw [HF.out.2.2.1]; exact List.mem_map.2 ⟨s, List.mem_of_getElem? hls, rfl⟩
                  have htk : ss.take (q + 1) = ss.take q ++ [s] := by rw [List.take_add_one, hls]; rfl
                  have HN := Lib.hid (And.intro hnd (And.intro htk hkl))
                  clear hb3 hls hins hsm hkl ha1 ha2 hnd htk
                  cases h1 : P3.any (fun x => x == fieldAt l s)
                  · rw [h1] at hh1
                    have HE := Lib.hid (show ∀ z ∈ ss.take (q + 1), hgK (needL l) a t (fieldAt l z) = true → m ∈ P3 by
                      intro z hz hh
                      rw [HN.out.2.1] at hz
                      rcases List.mem_append.1 hz with hz | hz
                      · exact hon3.out.2.2 z hz hh
                      · simp at hz
                        subst hz
                        have := hon3.out.2.1.1 _ HN.out.2.2 hh
                        rw [List.any_eq_false] at h1
                        exact absurd (by simp) (h1 _ this))
                    clear h1 hh2
                    go_wp2_with (go_at_call 64; refine (hh1 _ (HS9.out.now bel)).mono ?_; rintro e w5 ⟨rfl, hb5⟩)
                    go_roundw
                    case rel => exact ⟨P3, q + 1, by omega, by go_num, Lib.hid (ownsRow_keep hown3.out hb5), Lib.hid ⟨hon3.out.1, hon3.out.2.1, HE.out⟩, Lib.hid ⟨fun b h1 h2 => (hb5.block b (Nat.lt_of_lt_of_le h2 hz3)).trans (hfr.out.1 b h1 h2), hfr.out.2⟩, Nat.le_trans hz3 hb5.size, below_step hbr3 hb5 hbr3.size⟩
                    case measure => simp [intOf]; omega
                  · rw [h1] at hh1
                    have hkP : fieldAt l s ∈ P3 := by
                      obtain ⟨x, hx, e⟩ := List.any_eq_true.1 h1
                      have : x = fieldAt l s := by simpa using e
                      rw [← this]; exact hx
                    cases h2 : P3.any (fun x => x == m)
                    · rw [h2] at hh2
                      have HP := Lib.hid (OnOk.push HX.out.1 hon3.out.1 hml hkP HN.out.1 h2)
                      have hpl2 : P3.length + 1 ≤ 14 := by have := HP.out.1.len; simp at this; omega
                      clear h1 h2 hkP
                      go_wp2_with fail
                      refine (hh1 _ (HS9.out.now bel)).mono ?_; rintro e w5 ⟨rfl, hb5⟩
                      have hlw5 : wq.heap.size < w5.heap.size := Nat.lt_of_lt_of_le hlw hb5.size
                      have hxr5 := cell_keep hxr hb5
                      go_wp2_with fail
                      refine (hh2 _ (HS9.out.now hb5)).mono ?_; rintro e w6 ⟨rfl, hb6⟩
                      have hxr6 := cell_keep hxr5 hb6
                      have hlw6 : wq.heap.size < w6.heap.size := Nat.lt_of_lt_of_le hlw5 hb6.size
                      have hb56 : Below wr.heap.size wr w6 := below_chain hb5 hb6
                      go_wp2_with (at_builtin; refine wpList_append1c rfl _ _ 37 rfl w2.heap.size 9 s0 (.string ⟨#[]⟩) 1 16 Tryz.underlying37 fi fz0 fz1 fz2 rfl (by decide) _ P3.length _ rfl (ownsRow_keep hown3.out hb56) [.string f.name] 9 rfl _ rfl rfl rfl (by simp [Value.oneCell']) (by omega) (by unfold maxLen; omega) (by have := hbr3.size; have := hb56.size; omega) ?_; intro v7 w7 hown7 hb7 hz7 hk7 hat7)
                      go_roundw
                      case rel =>
                        have hz6 : w4.heap.size ≤ w6.heap.size := Nat.le_trans hz3 hb56.size
                        refine ⟨P3 ++ [m], q + 1, by omega, by go_num, Lib.hid ?_, Lib.hid ⟨HP.out, hon3.out.2.1.mono (fun x hx => List.mem_append_left _ hx), fun z _ _ => by simp⟩, Lib.hid ⟨fun b h1 h2 => ?_, fun k hk => ?_⟩, Nat.le_trans hz6 hz7, below_step (below_step hbr3 hb56 hbr3.size) hb7 (Nat.le_refl _)⟩
                        · rw [List.map_append, List.flatMap_append, List.length_append]
                          simpa [HF.out.2.2.2.1] using hown7
                        · rw [hk7 b (by omega) (fun e => by rcases hfr.out.2 b e.symm with h | h <;> omega)]
                          exact (hb56.block b (Nat.lt_of_lt_of_le h2 hz3)).trans (hfr.out.1 b h1 h2)
                        · rcases hat7 with h | ⟨k', h, hk'⟩
                          · rw [h] at hk; exact hfr.out.2 k hk
                          · rw [h] at hk
                            have : k' = k := Option.some.inj hk
                            right; omega
                      case measure => simp [intOf]; omega
                    · rw [h2] at hh2
                      have hmP : m ∈ P3 := by
                        obtain ⟨x, hx, e⟩ := List.any_eq_true.1 h2
                        have : x = m := by simpa using e
                        rw [← this]; exact hx
                      have HM := Lib.hid hmP
                      clear h1 h2 hkP hmP
                      go_wp2_with fail
                      refine (hh1 _ (HS9.out.now bel)).mono ?_; rintro e w5 ⟨rfl, hb5⟩
                      have hlw5 : wq.heap.size < w5.heap.size := Nat.lt_of_lt_of_le hlw hb5.size
                      have hxr5 := cell_keep hxr hb5
                      go_wp2_with fail
                      refine (hh2 _ (HS9.out.now hb5)).mono ?_; rintro e w6 ⟨rfl, hb6⟩
                      have hb56 : Below wr.heap.size wr w6 := below_chain hb5 hb6
                      go_wp2_with fail
                      go_roundw
                      case rel => exact ⟨P3, q + 1, by omega, by go_num, Lib.hid (ownsRow_keep hown3.out hb56), Lib.hid ⟨hon3.out.1, hon3.out.2.1, fun _ _ _ => HM.out⟩, Lib.hid ⟨fun b h1 h2 => (hb56.block b (Nat.lt_of_lt_of_le h2 hz3)).trans (hfr.out.1 b h1 h2), hfr.out.2⟩, Nat.le_trans hz3 hb56.size, below_step hbr3 hb56 hbr3.size⟩
                      case measure => simp [intOf]; omega
                · have hqe : q = ss.length := by omega
                  subst hqe
                  have hnx := hon3.out.2.1.next hon3.out.1.2.1 (fun k hk hh => by
                    rw [HF.out.2.2.1] at hk
                    obtain ⟨s, hs, rfl⟩ := List.mem_map.1 hk
                    exact hon3.out.2.2 s (by rw [List.take_length]; exact hs) hh)
                  have HE := Lib.hid (And.intro hon3.out.1 hnx)
                  clear hnx
                  go_wp2_with fail
                  go_roundw
                  case rel => exact ⟨P3, m + 1, by omega, by go_num, hown3, HE, hbr3⟩
                  case measure => simp [intOf]; omega
            · have hme : m = n := by omega
              subst hme
              have hon3 := hon2.out
              rw [show m = l.length from HX.out.2.2.2.2.1.symm] at hon3
              have HO := Lib.hid (And.intro hon3.1 hon3.2.round)
              clear hon3
              go_wp2_with fail
              go_roundw
              case rel => exact ⟨P2, t + 1, by omega, by go_num, hown2, HO, hbr2⟩
              case measure => simp [intOf]; omega
        · have hte : t = n := by omega
          subst hte
          have hlen' := HX.out.2.2.2.2.1
          have hBw : Below w.heap.size w wr := below_step hB2 hbr hB2.size
          have hpl := hon.out.1.1.len
          have hon2 := hon.out.2
          rw [show t = l.length from hlen'.symm] at hon2
          have hfin : ∀ i, i < l.length → P.any (fun x => x == i) = hangs (needL l) a l.length i := fun i hi => on_final hon.out.1 hon2 hi
          have hin : ∀ s ∈ P.map (nameAt l), inS s := by
            intro s hs
            obtain ⟨x, hx, rfl⟩ := List.mem_map.1 hs
            have hxl := hon.out.1.1.2 x hx
            rw [nameAt_at (List.getElem?_eq_getElem hxl)]
            exact (HX.out.2.2.2.1 _ (List.getElem_mem hxl)).1
          obtain ⟨A9, c9, e9, hca9, hs9⟩ := ownStr hown.out (by simp) hin
          subst e9
          have HS9 := Lib.hid (And.intro hs9 hfin)
          clear hs9 hin hfin hon2
          go_wp2_with fail
          generalize hwq : wr = wq at *
          clear hwq
          go_loopw [14, 71] (fun v i wr => ∃ k : Nat, k ≤ t ∧ i = .int .i64 k ∧ Hid (wr.ownsRow wq.heap.size 3 1 v ((List.range k).filter (hangs (needL l) a l.length)).length ((toI ((List.range k).filter (hangs (needL l) a l.length))).flatMap intCs)) ∧ Below wq.heap.size wq wr) (fun _ i _ => t - (intOf i).toNat)
          case atStart => exact ⟨0, by omega, rfl, Lib.hid (by simpa using World.ownsRow_nil _ _ _ _), Below.refl _ _⟩
          case round =>
            obtain ⟨k, hk, rfl, hown4, hbk⟩ := hrel
            have hBk : Below w.heap.size w wr := below_step hBw hbk hBw.size
            by_cases hltk : k < t
            · obtain ⟨b, o, f, X, C, hAe, hbl, hlf, hrep, x0, x1, x2, x3, x4, x5, x6, x7, x8⟩ := Fld_at (HL.out.1.nowN keeps_Fld hBk) hltk
              subst hAe
              have hbl' : b < wr.heap.size := hbl
              have hkl : k < l.length := by omega
              have ha1 := any_nameAt HX.out.2.1 hkl P hon.out.1.1.2
              rw [nameAt_at hlf, HS9.out.2 k hkl] at ha1
              have hh1 := fun w h => ref_holds f.name A9 P.length c9 (P.map (nameAt l)) w (by unfold inL; omega) h
              rw [ha1] at hh1
              have hfl : ((List.range k).filter (hangs (needL l) a l.length)).length ≤ k := by
                have := List.length_filter_le (hangs (needL l) a l.length) (List.range k)
                rw [List.length_range] at this
                exact this
              clear hbl hlf hrep ha1
              cases hh : hangs (needL l) a l.length k
              · rw [hh] at hh1
                have HA := Lib.hid (hangsTo_no hh)
                clear hh
                go_wp2_with (go_at_call 64; refine (hh1 _ (HS9.out.1.now (below_chain hbk (show Below wr.heap.size wr _ from bel)))).mono ?_; rintro e w5 ⟨rfl, hb5⟩)
                have hb5' : Below wr.heap.size wr w5 := bel
                go_roundw
                case rel => exact ⟨k + 1, by omega, by go_num, Lib.hid (by rw [HA.out]; exact ownsRow_keep hown4.out hb5'), below_step hbk hb5' hbk.size⟩
                case measure => simp [intOf]; omega
              · rw [hh] at hh1
                have HA := Lib.hid (hangsTo_yes hh)
                clear hh
                go_wp2_with (first
                  | (go_at_call 64; refine (hh1 _ (HS9.out.1.now (below_chain hbk (show Below wr.heap.size wr _ from bel)))).mono ?_; rintro e w5 ⟨rfl, hb5⟩; have hb5' : Below wr.heap.size wr w5 := bel)
                  | (at_builtin; refine wpList_append1 rfl _ _ 23 rfl wq.heap.size 3 i0 (.int .i64 0) 1 8 Tryz.underlying23 ei ez0 ez1 ez2 rfl (by decide) _ ((List.range k).filter (hangs (needL l) a l.length)).length _ rfl (ownsRow_keep hown4.out hb5') [.int .i64 (k : Int)] 3 rfl _ rfl rfl rfl (by simp [Value.oneCell']) (by omega) (by unfold maxLen; omega) (by have := hbk.size; have := hb5'.size; omega) ?_; intro v6 w6 hown6 hb6 hz6 _))
                go_roundw
                case rel =>
                  refine ⟨k + 1, by omega, by go_num, Lib.hid ?_, below_step (below_step hbk hb5' hbk.size) hb6 (Nat.le_refl _)⟩
                  rw [HA.out, toI, List.map_append, List.flatMap_append, List.length_append]
                  simpa [toI] using hown6
                case measure => simp [intOf]; omega
            · have hke : k = t := by omega
              subst hke
              have hlen2 : (hangsL (needL l) a l.length).length ≤ k := by
                have := List.length_filter_le (hangs (needL l) a l.length) (List.range l.length)
                rw [List.length_range] at this
                unfold hangsL
                omega
              have ho := hown4.out
              rw [show k = l.length from hlen'.symm] at ho
              obtain ⟨A8, c8, e8, hc8, hs8⟩ := own_sli (l := toI (hangsL (needL l) a l.length)) ho (by simp [toI, hangsL]) (by
                intro y hy
                obtain ⟨z, hz, rfl⟩ := List.mem_map.1 hy
                have := List.mem_range.1 (List.mem_filter.1 (show z ∈ (List.range l.length).filter (hangs (needL l) a l.length) from hz)).1
                exact inI_small (by omega) (by omega))
              subst e8
              have HS := Lib.hid (And.intro hs8 hc8)
              clear hs8 hc8 ho
              go_wp2_with fail
              go_ret2
              have hl2 : (toI (hangsL (needL l) a l.length)).length = ((List.range l.length).filter (hangs (needL l) a l.length)).length := by simp [toI, hangsL]
              exact ⟨A8, c8, by rw [hl2]; rfl, by rw [hl2]; exact HS.out.2, by rw [hl2]; exact HS.out.1.mono (fun b hb => ⟨by have := hb.1; have := hBw.size; omega, hb.2⟩), hBk⟩
  · obtain ⟨lo, lc, er, hr⟩ : ∃ lo lc er, rankR l = (lo, lc, er) := ⟨_, _, _, rfl⟩
    have hrr : hangsR l name = ([], er) := by rw [hangsR, if_pos (by simpa using he), hr]
    rw [hrr]
    rw [hr] at he
    have g1 : (er != 0) = true := by simpa using he
    have hof' : ∀ w, Sl w (old w) 9 (RFld w (old w)) L n l → Calls Tryz.prog 61 #[.slice L n d] w (fun e w' => ∃ A c B d', e = .returned (.tuple #[.slice A lo.length c, .slice B lc.length d', .int .i64 er]) ∧ Below w.heap.size w w') := fun w h => (hof w h).mono (fun e w' q => by
      rw [hr] at q
      obtain ⟨A, c, B, d, q1, q2, q3, q4, q5, q6⟩ := q
      exact ⟨A, c, B, d, q1, q6⟩)
    clear hof hl he hr hrr hn hN hst hfi hlen
    go_enter Tryz.func17, Tryz.ntmps17
    go_wp2_with fail
    refine (hof' _ (HL.out.1.nowN keeps_Fld bel)).mono ?_; rintro e w1 ⟨A1, c1, B1, d1, rfl, hb1⟩; obtain ⟨hc1, hf1⟩ := bcell hb1; (try simp only [World.heap_drewN, World.cell?_drewN, World.frozen?_drewN] at hc1 hf1); have hz1 := hb1.size; (try simp at hz1); (try (have hy1 := Nat.lt_of_succ_le hz1)); (try (have hx1 := Nat.lt_of_succ_lt hy1)); refine szz w1 w ?_; intros
    go_wp2_with fail
    go_ret2
    exact ⟨none, 0, rfl, Nat.le_refl _, Sl.nil, bel⟩
end Go.Proofs.YtbhkpepinogigaaGreat
