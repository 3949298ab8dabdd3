/- Rows of letters: slices.Clone, Equal, Delete. -/
import Derived.Test.YtdngggllkjahcaaRow
namespace Go.Proofs.Ytdngggllkjahcaa
open Go.RowKit

theorem Try.infoLtr : (Try.prog.info? 31).map (fun i => (i.zero, i.size, i.bytes)) = some (some (.agg #[.string ⟨#[]⟩, .int .i64 0, .int .i64 0, .int .i64 0, .string ⟨#[]⟩, .int .i64 0, .int .i64 0, .string ⟨#[]⟩]), 8, 88) := by kernel_rfl
theorem oneLtr (l : List Ltr) : ∀ u ∈ l.flatMap Ltr.cs, u.oneCell' = true := by
  intro u hu
  obtain ⟨x, _, hx⟩ := List.mem_flatMap.1 hu
  simp only [Ltr.cs, List.mem_cons, List.not_mem_nil, or_false] at hx
  rcases hx with rfl | rfl | rfl | rfl | rfl | rfl | rfl | rfl <;> rfl
theorem lenLtr (x : Ltr) : x.cs.length = 8 := rfl
theorem Sl.cellsLtr {w : World} {S : Nat → Prop} {A : Option Addr} {n : Nat} {l : List Ltr} (h : Sl w S 8 RLtr A n l) : ∀ p, A = some p → ∀ j u, (l.flatMap Ltr.cs)[j]? = some u → w.cell? (p.add j) = some u :=
  Sl.cells (by decide) lenLtr (fun _ _ h => h.1) h
theorem Sl.wfLtr {w : World} {S : Nat → Prop} {A : Option Addr} {n : Nat} {l : List Ltr} (h : Sl w S 8 RLtr A n l) : ∀ x ∈ l, x.wf := Sl.all_wf h fun _ _ h => h.2
theorem ownLtr {w : World} {base : Nat} {e : TypeId} {v : Value} {n : Nat} {l : List Ltr} (h : w.ownsRow base e 8 v n (l.flatMap Ltr.cs)) (hl : l.length = n) (hw : ∀ a ∈ l, a.wf) :
    ∃ A c, v = .slice A n c ∧ n ≤ c ∧ Sl w (old w) 8 RLtr A n l := own_slw Ltr.cs Ltr.wf lenLtr h hl hw
def ltrEq (x y : Ltr) : Bool := (x.field.toList == y.field.toList && (x.id == y.id && (x.key.k == y.key.k && (x.key.n == y.key.n && (x.key.s.toList == y.key.s.toList && (x.answer.k == y.answer.k && (x.answer.n == y.answer.n && (x.answer.s.toList == y.answer.s.toList))))))))
theorem ltrEq_iff (x y : Ltr) : ltrEq x y = true ↔ x = y := by
  simp only [ltrEq, Bool.and_eq_true, beq_iff_eq]
  constructor
  · intro h
    obtain ⟨a1, a2, ⟨a3, a4, a5⟩, ⟨a6, a7, a8⟩⟩ := x
    obtain ⟨b1, b2, ⟨b3, b4, b5⟩, ⟨b6, b7, b8⟩⟩ := y
    simp only at h
    simp only [Ltr.mk.injEq, Val.mk.injEq]
    grind [toList_inj]
  · rintro rfl
    simp
theorem run_neq_Ltr (w : World) (x y : Ltr) : (binOp .neq 31 (.agg #[.string x.field, .int .i64 x.id, .int .i64 x.key.k, .int .i64 x.key.n, .string x.key.s, .int .i64 x.answer.k, .int .i64 x.answer.n, .string x.answer.s]) (.agg #[.string y.field, .int .i64 y.id, .int .i64 y.key.k, .int .i64 y.key.n, .string y.key.s, .int .i64 y.answer.k, .int .i64 y.answer.n, .string y.answer.s])).run Try.prog w = .ok (.bool (!ltrEq x y)) w := by
  go_simp
  unfold ltrEq
  (repeat' split) <;> simp_all
theorem run_eql_Ltr (w : World) (x y : Ltr) : (binOp .eql 31 (.agg #[.string x.field, .int .i64 x.id, .int .i64 x.key.k, .int .i64 x.key.n, .string x.key.s, .int .i64 x.answer.k, .int .i64 x.answer.n, .string x.answer.s]) (.agg #[.string y.field, .int .i64 y.id, .int .i64 y.key.k, .int .i64 y.key.n, .string y.key.s, .int .i64 y.answer.k, .int .i64 y.answer.n, .string y.answer.s])).run Try.prog w = .ok (.bool (ltrEq x y)) w := by
  go_simp
  unfold ltrEq
  (repeat' split) <;> simp_all
set_option maxHeartbeats 1000000 in
set_option maxRecDepth 100000 in
theorem clone_Ltr (A : Option Addr) (n c : Nat) (l : List Ltr) (w : World) (hn : inB 88 n) (h : Sl w (old w) 8 RLtr A n l) :
    Calls Try.prog 10 #[.slice A n c] w (OwnRow Ltr.cs 31 8 w l) := by
  cases A with
  | none =>
    obtain ⟨rfl, rfl⟩ := h.of_none
    have hq := fun w => Lib.run_eql_slice_nil (P := Try.prog) w 22 _ none 0 c 0 0 Try.underlying22
    go_enter Try.func10, Try.ntmps10
    go_wp2_with fail
    go_ret
    exact ⟨_, rfl, World.ownsRow_nil _ _ _ _, Below.refl _ _⟩
  | some p =>
    obtain ⟨i0, hi, hz0, hz1, hz2⟩ := info_parts Try.infoLtr
    have hq := fun w => Lib.run_eql_slice_nil (P := Try.prog) w 22 _ (some p) n c 0 0 Try.underlying22
    have hc := h.cellsLtr p rfl
    have hl := h.len
    unfold inB at hn
    have HC := Lib.hid hc
    clear hc h
    go_enter Try.func10, Try.ntmps10
    go_wp2_with (at_builtin; refine wpList_append_sl rfl _ _ 22 rfl w.heap.size 31 i0 (.agg #[.string ⟨#[]⟩, .int .i64 0, .int .i64 0, .int .i64 0, .string ⟨#[]⟩, .int .i64 0, .int .i64 0, .string ⟨#[]⟩]) 8 88 Try.underlying22 hi hz0 hz1 hz2 rfl (by decide) _ 0 [] rfl (World.ownsRow_made w #[] 0 (Nat.le_refl _) (Nat.zero_le _) (by simp)) (some p) n c (l.flatMap Ltr.cs) rfl (by rw [flat_len _ 8 lenLtr, hl]) (fun p' hp j u hj => by cases hp; exact Lib.cell?_alloc_some _ (HC.out j u hj)) (by simp) (oneLtr l) (by unfold maxLen; omega) (by omega) (by simp) ?_; intro v1 w1 hown1 hb1 hz1)
    go_ret
    refine ⟨v1, rfl, by rw [hl]; simpa using hown1, (Below.refl _ _).alloc (Nat.le_refl _) _ |>.trans hb1⟩
set_option maxHeartbeats 1000000 in
set_option maxRecDepth 100000 in
theorem equal_Ltr (A : Option Addr) (n c : Nat) (l : List Ltr) (A1 : Option Addr) (n1 c1 : Nat) (l1 : List Ltr) (w : World) (hn : inL n) (hn1 : inL n1) (h : Sl w (old w) 8 RLtr A n l) (h1 : Sl w (old w) 8 RLtr A1 n1 l1) :
    Calls Try.prog 15 #[.slice A n c, .slice A1 n1 c1] w (RetB w (decide (l = l1))) := by
  unfold inL at hn hn1
  by_cases hne : n = n1
  · subst hne
    have HH := Lib.hid (And.intro h h1)
    clear h h1
    go_enter Try.func15, Try.ntmps15
    go_wp2_with fail
    go_loopw [13] (fun i wr => ∃ k : Nat, k ≤ n ∧ i = .int .i64 k ∧ l.take k = l1.take k ∧ Below w.heap.size w wr) (fun i _ => n - (intOf i).toNat)
    case atStart => exact ⟨0, by omega, rfl, by simp, Below.refl _ _⟩
    case round =>
      obtain ⟨k, hk, rfl, hv, hb⟩ := hrel
      by_cases hlt : k < n
      · obtain ⟨b, o, x, rfl, _, hl, _, h0, h1, h2, h3, h4, h5, h6, h7⟩ := Ltr_at (HH.out.1.now hb) hlt
        obtain ⟨b1, o1, y, rfl, _, hl1, _, g0, g1, g2, g3, g4, g5, g6, g7⟩ := Ltr_at (HH.out.2.now hb) hlt
        have HL := Lib.hid (And.intro hl (And.intro hl1 hv))
        clear hl hl1 hv
        have hneq := fun w => run_neq_Ltr w x y
        cases he : ltrEq x y
        · have HE := Lib.hid he
          go_wp2_with fail
          go_quiet (fail)
          go_wp2_with fail
          go_ret
          refine ⟨ret_bool ?_, (by repeat (first | with_reducible exact Below.refl _ _ | with_reducible assumption | with_reducible refine below_drewN ?_ _ | with_reducible refine Below.drew ?_ | with_reducible refine below_alloc0 ?_ | with_reducible refine below_alloc ?_ (by simp; try omega) | with_reducible refine below_set ?_ (by simp; try omega) | with_reducible refine below_chain ?_ (by assumption) | (with_reducible refine below_step ?_ (by assumption) (by simp; try omega))))⟩
          rw [eq_comm, decide_eq_false_iff_not]
          intro e
          subst e
          rw [HL.out.1] at HL
          have := HL.out.2.1
          cases this
          rw [(ltrEq_iff x x).2 rfl] at HE
          cases HE.out
        · have HE := Lib.hid he
          go_wp2_with fail
          go_quiet (fail)
          go_wp2_with fail
          go_roundw
          case rel =>
            refine ⟨k + 1, by omega, by go_num, ?_, (by repeat (first | with_reducible exact Below.refl _ _ | with_reducible assumption | with_reducible refine below_drewN ?_ _ | with_reducible refine Below.drew ?_ | with_reducible refine below_alloc0 ?_ | with_reducible refine below_alloc ?_ (by simp; try omega) | with_reducible refine below_set ?_ (by simp; try omega) | with_reducible refine below_chain ?_ (by assumption) | (with_reducible refine below_step ?_ (by assumption) (by simp; try omega))))⟩
            rw [List.take_add_one, List.take_add_one, HL.out.1, HL.out.2.1, HL.out.2.2, (ltrEq_iff x y).1 HE.out]
          case measure => simp [intOf]; omega
      · have hke : k = n := by omega
        subst hke
        have e0 : l.take k = l := by rw [List.take_of_length_le (by rw [HH.out.1.len]; exact Nat.le_refl _)]
        have e1 : l1.take k = l1 := by rw [List.take_of_length_le (by rw [HH.out.2.len]; exact Nat.le_refl _)]
        rw [e0, e1] at hv
        have HV := Lib.hid hv
        clear hv e0 e1
        go_wp2_with fail
        go_ret
        exact ⟨ret_bool (by rw [eq_comm, decide_eq_true_iff]; exact HV.out), hb⟩
  · have hd : ((n : Int) != (n1 : Int)) = true := by simp; omega
    have hf : decide (l = l1) = false := by
      rw [decide_eq_false_iff_not]
      intro e
      exact hne (by rw [← h.len, ← h1.len, e])
    rw [hf]
    clear h h1
    go_enter Try.func15, Try.ntmps15
    go_wp2_with fail
    go_ret
    exact ⟨rfl, Below.refl _ _⟩
set_option maxHeartbeats 2000000 in
set_option maxRecDepth 100000 in
theorem delete_Ltr (base g cap n i j : Nat) (l : List Ltr) (w : World) (hown : w.ownsRow base 31 8 (.slice (some ⟨g, 0, none⟩) n cap) n (l.flatMap Ltr.cs)) (hi : i < n) (hl : l.length = n) (hj : j = i + 1) :
    Calls Try.prog 11 #[.slice (some ⟨g, 0, none⟩) n cap, .int .i64 i, .int .i64 j] w fun e w' => e = .returned (.slice (some ⟨g, 0, none⟩) (n - 1) cap) ∧
      w'.ownsRow base 31 8 (.slice (some ⟨g, 0, none⟩) (n - 1) cap) (n - 1) ((l.eraseIdx i).flatMap Ltr.cs) ∧ w.grownBy w' (some g) := by
  obtain ⟨i0, hi0, hz0, hz1, hz2⟩ := info_parts Try.infoLtr
  obtain ⟨hx, hh⟩ := hown
  rcases hh with ⟨hh, _⟩ | ⟨g', cap', cur, hh, hbg, hg, hnc, hcm, hcs, ht⟩
  · cases hh
  cases hh
  have hnews : ∀ (t : Nat) (u : Value), ((l.drop j).flatMap Ltr.cs)[t]? = some u → cur[j * 8 + t]? = some u := by
    intro t u hu
    rw [← flat_drop Ltr.cs 8 lenLtr l j (by omega), ← ht, List.getElem?_drop] at hu
    have hlt : j * 8 + t < n * 8 := by
      have := (List.getElem?_eq_some_iff.1 hu).1
      rw [List.length_take] at this
      omega
    rw [List.getElem?_take_of_lt hlt] at hu
    simpa using hu
  obtain ⟨news, hnw⟩ : ∃ news, news = (l.drop j).flatMap Ltr.cs := ⟨_, rfl⟩
  have hnl : news.length = (n - j) * 8 := by rw [hnw, flat_len Ltr.cs 8 lenLtr, List.length_drop, hl]
  have hn1 : ∀ u ∈ news, u.oneCell' = true := by rw [hnw]; exact oneLtr _
  have hps : ∃ p : Addr, (if cap = j then some (⟨g, 0, none⟩ : Addr) else some ⟨g, j * 8, none⟩) = some p ∧ (∀ t u, news[t]? = some u → w.drew.cell? (p.add t) = some u) := by
    by_cases h : cap = j
    · have h0 : news = [] := by
        apply List.eq_nil_of_length_eq_zero
        rw [hnl, show n - j = 0 by omega, Nat.zero_mul]
      exact ⟨⟨g, 0, none⟩, by simp [h], fun t u hu => by rw [h0] at hu; simp at hu⟩
    · refine ⟨⟨g, j * 8, none⟩, by simp [h], fun t u hu => ?_⟩
      rw [Addr.add_lit]
      exact (cell_of_row w g _ cur _ (0, 0) hg).trans (hnews t u (by rw [← hnw]; exact hu))
  obtain ⟨p, hp, hsrc'⟩ := hps
  have hsrc := Lib.hid hsrc'
  clear hsrc'
  obtain ⟨X, hX⟩ : ∃ X : Array Value, X = (cur.toList.take (i * 8) ++ news ++ cur.toList.drop (i * 8 + news.length)).toArray := ⟨_, rfl⟩
  have hXs : X.size = cap * 8 := by rw [hX]; simp [hnl, hcs]; omega
  obtain ⟨W1, hW⟩ : ∃ W1, W1 = w.drew.setRow g X := ⟨_, rfl⟩
  have hg1 : W1.heap[g]? = some (.cells X 31 (0, 0)) := by rw [hW]; exact setRow_heap w.drew g cur X _ _ hg
  have hXt : X.toList.take ((n - 1) * 8) = (l.eraseIdx i).flatMap Ltr.cs := by
    rw [List.eraseIdx_eq_take_drop_succ, ← hj, List.flatMap_append, ← hnw, ← flat_take Ltr.cs 8 lenLtr l i (by omega), ← ht, List.take_take, Nat.min_eq_left (by omega), hX]
    rw [List.toList_toArray]
    exact List.take_left' (by simp [hnl, hcs]; omega)
  obtain ⟨zs, hzl, hcl⟩ := run_clear_row (P := Try.prog) W1 22 0 31 (.agg #[.string ⟨#[]⟩, .int .i64 0, .int .i64 0, .int .i64 0, .string ⟨#[]⟩, .int .i64 0, .int .i64 0, .string ⟨#[]⟩]) Try.underlying22 Try.zeroValue31 (by simp [Value.cells, Value.oneCell']) (by simp [Value.cells]) g ((n - 1) * 8) 1 (cap - (n - 1)) X hg1 (by decide) (by rw [hXs]; simp [Value.cells]; omega)
  have hcl' : ∀ ty, (Builtin.clear_ #[22] ty #[.slice (some ⟨g, (i + (n - j)) * 8, none⟩) (n - (i + (n - j))) (cap - (i + (n - j)))]).run Try.prog W1 = .ok (.tuple #[]) (W1.setRow g (X.toList.take ((n - 1) * 8) ++ zs ++ X.toList.drop ((n - 1) * 8 + zs.length)).toArray) := by
    intro ty
    rw [show i + (n - j) = n - 1 by omega, show n - (n - 1) = 1 by omega]
    exact hcl
  obtain ⟨Y, hY⟩ : ∃ Y : Array Value, Y = (X.toList.take ((n - 1) * 8) ++ zs ++ X.toList.drop ((n - 1) * 8 + zs.length)).toArray := ⟨_, rfl⟩
  rw [← hY] at hcl'
  have hzl' : zs.length = 8 := by rw [hzl]; rfl
  have hYs : Y.size = cap * 8 := by rw [hY]; simp [hzl', hXs]; omega
  have hYt : Y.toList.take ((n - 1) * 8) = (l.eraseIdx i).flatMap Ltr.cs := by
    rw [← hXt, hY, List.toList_toArray, List.append_assoc]
    exact List.take_left' (by simp [hXs]; omega)
  have HEnd : (W1.setRow g Y).ownsRow base 31 8 (.slice (some ⟨g, 0, none⟩) (n - 1) cap) (n - 1) ((l.eraseIdx i).flatMap Ltr.cs) ∧ w.grownBy (W1.setRow g Y) (some g) := by
    refine ⟨⟨by rw [flat_len Ltr.cs 8 lenLtr, List.length_eraseIdx, hl, if_pos hi], .inr ⟨g, cap, Y, rfl, hbg, setRow_heap W1 g X Y _ _ hg1, by omega, hcm, hYs, hYt⟩⟩, ⟨by rw [hW]; rfl, by rw [hW]; rfl, by rw [hW]; rfl, by rw [hW]; simp [World.setRow], fun k _ hk => ?_⟩⟩
    have hk' : k ≠ g := fun e => hk (by rw [e])
    rw [setRow_other _ _ _ _ hk', hW, setRow_other _ _ _ _ hk']
    rfl
  have HX := Lib.hid (And.intro HEnd (And.intro hX hW))
  have HG := Lib.hid hg
  have hfit : i * 8 + news.length ≤ cur.size := by rw [hnl, hcs]; omega
  have hsm : cap ≤ 9223372036854775807 := by simpa [maxLen] using hcm
  have hic : i ≤ cap := by omega
  have hjc : j ≤ cap := by omega
  have hij : ((i : Int) == (j : Int)) = false := by simp; omega
  have hjn : j ≤ n := by omega
  have hjm : i ≤ j := by omega
  have hjq : i + (n - j) ≤ n := by omega
  have hjr : i + (n - j) < n := by omega
  have hjs : ¬ (cap = i + (n - j)) := by omega
  have hjt : n ≤ cap := hnc
  have hju : n - 1 = i + (n - j) := by omega
  have HJ := Lib.hid (And.intro hj hju)
  clear hj hju hW HEnd hX hnews hnw hXt hYt hXs hYs hY hx ht hcl hzl hzl' hg1 hg hcm
  go_enter Try.func11, Try.ntmps11
  go_wp2_with fail
  go_region_law (refine step_append_row rfl (.tmp 22) (.tmp 25) 22 rfl 31 i0 8 Try.underlying22 hi0 hz1 g i cap cur HG.out (by simp [Act.eval, Act.put]) p (n - j) (cap - j) news (by simp [Act.eval, Act.put]) hnl hsrc.out hn1 (by omega) hfit ?_; rw [← HX.out.2.1, ← HX.out.2.2])
  go_wp2_with fail
  go_ret
  exact ⟨(rfl : _ = Ending.returned (.slice (some ⟨g, 0, none⟩) (i + (n - j)) cap)).trans (by rw [HJ.out.2]), HX.out.1⟩
set_option maxHeartbeats 400000 in
theorem same_Letters (A : Option Addr) (n c : Nat) (l : List Ltr) (A1 : Option Addr) (n1 c1 : Nat) (l1 : List Ltr) (w : World) (hn : inL n) (hn1 : inL n1) (h : Sl w (old w) 8 RLtr A n l) (h1 : Sl w (old w) 8 RLtr A1 n1 l1) :
    Calls Try.prog 8 #[.slice A n c, .slice A1 n1 c1] w (RetB w (decide (l = l1))) := by
  have HH := Lib.hid (And.intro h h1)
  clear h h1
  go_enter Try.func8, Try.ntmps8
  go_wp2_with (refine (equal_Ltr A n c l A1 n1 c1 l1 _ hn hn1 HH.out.1 HH.out.2).mono ?_; rintro e w1 ⟨rfl, hb1⟩)
  go_ret
  exact ⟨rfl, hb1⟩
end Go.Proofs.Ytdngggllkjahcaa
