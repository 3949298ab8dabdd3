/- slices.Insert of one letter into a row of the call's own. -/
import Derived.Test.YtdngggllkjahcaaRowL
import Derived.Lib.AppendZerosOnto
import Derived.Lib.Overlaps
import Derived.Laws.CopyOwn
import Derived.Deep.DeepCutAuto
namespace Go.Proofs.Ytdngggllkjahcaa
open Go.RowKit

section
variable {P : Program}
theorem run_copy_rowN (w : World) (dT sT ty elem : TypeId) (i : TypeInfo) (size : Nat) (g o dLen dCap : Nat) (a : Addr) (sLen sCap : Nat) (cur : Array Value) (t : TypeId) (cs : List Value) (m : Nat)
    (hu : P.underlying dT = some (.slice elem)) (hi : P.info? elem = some i) (hs : i.size = size) (hm : Nat.min sLen dLen = m)
    (hg : w.heap[g]? = some (.cells cur t (0, 0))) (hn : cs.length = m * size)
    (hsrc : ∀ j v, cs[j]? = some v → w.cell? (a.add j) = some v) (hfit : o + cs.length ≤ cur.size) (h1 : ∀ v ∈ cs, v.oneCell' = true) :
    (Builtin.copy_ #[dT, sT] ty #[.slice (some ⟨g, o, none⟩) dLen dCap, .slice (some a) sLen sCap]).run P w =
      .ok (goInt m) (w.setRow g (cur.toList.take o ++ cs ++ cur.toList.drop (o + cs.length)).toArray) := by
  have hl := run_loadCells_list (P := P) w a cs hsrc
  have hst := run_storeCells_at P g o t cs 0 cur w hg (by simpa using hfit) h1
  simp only [Nat.add_zero] at hst
  rw [hn] at hl
  simp [Builtin.copy_, run_underlying hu, Builtin.lenOf, Builtin.firstCells, sizeOf, typeInfo, hi, hs, hm, hl, hst]
theorem wp_copy_run' (w : World) {o : Oper} {a : Act} {K : Act → World → Prop} {Q : Exit → Act → World → Prop} (d s : Operand) (t t' : TypeId)
    (ho : o.op = .call { callee := .builtin .copy, args := #[d, s], argTypes := #[t, t'] }) (v u : Value) (hd : a.eval d = v) (hs : a.eval s = u) {v' : Value} {w' : World}
    (hr : (Builtin.copy_ #[t, t'] o.type #[v, u]).run P w = .ok v' w') (h : K (a.put o.dst v') w') : o.wp P a w K Q := by
  unfold Oper.wp execOp
  simp only [ho, resolve, invoke, builtin, Sem.run_bind, Sem.run_pure, Result.andThen_ok, List.map_toArray, List.map_cons, List.map_nil, hd, hs, hr]
  exact h
theorem wpList_copy_run' (w : World) {ops : Array Oper} {rest : List Oper} {o : Oper} {a : Act} {Q : Exit → Act → World → Prop} (hgd : o.guard = none) (d s : Operand) (t t' : TypeId)
    (ho : o.op = .call { callee := .builtin .copy, args := #[d, s], argTypes := #[t, t'] }) (v u : Value) (hd : a.eval d = v) (hs : a.eval s = u) {v' : Value} {w' : World}
    (hr : (Builtin.copy_ #[t, t'] o.type #[v, u]).run P w = .ok v' w') (h : wpList P ops Q rest (a.put o.dst v') w') : wpList P ops Q (o :: rest) a w :=
  wpList_plain hgd fun _ hK => wp_copy_run' w d s t t' ho v u hd hs hr (hK _ _ h)
theorem step_copy_run' {ops : Array Oper} {o : Oper} {a : Act} {w : World} {K : Act → World → Prop} {Q : Exit → Act → World → Prop} {E : Prop}
    (hg : o.guard = none) (d x : Operand) (dT sT : TypeId) (hop : o.op = Op.call { callee := Callee.builtin Builtin.copy, args := #[d, x], argTypes := #[dT, sT] })
    (v u : Value) (hd : a.eval d = v) (hx : a.eval x = u) {v' : Value} {w' : World} (hr : (Builtin.copy_ #[dT, sT] o.type #[v, u]).run P w = .ok v' w') (hK : K (a.put o.dst v') w') :
    if Region.wanted o (yielded ops a.tmps) = true then Oper.wp P o a w K Q else E := by
  have hw : Region.wanted o (yielded ops a.tmps) = true := by simp [Region.wanted, hg]
  rw [if_pos hw]
  exact wp_copy_run' w d x dT sT hop v u hd hx hr hK
end
def insL (l : List Ltr) (i : Nat) (y : Ltr) : List Ltr := l.take i ++ y :: l.drop i
theorem insL_len {l : List Ltr} {i : Nat} (y : Ltr) (hi : i ≤ l.length) : (insL l i y).length = l.length + 1 := by simp [insL]; omega
set_option maxRecDepth 100000 in
set_option maxHeartbeats 2000000 in
theorem insert_grow (base g cap n i G : Nat) (l : List Ltr) (y : Ltr) (w : World) (hown : w.ownsRow base 31 8 (.slice (some ⟨g, 0, none⟩) n cap) n (l.flatMap Ltr.cs)) (hl : l.length = n) (hi : i < n) (hn : n ≤ 24) (hcap : cap < n + 1)
    (hbase : base ≤ w.heap.size) (hG : w.heap[G]? = some (.cells y.cs.toArray 31 (0, 0))) :
    Calls Try.prog 12 #[.slice (some ⟨g, 0, none⟩) n cap, .int .i64 i, .slice (some ⟨G, 0, none⟩) 1 1] w fun e w' => ∃ v, e = .returned v ∧ w'.ownsRow base 31 8 v (n + 1) ((insL l i y).flatMap Ltr.cs) ∧ Below base w w' ∧ w.heap.size ≤ w'.heap.size := by
  obtain ⟨i0, hi0, iz0, iz1, iz2⟩ := info_parts Try.infoLtr
  have hnc : n ≤ cap := by
    rcases hown.2 with ⟨h, _⟩ | ⟨g', cap', cur', h, _, _, h', _⟩
    · cases h
    · cases h; exact h'
  obtain ⟨k, hk⟩ : ∃ k, k = n + 1 - i := ⟨_, rfl⟩
  have hcells := hown.cells (g := g) rfl
  have holds : ∀ j u, ((l.take i).flatMap Ltr.cs)[j]? = some u → w.drew.cell? ((⟨g, 0, none⟩ : Addr).add j) = some u := by
    intro j u hu
    refine hcells j u ?_
    rw [← flat_take Ltr.cs 8 lenLtr l i (by omega)] at hu
    rw [List.getElem?_take] at hu
    split at hu
    · exact hu
    · cases hu
  have hol : ((l.take i).flatMap Ltr.cs).length = i * 8 := by rw [flat_len _ 8 lenLtr, List.length_take, Nat.min_eq_left (by omega)]
  have hf := run_firstCells_some (P := Try.prog) w.drew i0.size i ⟨g, 0, none⟩ i cap ((l.take i).flatMap Ltr.cs) (by rw [iz1]; exact hol) holds
  have hr := fun ty => Lib.run_append_grow_zeros (P := Try.prog) w 22 3 ty 31 i0 _ .i64 .i64 Try.underlying22 Try.underlying3 hi0 iz0 (some ⟨g, 0, none⟩) i cap ((l.take i).flatMap Ltr.cs) hf k (by omega) (by rw [iz1]; decide) (by omega) (by omega) (by rw [iz2]; omega) (growslice_fits (by omega) (by rw [iz2]; omega))
  have hik : i + k = n + 1 := by omega
  rw [hik] at hr
  have hge := grownCap_ge w (n + 1) cap 31
  have hle := grownCap_le_maxLen w (n + 1) cap 31 (by unfold maxLen; omega)
  generalize grownCap w (n + 1) cap 31 = c2 at hr hge hle
  obtain ⟨cur, hcur⟩ : ∃ cur, cur = ((l.take i).flatMap Ltr.cs).toArray ++ Builtin.zeroCells (Value.agg #[.string ⟨#[]⟩, .int .i64 0, .int .i64 0, .int .i64 0, .string ⟨#[]⟩, .int .i64 0, .int .i64 0, .string ⟨#[]⟩]).cells k ++ Builtin.zeroCells (Value.agg #[.string ⟨#[]⟩, .int .i64 0, .int .i64 0, .int .i64 0, .string ⟨#[]⟩, .int .i64 0, .int .i64 0, .string ⟨#[]⟩]).cells (c2 - (n + 1)) := ⟨_, rfl⟩
  rw [← hcur] at hr
  have hcs : cur.size = c2 * 8 := by rw [hcur, Array.size_append, Array.size_append, size_zeroCells, size_zeroCells]; simp [Value.cells, hol]; omega
  have hct : cur.toList.take (i * 8) = (l.take i).flatMap Ltr.cs := by
    rw [hcur, Array.toList_append, Array.toList_append, List.append_assoc]
    exact List.take_left' (by simpa using hol)
  obtain ⟨W1, hW1⟩ : ∃ W1, W1 = w.drew.alloc (.cells cur 31) := ⟨_, rfl⟩
  have hW1g : W1.heap[w.heap.size]? = some (.cells cur 31 (0, 0)) := by rw [hW1]; exact heap_alloc_new w.drew _
  have hold1 : ∀ b, b < w.heap.size → W1.heap[b]? = w.heap[b]? := fun b hb => by rw [hW1]; exact Below.heap_alloc w.drew _ b hb
  have hGlt : G < w.heap.size := (Array.getElem?_eq_some_iff.1 hG).1
  have hglt : g < w.heap.size := (hown.lt g rfl).2
  have hbelow1 : Below base w W1 := by rw [hW1]; exact ((Below.refl base w).drew).alloc (by simpa [heap_drew] using hbase) _
  have hsz1 : w.heap.size ≤ W1.heap.size := by rw [hW1]; simp [heap_drew]
  rw [← hW1] at hr
  have hca := fun ty => run_copy_rowN (P := Try.prog) W1 22 22 ty 31 i0 8 w.heap.size (i * 8) (n + 1 - i) (c2 - i) ⟨G, 0, none⟩ 1 1 cur 31 y.cs 1 Try.underlying22 hi0 iz1 (by simp only [Nat.min_def]; split <;> omega) hW1g rfl (World.news_of_block ((hold1 G hGlt).trans hG)) (by rw [hcs, lenLtr]; omega) (by intro u hu; exact oneLtr [y] u (by simpa using hu))
  obtain ⟨X1, hX1⟩ : ∃ X1 : Array Value, X1 = (cur.toList.take (i * 8) ++ y.cs ++ cur.toList.drop (i * 8 + y.cs.length)).toArray := ⟨_, rfl⟩
  rw [← hX1] at hca
  have hX1s : X1.size = c2 * 8 := by rw [hX1]; simp [hcs, Ltr.cs]; omega
  have hX1t : X1.toList.take ((i + 1) * 8) = (l.take i).flatMap Ltr.cs ++ y.cs := by
    rw [hX1, hct]
    exact List.take_left' (by rw [List.length_append, hol, lenLtr]; omega)
  obtain ⟨W2, hW2⟩ : ∃ W2, W2 = W1.setRow w.heap.size X1 := ⟨_, rfl⟩
  rw [← hW2] at hca
  have hW2g : W2.heap[w.heap.size]? = some (.cells X1 31 (0, 0)) := by rw [hW2]; exact setRow_heap W1 _ cur X1 _ _ hW1g
  have hold2 : ∀ b, b < w.heap.size → W2.heap[b]? = w.heap[b]? := fun b hb => by rw [hW2, setRow_other _ _ _ _ (by omega)]; exact hold1 b hb
  have hdl : ((l.drop i).flatMap Ltr.cs).length = (n - i) * 8 := by rw [flat_len _ 8 lenLtr, List.length_drop, hl]
  have hcb := fun ty => run_copy_rowN (P := Try.prog) W2.drew 22 22 ty 31 i0 8 w.heap.size ((i + 1) * 8) (n + 1 - (i + 1)) (c2 - (i + 1)) ⟨g, i * 8, none⟩ (n - i) (cap - i) X1 31 ((l.drop i).flatMap Ltr.cs) (n - i) Try.underlying22 hi0 iz1 (by simp only [Nat.min_def]; split <;> omega) hW2g hdl (fun j u hu => by
    rw [Addr.add_lit]
    refine (World.cell?_of_block (w := w) (a := ⟨g, i * 8 + j, none⟩) (hold2 g hglt)).trans ?_
    rw [← flat_drop Ltr.cs 8 lenLtr l i (by omega), List.getElem?_drop] at hu
    have := hcells _ _ hu
    rw [Addr.add_lit, Nat.zero_add] at this
    exact this) (by rw [hX1s, hdl]; omega) (oneLtr _)
  obtain ⟨X2, hX2⟩ : ∃ X2 : Array Value, X2 = (X1.toList.take ((i + 1) * 8) ++ (l.drop i).flatMap Ltr.cs ++ X1.toList.drop ((i + 1) * 8 + ((l.drop i).flatMap Ltr.cs).length)).toArray := ⟨_, rfl⟩
  rw [← hX2] at hcb
  have hX2s : X2.size = c2 * 8 := by rw [hX2]; simp only [List.size_toArray, List.length_append, List.length_take, List.length_drop, hdl, Array.length_toList, hX1s]; omega
  have hX2t : X2.toList.take ((n + 1) * 8) = (insL l i y).flatMap Ltr.cs := by
    rw [hX2, hX1t]
    have e : (insL l i y).flatMap Ltr.cs = (l.take i).flatMap Ltr.cs ++ y.cs ++ (l.drop i).flatMap Ltr.cs := by simp [insL]
    rw [e]
    exact List.take_left' (by rw [List.length_append, List.length_append, hol, lenLtr, hdl]; omega)
  have HEnd : (W2.drew.setRow w.heap.size X2).ownsRow base 31 8 (.slice (some ⟨w.heap.size, 0, none⟩) (n + 1) c2) (n + 1) ((insL l i y).flatMap Ltr.cs) ∧ Below base w (W2.drew.setRow w.heap.size X2) ∧ w.heap.size ≤ (W2.drew.setRow w.heap.size X2).heap.size := by
    refine ⟨⟨by rw [flat_len _ 8 lenLtr, insL_len y (by omega), hl], .inr ⟨w.heap.size, c2, X2, rfl, hbase, setRow_heap W2.drew _ X1 X2 _ _ hW2g, hge, hle, hX2s, hX2t⟩⟩, ?_, ?_⟩
    · refine below_setRow (Below.drew ?_) hbase _
      rw [hW2]
      exact below_setRow hbelow1 hbase _
    · rw [hW2]
      first
        | (simp [World.setRow, heap_drew]; done)
        | (simp [World.setRow, heap_drew]; exact hsz1)
  have HX := Lib.hid HEnd
  have hkk : (n : Int) + 1 - (i : Int) = (k : Int) := by omega
  have hin : ((i : Int) == (n : Int)) = false := by simp; omega
  have hcn : (cap : Int) < (n : Int) + 1 := by omega
  have hic : i ≤ cap := by omega
  have hi2 : i ≤ c2 := by omega
  have hi3 : i + 1 ≤ c2 := by omega
  have hne1 : ¬ (cap = i) := by omega
  have hne2 : ¬ (c2 = i) := by omega
  have hne3 : ¬ (c2 = i + 1) := by omega
  have hi4 : i ≤ n + 1 := by omega
  have hi5 : i + 1 ≤ n + 1 := by omega
  have hi6 : i ≤ n := by omega
  have hw1 : IntKind.i64.wrap ((i : Int) + 1) = (i : Int) + 1 := by rw [IntKind.wrap_i64]; omega
  have hb0 : (0 : Int) ≤ (i : Int) + 1 := by omega
  have htn : ((i : Int) + 1).toNat = i + 1 := by omega
  have hb3 : (i : Int) + 1 ≤ (n : Int) + 1 := by omega
  have HK := Lib.hid (And.intro hk hik)
  clear hown hcells holds hol hf hcur hcs hct hW1 hW1g hold1 hGlt hglt hbelow1 hsz1 hX1 hX1s hX1t hW2 hW2g hold2 hdl hX2 hX2s hX2t HEnd hk hik hG
  go_enter Try.func12, Try.ntmps12
  go_wp2_with (at_builtin; first
    | (refine Lib.wpList_append_run _ rfl (.tmp 34) (.tmp 39) 22 3 rfl _ _ rfl rfl _ _ (hr _) ?_)
    | (refine wpList_copy_run' _ rfl (.tmp 43) (.tmp 44) 22 22 rfl _ _ rfl rfl (hca _) ?_))
  go_region_law (refine step_copy_run' rfl (.tmp 50) (.tmp 53) 22 22 rfl _ _ (by simp [Act.eval, Act.put]) (by simp [Act.eval, Act.put]) (hcb _) ?_)
  go_wp2_with fail
  go_ret
  exact ⟨_, rfl, HX.out⟩
set_option maxRecDepth 100000 in
set_option maxHeartbeats 2000000 in
theorem insert_room (base g cap n i G : Nat) (l : List Ltr) (y : Ltr) (w : World) (hown : w.ownsRow base 31 8 (.slice (some ⟨g, 0, none⟩) n cap) n (l.flatMap Ltr.cs)) (hl : l.length = n) (hi : i < n) (hn : n ≤ 24) (hcap : n + 1 ≤ cap)
    (hbase : base ≤ w.heap.size) (hG : w.heap[G]? = some (.cells y.cs.toArray 31 (0, 0))) (hGg : G ≠ g) :
    Calls Try.prog 12 #[.slice (some ⟨g, 0, none⟩) n cap, .int .i64 i, .slice (some ⟨G, 0, none⟩) 1 1] w fun e w' => ∃ v, e = .returned v ∧ w'.ownsRow base 31 8 v (n + 1) ((insL l i y).flatMap Ltr.cs) ∧ Below base w w' ∧ w.heap.size ≤ w'.heap.size := by
  obtain ⟨i0, hi0, iz0, iz1, iz2⟩ := info_parts Try.infoLtr
  have hcells := hown.cells (g := g) rfl
  obtain ⟨hx, hh⟩ := hown
  rcases hh with ⟨hh, _⟩ | ⟨g', cap', cur, hh, hbg, hg, hnc, hcm, hcs, ht⟩
  · cases hh
  cases hh
  have hov : ∀ lb cb, (callFunc 17 #[.slice (some ⟨G, 0, none⟩) 1 1, .slice (some ⟨g, (i + 1) * 8, none⟩) lb cb]).run Try.prog w = .ok (.value (.bool false)) w := fun lb cb => by
    rw [run_callFunc_extern Try.func17 (by kernel_rfl) (by kernel_rfl) (by kernel_rfl) (e := Extern.SlicesOverlaps.overlaps #[22, 22] #[4]) (by kernel_rfl),
      Lib.run_overlaps_apart w 22 4 31 Try.underlying22 8 Try.sizeOf31 ⟨G, 0, none⟩ ⟨g, (i + 1) * 8, none⟩ 1 1 lb cb hGg 31 31 8 cur.size (by simp [World.shape?, hG, Ltr.cs]) (by simp [World.shape?, hg]) (by omega) (frozen_of_row w G 0 _ _ hG) (frozen_of_row w G 8 _ _ hG)]
    rfl
  have hol : ((l.take i).flatMap Ltr.cs).length = i * 8 := by rw [flat_len _ 8 lenLtr, List.length_take, Nat.min_eq_left (by omega)]
  have hdl : ((l.drop i).flatMap Ltr.cs).length = (n - i) * 8 := by rw [flat_len _ 8 lenLtr, List.length_drop, hl]
  have hca := fun ty => run_copy_rowN (P := Try.prog) w.drew 22 22 ty 31 i0 8 g ((i + 1) * 8) (n + 1 - (i + 1)) (cap - (i + 1)) ⟨g, i * 8, none⟩ (n + 1 - i) (cap - i) cur 31 ((l.drop i).flatMap Ltr.cs) (n - i) Try.underlying22 hi0 iz1 (by simp only [Nat.min_def]; split <;> omega) hg hdl (fun j u hu => by
    rw [Addr.add_lit]
    rw [← flat_drop Ltr.cs 8 lenLtr l i (by omega), List.getElem?_drop] at hu
    have := hcells _ _ hu
    rw [Addr.add_lit, Nat.zero_add] at this
    exact this) (by rw [hcs, hdl]; omega) (oneLtr _)
  obtain ⟨X1, hX1⟩ : ∃ X1 : Array Value, X1 = (cur.toList.take ((i + 1) * 8) ++ (l.drop i).flatMap Ltr.cs ++ cur.toList.drop ((i + 1) * 8 + ((l.drop i).flatMap Ltr.cs).length)).toArray := ⟨_, rfl⟩
  rw [← hX1] at hca
  have hX1s : X1.size = cap * 8 := by rw [hX1]; simp only [List.size_toArray, List.length_append, List.length_take, List.length_drop, hdl, Array.length_toList, hcs]; omega
  have hct : cur.toList.take (i * 8) = (l.take i).flatMap Ltr.cs := by
    rw [← flat_take Ltr.cs 8 lenLtr l i (by omega), ← ht, List.take_take, Nat.min_eq_left (by omega)]
  obtain ⟨W1, hW1⟩ : ∃ W1, W1 = w.drew.setRow g X1 := ⟨_, rfl⟩
  rw [← hW1] at hca
  have hW1g : W1.heap[g]? = some (.cells X1 31 (0, 0)) := by rw [hW1]; exact setRow_heap w.drew _ cur X1 _ _ hg
  have hW1G : W1.heap[G]? = some (.cells y.cs.toArray 31 (0, 0)) := by rw [hW1, setRow_other _ _ _ _ hGg]; exact hG
  have hcb := fun ty => run_copy_rowN (P := Try.prog) W1 22 22 ty 31 i0 8 g (i * 8) (n + 1 - i) (cap - i) ⟨G, 0, none⟩ 1 1 X1 31 y.cs 1 Try.underlying22 hi0 iz1 (by simp only [Nat.min_def]; split <;> omega) hW1g rfl (World.news_of_block hW1G) (by rw [hX1s, lenLtr]; omega) (by intro u hu; exact oneLtr [y] u (by simpa using hu))
  obtain ⟨X2, hX2⟩ : ∃ X2 : Array Value, X2 = (X1.toList.take (i * 8) ++ y.cs ++ X1.toList.drop (i * 8 + y.cs.length)).toArray := ⟨_, rfl⟩
  rw [← hX2] at hcb
  have hX2s : X2.size = cap * 8 := by rw [hX2]; simp [hX1s, Ltr.cs]; omega
  have hX2t : X2.toList.take ((n + 1) * 8) = (insL l i y).flatMap Ltr.cs := by
    have e1 : X1.toList.take (i * 8) = (l.take i).flatMap Ltr.cs := by
      rw [hX1, List.toList_toArray, List.append_assoc, List.take_append_of_le_length (by rw [List.length_take, Array.length_toList, hcs]; omega), List.take_take, Nat.min_eq_left (by omega), hct]
    have e2 : X1.toList.drop (i * 8 + y.cs.length) = (l.drop i).flatMap Ltr.cs ++ cur.toList.drop ((i + 1) * 8 + ((l.drop i).flatMap Ltr.cs).length) := by
      rw [hX1, List.toList_toArray, List.append_assoc]
      exact List.drop_left' (by rw [List.length_take, Array.length_toList, hcs, lenLtr]; omega)
    have e : (insL l i y).flatMap Ltr.cs = (l.take i).flatMap Ltr.cs ++ y.cs ++ (l.drop i).flatMap Ltr.cs := by simp [insL]
    rw [hX2, e1, e2, e, List.toList_toArray, ← List.append_assoc]
    exact List.take_left' (by rw [List.length_append, List.length_append, hol, lenLtr, hdl]; omega)
  have HEnd : (W1.setRow g X2).ownsRow base 31 8 (.slice (some ⟨g, 0, none⟩) (n + 1) cap) (n + 1) ((insL l i y).flatMap Ltr.cs) ∧ Below base w (W1.setRow g X2) ∧ w.heap.size ≤ (W1.setRow g X2).heap.size := by
    refine ⟨⟨by rw [flat_len _ 8 lenLtr, insL_len y (by omega), hl], .inr ⟨g, cap, X2, rfl, hbg, setRow_heap W1 _ X1 X2 _ _ hW1g, hcap, hcm, hX2s, hX2t⟩⟩, ?_, ?_⟩
    · rw [hW1]
      exact below_setRow (below_setRow (Below.refl base w).drew hbg _) hbg _
    · rw [hW1]; simp [World.setRow, heap_drew]
  have HX := Lib.hid HEnd
  have hin : ((i : Int) == (n : Int)) = false := by simp; omega
  have hcn : ¬ (cap : Int) < (n : Int) + 1 := by omega
  have hic : i ≤ cap := by omega
  have hne1 : ¬ (cap = i) := by omega
  have hne3 : ¬ (cap = i + 1) := by omega
  have hi3 : i + 1 ≤ cap := by omega
  have hi4 : i ≤ n + 1 := by omega
  have hi5 : i + 1 ≤ n + 1 := by omega
  have hi6 : i ≤ n := by omega
  have hw1 : IntKind.i64.wrap ((i : Int) + 1) = (i : Int) + 1 := by rw [IntKind.wrap_i64]; omega
  have hw2 : IntKind.i64.wrap ((n : Int) + 1) = (n : Int) + 1 := by rw [IntKind.wrap_i64]; omega
  have hb0 : (0 : Int) ≤ (i : Int) + 1 := by omega
  have htn : ((i : Int) + 1).toNat = i + 1 := by omega
  have hb1 : (0 : Int) ≤ (n : Int) + 1 := by omega
  have htn1 : ((n : Int) + 1).toNat = n + 1 := by omega
  have hb3 : (i : Int) + 1 ≤ (n : Int) + 1 := by omega
  have hb4 : (n : Int) + 1 ≤ (cap : Int) := by omega
  have hb5 : (i : Int) ≤ (n : Int) + 1 := by omega
  clear hcells hx ht hol hdl hX1 hX1s hct hW1 hW1g hW1G hX2 hX2s hX2t HEnd hg hG hcs
  go_enter Try.func12, Try.ntmps12
  go_wp2_with (simp only [hov])
  go_region_law (refine step_copy_run' rfl (.tmp 73) (.tmp 76) 22 22 rfl _ _ (by simp [Act.eval, Act.put]) (by simp [Act.eval, Act.put]) (hca _) ?_)
  go_wp2_with (at_builtin; refine wpList_copy_run' _ rfl (.tmp 80) (.tmp 81) 22 22 rfl _ _ rfl rfl (hcb _) ?_)
  go_ret
  exact ⟨_, rfl, HX.out⟩
end Go.Proofs.Ytdngggllkjahcaa
