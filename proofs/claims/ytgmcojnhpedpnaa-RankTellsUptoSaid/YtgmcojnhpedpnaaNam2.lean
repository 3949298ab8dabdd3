/- names.refs as an iterator's contract; names.Has. -/
import Derived.Test.YtgmcojnhpedpnaaNam1
import Derived.Laws.EntriesVeiled
namespace Go.Proofs.Ytgmcojnhpedpnaa
open Go.RowKit Go.Shelf Go.Maps

attribute [local go_sem] Oper.semAt_some

abbrev NmIt := { s : ByteArray // inS s }
abbrev encNm (s : NmIt) : Array Value := #[.string s.1]
def nmsOf (l : List NmIt) : List ByteArray := l.map (·.1)
theorem nmsOf_snoc (l : List NmIt) (s : NmIt) : nmsOf (l ++ [s]) = nmsOf l ++ [s.1] := by simp [nmsOf]
theorem nmsOf_len (l : List NmIt) : (nmsOf l).length = l.length := by simp [nmsOf]

set_option maxRecDepth 100000 in
set_option maxHeartbeats 2000000 in
theorem refs1_in (F : Fence) (hd : F.depth = none) (n : Nat) (h34 : F.fn 34) (h35 : F.fn 35) (hro : F.round = none) (l Bx n₀ rb : Nat) (x : Exp) (A : Option Addr) (c : Nat) (J Jx : List NmIt → World → Prop) (W : World)
    (hab : AbidesFrom W.heap.size J) (hrb : rb < W.heap.size) (hn0 : n₀ ≤ W.heap.size)
    (hY : ∀ pre (s : NmIt) W, J pre W → pre.length < (askN x).length → YieldAt F (n - 1) Try.prog l (encNm s) W fun e W' =>
      (e = .returned (.bool true) ∧ J (pre ++ [s]) W' ∧ Kr n₀ rb W W') ∨ (e = .returned (.bool false) ∧ Jx (pre ++ [s]) W'))
    (hBx : W.heap[Bx]? = some (.cells #[.int .i64 x.op, .int .i64 x.v.k, .int .i64 x.v.n, .string x.v.s, .string x.name, .slice A x.args.length c] 26 (0, 0)))
    (hx : XRep W (fun b => b < n₀) [.int .i64 x.op, .int .i64 x.v.k, .int .i64 x.v.n, .string x.v.s, .string x.name, .slice A x.args.length c] x) (h0 : J [] W) :
    CallsIn F n Try.prog 34 #[.func (.yield l) #[] #[], .pointer (some ⟨Bx, 0, none⟩)] W fun e W' => (∃ v, e = .returned v) ∧
      ((∃ ys, nmsOf ys = askN x ∧ J ys W') ∨ (∃ pre, nmsOf pre <+: askN x ∧ Jx pre W')) := by
  have hdd : ∀ k : Nat, (F.depth.isSome = true → 1 ≤ k) := fun k h => by rw [hd] at h; cases h
  have hbl : Bx < W.heap.size := (Array.getElem?_eq_some_iff.1 hBx).1
  have c0 : W.cell? ⟨Bx, 0, none⟩ = some (.int .i64 x.op) := by simp [World.cell?, hBx]
  have c1 : W.cell? ⟨Bx, 1, none⟩ = some (.int .i64 x.v.k) := by simp [World.cell?, hBx]
  have c2 : W.cell? ⟨Bx, 2, none⟩ = some (.int .i64 x.v.n) := by simp [World.cell?, hBx]
  have c3 : W.cell? ⟨Bx, 3, none⟩ = some (.string x.v.s) := by simp [World.cell?, hBx]
  have c4 : W.cell? ⟨Bx, 4, none⟩ = some (.string x.name) := by simp [World.cell?, hBx]
  have c5 : W.cell? ⟨Bx, 5, none⟩ = some (.slice A x.args.length c) := by simp [World.cell?, hBx]
  obtain ⟨W2, hW2⟩ : ∃ W2, W2 = (W.alloc (.cells #[.func (.yield l) #[] #[]] 64)).alloc (.cells #[.func (.func 35) #[] #[.pointer (some ⟨W.heap.size, 0, none⟩), .pointer (some ⟨W.heap.size + 1, 0, none⟩)]] 65) := ⟨_, rfl⟩
  have hs2 : W2.heap.size = W.heap.size + 2 := by rw [hW2]; simp
  have hblk : ∀ b, b < W.heap.size → W2.heap[b]? = W.heap[b]? := fun b hb => by rw [hW2]; exact (Below.heap_alloc _ _ b (by simp; omega)).trans (Below.heap_alloc _ _ b hb)
  have bY : Boxed W2 W.heap.size 64 (.func (.yield l) #[] #[]) := by rw [hW2]; exact (Boxed.new W _ _).alloc _
  have bW : Boxed W2 (W.heap.size + 1) 65 (.func (.func 35) #[] #[.pointer (some ⟨W.heap.size, 0, none⟩), .pointer (some ⟨W.heap.size + 1, 0, none⟩)]) := by
    rw [hW2]; have := Boxed.new (W.alloc (.cells #[.func (.yield l) #[] #[]] 64)) 65 (.func (.func 35) #[] #[.pointer (some ⟨W.heap.size, 0, none⟩), .pointer (some ⟨W.heap.size + 1, 0, none⟩)])
    rwa [World.size_alloc] at this
  have hJ2 : J [] W2 := by rw [hW2]; exact hab _ _ _ none (hab _ _ _ none h0 (World.grownBy_alloc W _ none) (fun r e => by cases e)) (World.grownBy_alloc _ _ none) (fun r e => by cases e)
  have hx2 : XRep W2 (fun b => b < n₀) [.int .i64 x.op, .int .i64 x.v.k, .int .i64 x.v.n, .string x.v.s, .string x.name, .slice A x.args.length c] x := XRep.keep hx (fun b hb => ⟨hb, hblk b (by omega)⟩)
  have hcall := refs_walk F hd h35 hro l n₀ rb (askN x).length W.heap.size (W.heap.size + 1) (fun l W => ∃ ys, nmsOf ys = l ∧ J ys W) (fun l W => ∃ ys, nmsOf ys = l ∧ Jx ys W) W.heap.size
    (fun s A B row ⟨ys, e, hs⟩ hg hr => ⟨ys, e, hab ys A B row hs hg hr⟩) hrb hn0 (by omega) (by omega)
    (fun m pre s W1 hs ⟨ys, e, hj⟩ hl => yield_any hd m (YieldAt.mono (hY ys ⟨s, hs⟩ W1 hj (by rw [← nmsOf_len, e]; exact hl)) fun e1 W3 h => h.elim
      (fun ⟨h1, h2, h3⟩ => .inl ⟨h1, ⟨_, by rw [nmsOf_snoc, e], h2⟩, h3⟩) (fun ⟨h1, h2⟩ => .inr ⟨h1, ⟨_, by rw [nmsOf_snoc, e], h2⟩⟩)))
    x.nodes x A c (n - 1) [] W2 (Nat.le_refl _) (by omega) hx2 bY bW ⟨[], rfl, hJ2⟩ (by simp)
  have HC := Lib.hid hcall
  have HW := Lib.hid hW2
  clear hcall hW2 hBx hx h0 hab hJ2 hx2 bY bW hY
  refine callsIn_of_wp Try.func34 rfl h34 ?_ hro
  simp only [Try.ntmps34, List.size_toArray, List.length_cons, List.length_nil, Nat.reduceAdd, Nat.reduceSub, Array.replicate_succ, Array.replicate_zero, List.push_toArray, List.append_toArray, List.nil_append, List.cons_append]
  gi_wp2_with ((try refine ⟨hdd _, ?_⟩); gi_at_call 35; rw [← HW.out]; refine HC.out.mono ?_; rintro e W3 (⟨rfl, ⟨ys, hys, hJ3⟩, _⟩ | ⟨rfl, q, hq, ⟨ys, hys, hx3⟩⟩))
  · go_end0
    exact ⟨⟨_, rfl⟩, .inl ⟨ys, by simpa using hys, hJ3⟩⟩
  · go_end0
    exact ⟨⟨_, rfl⟩, .inr ⟨ys, by rw [hys]; simpa using hq, hx3⟩⟩

set_option maxHeartbeats 1000000 in
theorem refs_in (F : Fence) (n : Nat) (h14 : F.fn 14) (hro : F.round = none) (cs : Array Value) (hcs : cs.size = 6) (w : World) :
    CallsIn F n Try.prog 14 #[.agg cs] w fun e w' => e = .returned (.func (.func 34) #[] #[.pointer (some ⟨w.heap.size, 0, none⟩)]) ∧ w' = w.alloc (.cells cs 26) := by
  obtain ⟨l⟩ := cs
  match l, hcs with
  | [a, b, c, d, e, f], _ =>
    refine callsIn_of_wp Try.func14 rfl h14 ?_ hro
    simp only [Try.ntmps14, List.size_toArray, List.length_cons, List.length_nil, Nat.reduceAdd, Nat.reduceSub, Array.replicate_succ, Array.replicate_zero, List.push_toArray, List.append_toArray, List.nil_append, List.cons_append]
    gi_wp2
    go_ret
    exact ⟨rfl, rfl⟩
theorem refs_stops (F : Fence) (hd : F.depth = none) (n : Nat) (h34 : F.fn 34) (h35 : F.fn 35) (hro : F.round = none) (Bx n₀ rb : Nat) (x : Exp) (A : Option Addr) (c : Nat) (w : World) (hrb : rb < w.heap.size) (hn0 : n₀ ≤ w.heap.size)
    (hBx : w.heap[Bx]? = some (.cells #[.int .i64 x.op, .int .i64 x.v.k, .int .i64 x.v.n, .string x.v.s, .string x.name, .slice A x.args.length c] 26 (0, 0)))
    (hx : XRep w (fun b => b < n₀) [.int .i64 x.op, .int .i64 x.v.k, .int .i64 x.v.n, .string x.v.s, .string x.name, .slice A x.args.length c] x) :
    SeqStopsK F n Try.prog 34 #[.pointer (some ⟨Bx, 0, none⟩)] encNm (Kr n₀ rb) (fun ys => nmsOf ys = askN x) (fun pre => nmsOf pre <+: askN x) (askN x).length w := fun l J Jx W hW hab _ hY h0 =>
  refs1_in F hd n h34 h35 hro l Bx n₀ rb x A c J Jx W hab (Nat.lt_of_lt_of_le hrb hW.size) (Nat.le_trans hn0 hW.size) hY ((hW.block Bx (Array.getElem?_eq_some_iff.1 hBx).1).trans hBx)
    (XRep.keep hx (fun b hb => ⟨hb, hW.block b (by omega)⟩)) h0
theorem Kr.put {n₀ rb : Nat} (W : World) (l : Nat) (o o' : Obj) (hl : n₀ ≤ l) (ho : W.heap[l]? = some o) (hc : o.isCells = false) : Kr n₀ rb W (W.putObj l o') :=
  ⟨by simp, fun k hk => World.putObj_heap_other (fun e => by omega), fun k u hk hu hcu => (World.putObj_heap_other (fun e => by subst e; rw [ho] at hu; cases hu; rw [hc] at hcu; cases hcu)).trans hu⟩

set_option maxRecDepth 100000 in
set_option maxHeartbeats 4000000 in
theorem names_Has (x : Exp) (A : Option Addr) (c : Nat) (name : ByteArray) (w : World)
    (hx : XRep w (old w) [.int .i64 x.op, .int .i64 x.v.k, .int .i64 x.v.n, .string x.v.s, .string x.name, .slice A x.args.length c] x) :
    Calls Try.prog 6 #[.agg #[.int .i64 x.op, .int .i64 x.v.k, .int .i64 x.v.n, .string x.v.s, .string x.name, .slice A x.args.length c], .string name] w (RetB w ((askN x).any (isStr name))) := by
  refine (callsIn_wide (n := 6)).1 ?_
  refine callsIn_of_wp_marks Try.func6 rfl trivial ?_ rfl
  simp only [Try.ntmps6, List.size_toArray, List.length_cons, List.length_nil, Nat.reduceAdd, Nat.reduceSub, Array.replicate_succ, Array.replicate_zero, List.push_toArray, List.append_toArray, List.nil_append, List.cons_append]
  gi_wp2_with (refine ⟨trivial, ?_⟩; gi_at_call 14; refine (refs_in _ _ trivial rfl _ rfl _).mono ?_; rintro e w' ⟨rfl, rfl⟩)
  have bX := World.alloc_heap_new (((w.alloc (.cells #[.int .i64 x.op, .int .i64 x.v.k, .int .i64 x.v.n, .string x.v.s, .string x.name, .slice A x.args.length c] 26)).alloc (.cells #[.string name] 9)).alloc (.cells #[.bool false] 4)) (.cells #[.int .i64 x.op, .int .i64 x.v.k, .int .i64 x.v.n, .string x.v.s, .string x.name, .slice A x.args.length c] 26)
  have bN := ((Boxed.new (w.alloc (.cells #[.int .i64 x.op, .int .i64 x.v.k, .int .i64 x.v.n, .string x.v.s, .string x.name, .slice A x.args.length c] 26)) 9 (.string name)).alloc (.cells #[.bool false] 4)).alloc (.cells #[.int .i64 x.op, .int .i64 x.v.k, .int .i64 x.v.n, .string x.v.s, .string x.name, .slice A x.args.length c] 26)
  have bR := (Boxed.new ((w.alloc (.cells #[.int .i64 x.op, .int .i64 x.v.k, .int .i64 x.v.n, .string x.v.s, .string x.name, .slice A x.args.length c] 26)).alloc (.cells #[.string name] 9)) 4 (.bool false)).alloc (.cells #[.int .i64 x.op, .int .i64 x.v.k, .int .i64 x.v.n, .string x.v.s, .string x.name, .slice A x.args.length c] 26)
  simp only [World.size_alloc] at bX bN bR
  have hB0 : Below w.heap.size w ((((w.alloc (.cells #[.int .i64 x.op, .int .i64 x.v.k, .int .i64 x.v.n, .string x.v.s, .string x.name, .slice A x.args.length c] 26)).alloc (.cells #[.string name] 9)).alloc (.cells #[.bool false] 4)).alloc (.cells #[.int .i64 x.op, .int .i64 x.v.k, .int .i64 x.v.n, .string x.v.s, .string x.name, .slice A x.args.length c] 26)) := ((((Below.refl _ w).alloc (Nat.le_refl _) _).alloc (by simp) _).alloc (by simp; omega) _).alloc (by simp; omega) _
  have hsz : ((((w.alloc (.cells #[.int .i64 x.op, .int .i64 x.v.k, .int .i64 x.v.n, .string x.v.s, .string x.name, .slice A x.args.length c] 26)).alloc (.cells #[.string name] 9)).alloc (.cells #[.bool false] 4)).alloc (.cells #[.int .i64 x.op, .int .i64 x.v.k, .int .i64 x.v.n, .string x.v.s, .string x.name, .slice A x.args.length c] 26)).heap.size = w.heap.size + 4 := by simp
  obtain ⟨W0, hW0⟩ : ∃ W0, ((((w.alloc (.cells #[.int .i64 x.op, .int .i64 x.v.k, .int .i64 x.v.n, .string x.v.s, .string x.name, .slice A x.args.length c] 26)).alloc (.cells #[.string name] 9)).alloc (.cells #[.bool false] 4)).alloc (.cells #[.int .i64 x.op, .int .i64 x.v.k, .int .i64 x.v.n, .string x.v.s, .string x.name, .slice A x.args.length c] 26)) = W0 := ⟨_, rfl⟩
  rw [hW0] at bX bN bR hB0 hsz ⊢
  clear hW0
  have hx0 : XRep W0 (fun b => b < w.heap.size) [.int .i64 x.op, .int .i64 x.v.k, .int .i64 x.v.n, .string x.v.s, .string x.name, .slice A x.args.length c] x := XRep.keep hx (fun b hb => ⟨hb, hB0.block b hb⟩)
  have hsome : ∀ pre : List NmIt, nmsOf pre <+: askN x → (nmsOf pre).any (isStr name) = true → (askN x).any (isStr name) = true := fun pre ⟨r, hr⟩ h => by rw [← hr, List.any_append, h]; rfl
  have HS := Lib.hid hsome
  clear hsome hx
  refine wpIn_rangeFunc_ownH rfl (by omega) (gf := 34) (lb := #[.pointer (some ⟨w.heap.size + 1 + 1 + 1, 0, none⟩)]) rfl trivial (enters_of Try.func34 (by kernel_rfl) rfl)
    (refs_stops _ rfl _ trivial trivial rfl (w.heap.size + 1 + 1 + 1) w.heap.size (w.heap.size + 1 + 1) x A c W0 (by omega) (by omega) bX hx0) Kr.trans (fun W l o o' hl ho hc _ => Kr.put W l o o' (by omega) ho hc) (Below.refl _ _) (fun _ => rfl)
    (fun pre W => ((Boxed W (w.heap.size + 1) 9 (.string name) ∧ Boxed W (w.heap.size + 1 + 1) 4 (.bool false)) ∧ (nmsOf pre).any (isStr name) = false) ∧ Below w.heap.size w W)
    (fun cd pre W => ((cd = .ret ∧ (nmsOf pre).any (isStr name) = true) ∧ Boxed W (w.heap.size + 1 + 1) 4 (.bool true)) ∧ Below w.heap.size w W)
    (OwnFrom.and (OwnFrom.and (OwnFrom.and (Own.from (boxed_own _ _ _) _) (Own.from (boxed_own _ _ _) _)) (ownFrom_pure _ _)) (ownFrom_below (Nat.le_refl _) (by omega)))
    (fun _ => OwnFrom.and (OwnFrom.and (ownFrom_pure _ _) (Own.from (boxed_own _ _ _) _)) (ownFrom_below (Nat.le_refl _) (by omega)))
    ⟨⟨⟨bN, bR⟩, rfl⟩, hB0⟩
    (fun s a' W => a' = { tmps := #[.agg #[.int .i64 x.op, .int .i64 x.v.k, .int .i64 x.v.n, .string x.v.s, .string x.name, .slice A x.args.length c], .string name, .pointer (some ⟨w.heap.size, 0, none⟩), .pointer (some ⟨w.heap.size + 1, 0, none⟩), .pointer (some ⟨w.heap.size + 1 + 1, 0, none⟩), .string s.1, .agg #[.int .i64 x.op, .int .i64 x.v.k, .int .i64 x.v.n, .string x.v.s, .string x.name, .slice A x.args.length c], .func (.func 34) #[] #[.pointer (some ⟨w.heap.size + 1 + 1 + 1, 0, none⟩)], .string s.1, undef, undef, undef], defers := [] })
    (fun s a' => ownFrom_pure _ _)
    ?assign ?body ?done ?stop
  case assign =>
    rintro l pre s W K hI hK
    gi_wp2
    exact hK _ _ (KeepsFrom.refl _ _) (Kr.refl _ _ _) hI rfl
  case body =>
    rintro l pre s a' W hl ⟨r, hr⟩ ⟨⟨⟨bN1, bR1⟩, hany⟩, hB1⟩ rfl hlt
    have cN := bN1.cell
    have cR := bR1.cell
    have fR := bR1.frozen
    have lN := bN1.lt
    have lR := bR1.lt
    have HI := Lib.hid (And.intro bN1 (And.intro bR1 (And.intro hany hB1)))
    clear hany hr bN1 bR1 hB1
    cases hs : isStr name s.1
    · have hs1 : (s.1.toList == name.toList) = false := isStr_comm hs
      have HS1 := Lib.hid hs
      clear hs
      gi_wp2
      exact ⟨KeepsFrom.refl _ _, Kr.refl _ _ _, ⟨⟨HI.out.1, HI.out.2.1⟩, by rw [nmsOf_snoc, List.any_append, HI.out.2.2.1]; simp [HS1.out]⟩, HI.out.2.2.2⟩
    · have hs1 : (s.1.toList == name.toList) = true := isStr_comm hs
      have HS1 := Lib.hid hs
      clear hs
      gi_wp2
      exact ⟨(KeepsOthers.setCell _ _ _).from _, ⟨⟨rfl, by rw [nmsOf_snoc, List.any_append, HI.out.2.2.1]; simp [HS1.out]⟩, HI.out.2.1.set _⟩, HI.out.2.2.2.setCell (p := ⟨w.heap.size + 1 + 1, 0, none⟩) (by simp; omega) _⟩
  case done =>
    rintro D ys W hD hys ⟨⟨⟨bN1, bR1⟩, hany⟩, hB1⟩ hK
    have cR := bR1.cell
    have fR := bR1.frozen
    have lR := bR1.lt
    gi_wp2
    have bR2 := bR1.set (.bool false)
    have hK2 : (W.setCell ⟨w.heap.size + 1 + 1, 0, none⟩ (.bool false)).heap[D]? = some (.deferred (some [])) := (Below.heap_setCell W ⟨w.heap.size + 1 + 1, 0, none⟩ _ _ (by show D ≠ w.heap.size + 1 + 1; omega)).trans hK
    refine ⟨by simp, .inl ⟨_, _, rfl, run_takeDeferred hK2, ?_⟩⟩
    have hc5 := (bR2.kept (grownBy_putObj' (W.setCell ⟨w.heap.size + 1 + 1, 0, none⟩ (.bool false)) D (.deferred none)) (fun e => by cases e; omega)).cell
    have hf : (askN x).any (isStr name) = false := by rw [← hys]; exact hany
    refine ⟨.bool false, by simp [results, Try.results6, go_sem, hc5], by rw [hf], ?_⟩
    exact (hB1.setCell (p := ⟨w.heap.size + 1 + 1, 0, none⟩) (by simp; omega) _).trans (belowK_b (w := w) (Nat.le_refl _) _ D _ _ (by omega) hK2 rfl rfl)
  case stop =>
    rintro D cd pre W hD hpre ⟨⟨⟨rfl, hany⟩, bR1⟩, hB1⟩ hK
    have cR := bR1.cell
    gi_wp2
    refine ⟨by simp, .inl ⟨_, _, rfl, run_takeDeferred hK, ?_⟩⟩
    have hc5 := (bR1.kept (grownBy_putObj' W D (.deferred none)) (fun e => by cases e; omega)).cell
    refine ⟨.bool true, by simp [results, Try.results6, go_sem, hc5], by rw [HS.out pre hpre hany], ?_⟩
    exact hB1.trans (belowK_b (w := w) (Nat.le_refl _) W D _ _ (by omega) hK rfl rfl)
end Go.Proofs.Ytgmcojnhpedpnaa
