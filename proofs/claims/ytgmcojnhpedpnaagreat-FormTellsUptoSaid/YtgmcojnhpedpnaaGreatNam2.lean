/- names.refs as an iterator's contract; names.Has. -/
import Derived.Test.YtgmcojnhpedpnaaGreatNam1
import Derived.Laws.EntriesVeiled
namespace Go.Proofs.YtgmcojnhpedpnaaGreat
open Go.RowKit Go.Shelf Go.Maps

attribute [local go_sem] Oper.semAt_some

abbrev NmIt := { s : ByteArray // inS s }
abbrev encNm (s : NmIt) : Array Value := #[.string s.1]
def nmsOf (l : List NmIt) : List ByteArray := l.map (·.1)
theorem nmsOf_snoc (l : List NmIt) (s : NmIt) : nmsOf (l ++ [s]) = nmsOf l ++ [s.1] := by simp [nmsOf]
theorem nmsOf_len (l : List NmIt) : (nmsOf l).length = l.length := by simp [nmsOf]

set_option maxRecDepth 100000 in
set_option maxHeartbeats 2000000 in
theorem refs1_in (F : Fence) (hd : F.depth = none) (n : Nat) (h34 : F.fn 137) (h35 : F.fn 138) (hro : F.round = none) (l Bx n₀ rb : Nat) (x : Exp) (A : Option Addr) (c : Nat) (J Jx : List NmIt → World → Prop) (W : World)
    (hab : AbidesFrom W.heap.size J) (hrb : rb < W.heap.size) (hn0 : n₀ ≤ W.heap.size)
    (hY : ∀ pre (s : NmIt) W, J pre W → pre.length < (askN x).length → YieldAt F (n - 1) Tryz.prog l (encNm s) W fun e W' =>
      (e = .returned (.bool true) ∧ J (pre ++ [s]) W' ∧ Kr n₀ rb W W') ∨ (e = .returned (.bool false) ∧ Jx (pre ++ [s]) W'))
    (hBx : W.heap[Bx]? = some (.cells #[.int .i64 x.op, .int .i64 x.v.k, .int .i64 x.v.n, .string x.v.s, .string x.name, .slice A x.args.length c] 26 (0, 0)))
    (hx : XRep W (fun b => b < n₀) [.int .i64 x.op, .int .i64 x.v.k, .int .i64 x.v.n, .string x.v.s, .string x.name, .slice A x.args.length c] x) (h0 : J [] W) :
    CallsIn F n Tryz.prog 137 #[.func (.yield l) #[] #[], .pointer (some ⟨Bx, 0, none⟩)] W fun e W' => (∃ v, e = .returned v) ∧
      ((∃ ys, nmsOf ys = askN x ∧ J ys W') ∨ (∃ pre, nmsOf pre <+: askN x ∧ Jx pre W')) := by
  have hdd : ∀ k : Nat, (F.depth.isSome = true → 1 ≤ k) := fun k h => by rw [hd] at h; cases h
  have hbl : Bx < W.heap.size := (Array.getElem?_eq_some_iff.1 hBx).1
  have c0 : W.cell? ⟨Bx, 0, none⟩ = some (.int .i64 x.op) := by simp [World.cell?, hBx]
  have c1 : W.cell? ⟨Bx, 1, none⟩ = some (.int .i64 x.v.k) := by simp [World.cell?, hBx]
  have c2 : W.cell? ⟨Bx, 2, none⟩ = some (.int .i64 x.v.n) := by simp [World.cell?, hBx]
  have c3 : W.cell? ⟨Bx, 3, none⟩ = some (.string x.v.s) := by simp [World.cell?, hBx]
  have c4 : W.cell? ⟨Bx, 4, none⟩ = some (.string x.name) := by simp [World.cell?, hBx]
  have c5 : W.cell? ⟨Bx, 5, none⟩ = some (.slice A x.args.length c) := by simp [World.cell?, hBx]
  obtain ⟨W2, hW2⟩ : ∃ W2, W2 = (W.alloc (.cells #[.func (.yield l) #[] #[]] 136)).alloc (.cells #[.func (.func 138) #[] #[.pointer (some ⟨W.heap.size, 0, none⟩), .pointer (some ⟨W.heap.size + 1, 0, none⟩)]] 36) := ⟨_, rfl⟩
  have hs2 : W2.heap.size = W.heap.size + 2 := by rw [hW2]; simp
  have hblk : ∀ b, b < W.heap.size → W2.heap[b]? = W.heap[b]? := fun b hb => by rw [hW2]; exact (Below.heap_alloc _ _ b (by simp; omega)).trans (Below.heap_alloc _ _ b hb)
  have bY : Boxed W2 W.heap.size 136 (.func (.yield l) #[] #[]) := by rw [hW2]; exact (Boxed.new W _ _).alloc _
  have bW : Boxed W2 (W.heap.size + 1) 36 (.func (.func 138) #[] #[.pointer (some ⟨W.heap.size, 0, none⟩), .pointer (some ⟨W.heap.size + 1, 0, none⟩)]) := by
    rw [hW2]; have := Boxed.new (W.alloc (.cells #[.func (.yield l) #[] #[]] 136)) 36 (.func (.func 138) #[] #[.pointer (some ⟨W.heap.size, 0, none⟩), .pointer (some ⟨W.heap.size + 1, 0, none⟩)])
    rwa [World.size_alloc] at this
  have hJ2 : J [] W2 := by rw [hW2]; exact hab _ _ _ none (hab _ _ _ none h0 (World.grownBy_alloc W _ none) (fun r e => by cases e)) (World.grownBy_alloc _ _ none) (fun r e => by cases e)
  have hx2 : XRep W2 (fun b => b < n₀) [.int .i64 x.op, .int .i64 x.v.k, .int .i64 x.v.n, .string x.v.s, .string x.name, .slice A x.args.length c] x := XRep.keep hx (fun b hb => ⟨hb, hblk b (by omega)⟩)
  have hcall := refs_walk F hd h35 hro l n₀ rb (askN x).length W.heap.size (W.heap.size + 1) (fun l W => ∃ ys, nmsOf ys = l ∧ J ys W) (fun l W => ∃ ys, nmsOf ys = l ∧ Jx ys W) W.heap.size
    (fun s A B row ⟨ys, e, hs⟩ hg hr => ⟨ys, e, hab ys A B row hs hg hr⟩) hrb hn0 (by omega) (by omega)
    (fun m pre s W1 hs ⟨ys, e, hj⟩ hl => yield_any hd m (YieldAt.mono (hY ys ⟨s, hs⟩ W1 hj (by rw [← nmsOf_len, e]; exact hl)) fun e1 W3 h => h.elim
      (fun ⟨h1, h2, h3⟩ => .inl ⟨h1, ⟨_, by rw [nmsOf_snoc, e], h2⟩, h3⟩) (fun ⟨h1, h2⟩ => .inr ⟨h1, ⟨_, by rw [nmsOf_snoc, e], h2⟩⟩)))
    x.nodes x A c (n - 1) [] W2 (Nat.le_refl _) (by omega) hx2 bY bW ⟨[], rfl, hJ2⟩ (by simp)
  have HC := Lib.hid hcall
  have HW := Lib.hid hW2
  clear hcall hW2 hBx hx h0 hab hJ2 hx2 bY bW hY
  refine callsIn_of_wp Tryz.func137 rfl h34 ?_ hro
  simp only [Tryz.ntmps137, List.size_toArray, List.length_cons, List.length_nil, Nat.reduceAdd, Nat.reduceSub, Array.replicate_succ, Array.replicate_zero, List.push_toArray, List.append_toArray, List.nil_append, List.cons_append]
  gi_wp2_with ((try refine ⟨hdd _, ?_⟩); gi_at_call 138; rw [← HW.out]; refine HC.out.mono ?_; rintro e W3 (⟨rfl, ⟨ys, hys, hJ3⟩, _⟩ | ⟨rfl, q, hq, ⟨ys, hys, hx3⟩⟩))
  · go_end0
    exact ⟨⟨_, rfl⟩, .inl ⟨ys, by simpa using hys, hJ3⟩⟩
  · go_end0
    exact ⟨⟨_, rfl⟩, .inr ⟨ys, by rw [hys]; simpa using hq, hx3⟩⟩

set_option maxHeartbeats 1000000 in
theorem refs_in (F : Fence) (n : Nat) (h14 : F.fn 101) (hro : F.round = none) (cs : Array Value) (hcs : cs.size = 6) (w : World) :
    CallsIn F n Tryz.prog 101 #[.agg cs] w fun e w' => e = .returned (.func (.func 137) #[] #[.pointer (some ⟨w.heap.size, 0, none⟩)]) ∧ w' = w.alloc (.cells cs 26) := by
  obtain ⟨l⟩ := cs
  match l, hcs with
  | [a, b, c, d, e, f], _ =>
    refine callsIn_of_wp Tryz.func101 rfl h14 ?_ hro
    simp only [Tryz.ntmps101, List.size_toArray, List.length_cons, List.length_nil, Nat.reduceAdd, Nat.reduceSub, Array.replicate_succ, Array.replicate_zero, List.push_toArray, List.append_toArray, List.nil_append, List.cons_append]
    gi_wp2
    go_ret
    exact ⟨rfl, rfl⟩
theorem refs_stops (F : Fence) (hd : F.depth = none) (n : Nat) (h34 : F.fn 137) (h35 : F.fn 138) (hro : F.round = none) (Bx n₀ rb : Nat) (x : Exp) (A : Option Addr) (c : Nat) (w : World) (hrb : rb < w.heap.size) (hn0 : n₀ ≤ w.heap.size)
    (hBx : w.heap[Bx]? = some (.cells #[.int .i64 x.op, .int .i64 x.v.k, .int .i64 x.v.n, .string x.v.s, .string x.name, .slice A x.args.length c] 26 (0, 0)))
    (hx : XRep w (fun b => b < n₀) [.int .i64 x.op, .int .i64 x.v.k, .int .i64 x.v.n, .string x.v.s, .string x.name, .slice A x.args.length c] x) :
    SeqStopsK F n Tryz.prog 137 #[.pointer (some ⟨Bx, 0, none⟩)] encNm (Kr n₀ rb) (fun ys => nmsOf ys = askN x) (fun pre => nmsOf pre <+: askN x) (askN x).length w := fun l J Jx W hW hab _ hY h0 =>
  refs1_in F hd n h34 h35 hro l Bx n₀ rb x A c J Jx W hab (Nat.lt_of_lt_of_le hrb hW.size) (Nat.le_trans hn0 hW.size) hY ((hW.block Bx (Array.getElem?_eq_some_iff.1 hBx).1).trans hBx)
    (XRep.keep hx (fun b hb => ⟨hb, hW.block b (by omega)⟩)) h0
theorem Kr.put {n₀ rb : Nat} (W : World) (l : Nat) (o o' : Obj) (hl : n₀ ≤ l) (ho : W.heap[l]? = some o) (hc : o.isCells = false) : Kr n₀ rb W (W.putObj l o') :=
  ⟨by simp, fun k hk => World.putObj_heap_other (fun e => by omega), fun k u hk hu hcu => (World.putObj_heap_other (fun e => by subst e; rw [ho] at hu; cases hu; rw [hc] at hcu; cases hcu)).trans hu⟩

end Go.Proofs.YtgmcojnhpedpnaaGreat
