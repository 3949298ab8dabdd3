/- names.refs: the iterator over the names that a formula asks for: a closure that calls itself and hands its names to the round. -/
import Derived.Test.YtgmcojnhpedpnaaGreatBkw
import Derived.Test.YtgmcojnhpedpnaaGreatCop
import Derived.Test.YtgmcojnhpedpnaaGreatNamP
namespace Go.Proofs.YtgmcojnhpedpnaaGreat
open Go.RowKit Go.Shelf Go.Maps

attribute [local go_sem] Oper.semAt_some

theorem room_none {F : Fence} (hd : F.depth = none) (k : Nat) : F.room k := fun d h => by rw [hd] at h; cases h
theorem round_any {F : Fence} (hd : F.depth = none) {m m' : Nat} {P : Program} {l : Nat} {f : FuncId} {tmps : Array Value} {assign body : Code} {w : World} {R : Ending → World → Prop}
    (h : RoundIn F m P l f tmps assign body w R) : RoundIn F m' P l f tmps assign body w R := ⟨h.1, fun c cs _ => h.2 c cs (room_none hd _)⟩
theorem yield_any {F : Fence} (hd : F.depth = none) {m : Nat} (m' : Nat) {P : Program} {l : Nat} {args : Array Value} {W : World} {R : Ending → World → Prop} (h : YieldAt F m P l args W R) : YieldAt F m' P l args W R := by
  obtain ⟨fn, tmps, assign, body, hy, hR⟩ := h
  exact ⟨fn, tmps, assign, body, hy, round_any hd hR⟩
theorem calls_any {F : Fence} (hd : F.depth = none) {m : Nat} (m' : Nat) {P : Program} {f : FuncId} {args : Array Value} {W : World} {R : Ending → World → Prop} (h : CallsIn F m P f args W R) : CallsIn F m' P f args W R := by
  exact ⟨h.1, fun cs _ => h.2 cs (room_none hd _)⟩

/-- What lay below n₀ lies as it lay, and so does every row of cells but one. -/
def Kr (n₀ rb : Nat) (A B : World) : Prop := A.heap.size ≤ B.heap.size ∧ (∀ k, k < n₀ → B.heap[k]? = A.heap[k]?) ∧ ∀ (k : Nat) (o : Obj), k ≠ rb → A.heap[k]? = some o → o.isCells = true → B.heap[k]? = some o
theorem Kr.refl (n₀ rb : Nat) (A : World) : Kr n₀ rb A A := ⟨Nat.le_refl _, fun _ _ => rfl, fun _ _ _ h _ => h⟩
theorem Kr.trans {n₀ rb : Nat} {A B C : World} (h : Kr n₀ rb A B) (k : Kr n₀ rb B C) : Kr n₀ rb A C :=
  ⟨Nat.le_trans h.1 k.1, fun i hi => (k.2.1 i hi).trans (h.2.1 i hi), fun i o hi ho hc => k.2.2 i o hi (h.2.2 i o hi ho hc) hc⟩
theorem Kr.alloc {n₀ rb : Nat} {A B : World} (h : Kr n₀ rb A B) (o : Obj) (hn : n₀ ≤ A.heap.size) : Kr n₀ rb A (B.alloc o) :=
  ⟨by have := h.1; simp; omega, fun i hi => (Below.heap_alloc B o i (by have := h.1; omega)).trans (h.2.1 i hi), fun i u hi hu hc => (Below.heap_alloc B o i (Array.getElem?_eq_some_iff.1 (h.2.2 i u hi hu hc)).1).trans (h.2.2 i u hi hu hc)⟩
theorem Kr.cells {n₀ rb : Nat} {A B : World} (h : Kr n₀ rb A B) {k : Nat} {cs : Array Value} {t : TypeId} {z : Nat × Nat} (hk : k ≠ rb) (ha : A.heap[k]? = some (.cells cs t z)) : B.heap[k]? = some (.cells cs t z) := h.2.2 k _ hk ha rfl
theorem Kr.boxed {n₀ rb : Nat} {A B : World} (h : Kr n₀ rb A B) {k : Nat} {v : Value} {t : TypeId} (hk : k ≠ rb) (ha : Boxed A k t v) : Boxed B k t v := h.2.2 k _ hk ha rfl

abbrev encN (s : { s : ByteArray // inS s }) : Array Value := #[.string s.1]

set_option maxRecDepth 100000 in
set_option maxHeartbeats 4000000 in
theorem refs_walk (F : Fence) (hd : F.depth = none) (h35 : F.fn 138) (hro : F.round = none) (l n₀ rb N Yb Wb : Nat) (J Jx : List ByteArray → World → Prop) (n₁ : Nat) (hab : AbidesFrom n₁ J) (hrb : rb < n₁) (hn1 : n₀ ≤ n₁) (hYr : Yb ≠ rb) (hWr : Wb ≠ rb)
    (hY : ∀ m pre (s : ByteArray) W, inS s → J pre W → pre.length < N → YieldAt F m Tryz.prog l #[.string s] W fun e W' =>
      (e = .returned (.bool true) ∧ J (pre ++ [s]) W' ∧ Kr n₀ rb W W') ∨ (e = .returned (.bool false) ∧ Jx (pre ++ [s]) W')) (M : Nat) :
    ∀ (x : Exp) (A : Option Addr) (c n : Nat) (pre : List ByteArray) (W : World), x.nodes ≤ M → n₁ ≤ W.heap.size →
      XRep W (fun b => b < n₀) [.int .i64 x.op, .int .i64 x.v.k, .int .i64 x.v.n, .string x.v.s, .string x.name, .slice A x.args.length c] x →
      Boxed W Yb 136 (.func (.yield l) #[] #[]) → Boxed W Wb 36 (.func (.func 138) #[] #[.pointer (some ⟨Yb, 0, none⟩), .pointer (some ⟨Wb, 0, none⟩)]) →
      J pre W → pre.length + (askN x).length ≤ N →
      CallsIn F n Tryz.prog 138 #[.agg #[.int .i64 x.op, .int .i64 x.v.k, .int .i64 x.v.n, .string x.v.s, .string x.name, .slice A x.args.length c], .pointer (some ⟨Yb, 0, none⟩), .pointer (some ⟨Wb, 0, none⟩)] W fun e W' =>
        (e = .returned (.bool true) ∧ J (pre ++ askN x) W' ∧ Kr n₀ rb W W') ∨ (e = .returned (.bool false) ∧ ∃ q, q <+: askN x ∧ Jx (pre ++ q) W') := by
  induction M with
  | zero =>
    intro x A c n pre W hM
    obtain ⟨op, v, nm, args⟩ := x
    simp [Exp.nodes] at hM
  | succ M ih =>
    intro x A c n pre W hM hsz hx bY bW hJ hN
    have HI := Lib.hid ih
    clear ih
    obtain ⟨A0, c0, e0, i1, i2, i3, i4, i5, hsl⟩ := hx.open_
    simp only [List.cons.injEq, Value.slice.injEq, and_true, true_and] at e0
    obtain ⟨rfl, rfl⟩ := e0
    have i4' : inS x.name := i3
    have hch : ∀ (i : Nat) (a : Exp), x.args[i]? = some a → a.nodes ≤ M := by
      obtain ⟨op, v, nm, args⟩ := x
      intro i a h
      have := nodes_at args i a h
      simp only [Exp.nodes] at hM
      omega
    have hask := askN_eq x
    have hdd : ∀ k : Nat, (F.depth.isSome = true → 1 ≤ k) := fun k h => by rw [hd] at h; cases h
    have HH := Lib.hid (And.intro hsl hch)
    have hlen : x.args.length ≤ 1759218604416 := by unfold inB at i4; omega
    have hWs : W.heap.size ≠ rb := by omega
    generalize hcs : (#[.int .i64 x.op, .int .i64 x.v.k, .int .i64 x.v.n, .string x.v.s, .string x.name, .slice A x.args.length c] : Array Value) = cs
    have hbx : (W.alloc (.cells cs 26)).heap[W.heap.size]? = some (.cells cs 26 (0, 0)) := World.alloc_heap_new W _
    have hJ1 : J pre (W.alloc (.cells cs 26)) := hab pre W _ none hJ (World.grownBy_alloc W _ none) (fun r e => by cases e)
    subst hcs
    -- the loop over the arguments, from whatever world in which it stands
    have HB := Lib.hid (And.intro hbx (And.intro hJ1 (And.intro bY bW)))
    clear hsl hch hx hM i1 i2 i3 i5 hbx hJ1 hJ
    obtain ⟨own, hown⟩ : ∃ own, own = if x.op = 2 then [x.name] else [] := ⟨_, rfl⟩
    rw [← hown] at hask
    have hcut : ∀ (k : Nat) (a : Exp), x.args[k]? = some a → ∃ r, askN x = own ++ askNL (x.args.take k) ++ askN a ++ r := by
      intro k a ha
      obtain ⟨hk, he⟩ := List.getElem?_eq_some_iff.1 ha
      refine ⟨askNL (x.args.drop (k + 1)), ?_⟩
      rw [hask]
      conv => lhs; rw [← List.take_append_drop k x.args, List.drop_eq_getElem_cons hk, he]
      rw [askNL_app]
      simp [askNL]
    have HC := Lib.hid hcut
    have HA := Lib.hid hask
    clear hask hcut
    have h5c : ∀ W', Kr n₀ rb (W.alloc (.cells #[.int .i64 x.op, .int .i64 x.v.k, .int .i64 x.v.n, .string x.v.s, .string x.name, .slice A x.args.length c] 26)) W' → W'.cell? ⟨W.heap.size, 5, none⟩ = some (.slice A x.args.length c) ∧ W.heap.size + 1 ≤ W'.heap.size ∧ Boxed W' Wb 36 (.func (.func 138) #[] #[.pointer (some ⟨Yb, 0, none⟩), .pointer (some ⟨Wb, 0, none⟩)]) ∧ Boxed W' Yb 136 (.func (.yield l) #[] #[]) := fun W' h => by
      have h1 := h.cells hWs HB.out.1
      exact ⟨by simp [World.cell?, h1], by simpa using h.1, h.boxed hWr (HB.out.2.2.2.alloc _), h.boxed hYr (HB.out.2.2.1.alloc _)⟩
    have H5 := Lib.hid h5c
    clear h5c
    cases ho : (x.op == 2)
    · have h0 : own = [] := by rw [hown, if_neg (by simpa using ho)]
      have HJ := Lib.hid (And.intro (show J (pre ++ own) _ by rw [h0, List.append_nil]; exact HB.out.2.1) (Kr.refl n₀ rb (W.alloc (.cells #[.int .i64 x.op, .int .i64 x.v.k, .int .i64 x.v.n, .string x.v.s, .string x.name, .slice A x.args.length c] 26))))
      clear hown h0
      refine callsIn_of_wp Tryz.func138 rfl h35 ?_ hro
      simp only [Tryz.ntmps138, List.size_toArray, List.length_cons, List.length_nil, Nat.reduceAdd, Nat.reduceSub, Array.replicate_succ, Array.replicate_zero, List.push_toArray, List.append_toArray, List.nil_append, List.cons_append]
      gi_wp2
      refine ⟨fun _ h => (by cases h), ?_⟩
      gi_wp2
      gi_loopw [20] (fun i wr => ∃ k : Nat, k ≤ x.args.length ∧ i = .int .i64 k ∧ J (pre ++ own ++ askNL (x.args.take k)) wr ∧ Kr n₀ rb (W.alloc (.cells #[.int .i64 x.op, .int .i64 x.v.k, .int .i64 x.v.n, .string x.v.s, .string x.name, .slice A x.args.length c] 26)) wr) (fun i _ => x.args.length - (intOf i).toNat)
      case atStart => exact ⟨0, by omega, rfl, by simpa [askNL] using HJ.out.1, HJ.out.2⟩
      case round =>
        obtain ⟨k, hk, rfl, hJk, hkr⟩ := hrel
        obtain ⟨_, hsz2, bW2, bY2⟩ := H5.out wr hkr
        have HK := Lib.hid (And.intro hJk (And.intro hkr (And.intro bW2 bY2)))
        clear hJk hkr bY2
        by_cases hlt : k < x.args.length
        · obtain ⟨b, o, a, X, C, hAe, hbl, hl, hxa, x0, x1, x2, x3, x4, x5⟩ := Exp_at (Sl.keepN keeps_Exp (w' := wr) (S' := fun b => b < n₀) HH.out.1 (fun b hb => ⟨hb, (HK.out.2.1.2.1 b hb).trans (Below.heap_alloc W _ b (by omega))⟩)) hlt
          subst hAe
          have hbl' : b < wr.heap.size := by have h1 : b < n₀ := hbl; omega
          have lW := bW2.lt
          have cW := bW2.cell
          obtain ⟨r, hr⟩ := HC.out k a hl
          have hNa : (pre ++ own ++ askNL (x.args.take k)).length + (askN a).length ≤ N := by
            have h1 := congrArg List.length hr
            simp only [List.length_append] at h1 ⊢
            omega
          have hJa : J (pre ++ own ++ askNL (x.args.take k)) (wr.alloc (.cells #[.int .i64 a.op, .int .i64 a.v.k, .int .i64 a.v.n, .string a.v.s, .string a.name, .slice X a.args.length C] 26)) := hab _ wr _ none HK.out.1 (World.grownBy_alloc wr _ none) (fun r e => by cases e)
          have hxa' : XRep (wr.alloc (.cells #[.int .i64 a.op, .int .i64 a.v.k, .int .i64 a.v.n, .string a.v.s, .string a.name, .slice X a.args.length C] 26)) (fun b => b < n₀) [.int .i64 a.op, .int .i64 a.v.k, .int .i64 a.v.n, .string a.v.s, .string a.name, .slice X a.args.length C] a := XRep.keep hxa (fun b hb => ⟨hb, Below.heap_alloc wr _ b (by omega)⟩)
          have hcall := HI.out a X C (n - 1) _ _ (HH.out.2 k a hl) (by simp; omega) hxa' (HK.out.2.2.2.alloc _) (HK.out.2.2.1.alloc _) hJa hNa
          have HR := Lib.hid (And.intro hr hl)
          clear hxa hxa' hJa hl hr bW2 hbl
          gi_wp2_with ((try refine ⟨hdd _, ?_⟩); gi_at_call 138; refine hcall.mono ?_; clear hcall; rintro e W3 (⟨rfl, hJ3, hk3⟩ | ⟨rfl, q, hq, hx3⟩))
          · go_roundw
            case rel =>
              refine ⟨k + 1, by omega, by go_num, ?_, HK.out.2.1.trans ((Kr.refl n₀ rb wr).alloc _ (by omega) |>.trans hk3)⟩
              rw [List.take_add_one, HR.out.2]
              simpa [askNL_app, askNL, List.append_assoc] using hJ3
            case measure => simp [intOf]; omega
          · go_ret
            refine .inr ⟨rfl, own ++ askNL (x.args.take k) ++ q, ?_, by simpa [List.append_assoc] using hx3⟩
            obtain ⟨r2, hr2⟩ := hq
            exact ⟨r2 ++ r, by rw [HR.out.1, ← hr2]; simp [List.append_assoc]⟩
        · have hke : k = x.args.length := by omega
          subst hke
          gi_wp2
          go_ret
          refine .inl ⟨rfl, ?_, ?_⟩
          · have h1 := HK.out.1
            rw [List.take_of_length_le (Nat.le_refl _)] at h1
            rw [HA.out]
            simpa [List.append_assoc] using h1
          · exact ((Kr.refl n₀ rb W).alloc _ (by omega)).trans HK.out.2.1
    · have h0 : own = [x.name] := by rw [hown, if_pos (by simpa using ho)]
      obtain ⟨fn, tmps, assign, body, hy, hR⟩ := hY (n - 1) pre x.name _ i4' HB.out.2.1 (by rw [HA.out, h0] at hN; simp at hN; omega)
      have cY := bY.cell
      have lY := bY.lt
      refine callsIn_of_wp Tryz.func138 rfl h35 ?_ hro
      simp only [Tryz.ntmps138, List.size_toArray, List.length_cons, List.length_nil, Nat.reduceAdd, Nat.reduceSub, Array.replicate_succ, Array.replicate_zero, List.push_toArray, List.append_toArray, List.nil_append, List.cons_append]
      gi_wp2_with ((try refine ⟨hdd _, ?_⟩); refine hR.mono ?_; clear hR; rintro e W2 (⟨rfl, hJ2, hk2⟩ | ⟨rfl, hx2⟩); (first | (obtain ⟨c5, hs5, _⟩ := H5.out W2 hk2) | skip))
      rotate_left
      · go_ret
        exact .inr ⟨rfl, [x.name], ⟨askNL x.args, by rw [HA.out, h0]⟩, hx2⟩
      have HJ := Lib.hid (And.intro (show J (pre ++ own) W2 by rw [h0]; exact hJ2) hk2)
      clear hown h0 hJ2 hk2
      gi_loopw [20] (fun i wr => ∃ k : Nat, k ≤ x.args.length ∧ i = .int .i64 k ∧ J (pre ++ own ++ askNL (x.args.take k)) wr ∧ Kr n₀ rb (W.alloc (.cells #[.int .i64 x.op, .int .i64 x.v.k, .int .i64 x.v.n, .string x.v.s, .string x.name, .slice A x.args.length c] 26)) wr) (fun i _ => x.args.length - (intOf i).toNat)
      case atStart => exact ⟨0, by omega, rfl, by simpa [askNL] using HJ.out.1, HJ.out.2⟩
      case round =>
        obtain ⟨k, hk, rfl, hJk, hkr⟩ := hrel
        obtain ⟨_, hsz2, bW2, bY2⟩ := H5.out wr hkr
        have HK := Lib.hid (And.intro hJk (And.intro hkr (And.intro bW2 bY2)))
        clear hJk hkr bY2
        by_cases hlt : k < x.args.length
        · obtain ⟨b, o, a, X, C, hAe, hbl, hl, hxa, x0, x1, x2, x3, x4, x5⟩ := Exp_at (Sl.keepN keeps_Exp (w' := wr) (S' := fun b => b < n₀) HH.out.1 (fun b hb => ⟨hb, (HK.out.2.1.2.1 b hb).trans (Below.heap_alloc W _ b (by omega))⟩)) hlt
          subst hAe
          have hbl' : b < wr.heap.size := by have h1 : b < n₀ := hbl; omega
          have lW := bW2.lt
          have cW := bW2.cell
          obtain ⟨r, hr⟩ := HC.out k a hl
          have hNa : (pre ++ own ++ askNL (x.args.take k)).length + (askN a).length ≤ N := by
            have h1 := congrArg List.length hr
            simp only [List.length_append] at h1 ⊢
            omega
          have hJa : J (pre ++ own ++ askNL (x.args.take k)) (wr.alloc (.cells #[.int .i64 a.op, .int .i64 a.v.k, .int .i64 a.v.n, .string a.v.s, .string a.name, .slice X a.args.length C] 26)) := hab _ wr _ none HK.out.1 (World.grownBy_alloc wr _ none) (fun r e => by cases e)
          have hxa' : XRep (wr.alloc (.cells #[.int .i64 a.op, .int .i64 a.v.k, .int .i64 a.v.n, .string a.v.s, .string a.name, .slice X a.args.length C] 26)) (fun b => b < n₀) [.int .i64 a.op, .int .i64 a.v.k, .int .i64 a.v.n, .string a.v.s, .string a.name, .slice X a.args.length C] a := XRep.keep hxa (fun b hb => ⟨hb, Below.heap_alloc wr _ b (by omega)⟩)
          have hcall := HI.out a X C (n - 1) _ _ (HH.out.2 k a hl) (by simp; omega) hxa' (HK.out.2.2.2.alloc _) (HK.out.2.2.1.alloc _) hJa hNa
          have HR := Lib.hid (And.intro hr hl)
          clear hxa hxa' hJa hl hr bW2 hbl
          gi_wp2_with ((try refine ⟨hdd _, ?_⟩); gi_at_call 138; refine hcall.mono ?_; clear hcall; rintro e W3 (⟨rfl, hJ3, hk3⟩ | ⟨rfl, q, hq, hx3⟩))
          · go_roundw
            case rel =>
              refine ⟨k + 1, by omega, by go_num, ?_, HK.out.2.1.trans ((Kr.refl n₀ rb wr).alloc _ (by omega) |>.trans hk3)⟩
              rw [List.take_add_one, HR.out.2]
              simpa [askNL_app, askNL, List.append_assoc] using hJ3
            case measure => simp [intOf]; omega
          · go_ret
            refine .inr ⟨rfl, own ++ askNL (x.args.take k) ++ q, ?_, by simpa [List.append_assoc] using hx3⟩
            obtain ⟨r2, hr2⟩ := hq
            exact ⟨r2 ++ r, by rw [HR.out.1, ← hr2]; simp [List.append_assoc]⟩
        · have hke : k = x.args.length := by omega
          subst hke
          gi_wp2
          go_ret
          refine .inl ⟨rfl, ?_, ?_⟩
          · have h1 := HK.out.1
            rw [List.take_of_length_le (Nat.le_refl _)] at h1
            rw [HA.out]
            simpa [List.append_assoc] using h1
          · exact ((Kr.refl n₀ rb W).alloc _ (by omega)).trans HK.out.2.1
end Go.Proofs.YtgmcojnhpedpnaaGreat
