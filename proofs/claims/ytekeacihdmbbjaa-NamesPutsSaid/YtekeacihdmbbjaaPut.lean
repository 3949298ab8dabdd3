/- A formula put in the place of a name: names.put. -/
import Derived.Test.YtekeacihdmbbjaaCop
import Derived.Test.YtekeacihdmbbjaaKee
import Derived.Test.YtekeacihdmbbjaaRegT
namespace Go.Proofs.Ytekeacihdmbbjaa
open Go.RowKit

def hitRef (name : ByteArray) (op : Int) (nm : ByteArray) : Bool := op == 2 && nm.toList == name.toList
mutual
def putX (name : ByteArray) (y : Exp) : Exp → Exp
  | .mk op v nm args => bif hitRef name op nm then y else .mk op v nm (putL name y args)
def putL (name : ByteArray) (y : Exp) : List Exp → List Exp
  | [] => []
  | a :: l => putX name y a :: putL name y l
end
theorem putL_map (name : ByteArray) (y : Exp) : ∀ l, putL name y l = l.map (putX name y)
  | [] => by simp [putL]
  | a :: l => by simp [putL, putL_map name y l]
theorem putX_hit {name : ByteArray} {y x : Exp} (h : hitRef name x.op x.name = true) : putX name y x = y := by
  obtain ⟨op, v, nm, args⟩ := x
  have h' : hitRef name op nm = true := h
  simp [putX, h']
theorem putX_miss {name : ByteArray} {y x : Exp} (h : hitRef name x.op x.name = false) : putX name y x = .mk x.op x.v x.name (x.args.map (putX name y)) := by
  obtain ⟨op, v, nm, args⟩ := x
  have h' : hitRef name op nm = false := h
  simp [putX, h', putL_map, Exp.op, Exp.v, Exp.name, Exp.args]
theorem hitRef_cases (name : ByteArray) (op : Int) (nm : ByteArray) : ((op == 2) = true ∧ (nm.toList == name.toList) = true ∧ hitRef name op nm = true) ∨ ((op == 2) = false ∧ hitRef name op nm = false) ∨ ((op == 2) = true ∧ (nm.toList == name.toList) = false ∧ hitRef name op nm = false) := by
  unfold hitRef
  cases (op == 2) <;> cases (nm.toList == name.toList) <;> simp

set_option maxRecDepth 100000 in
set_option maxHeartbeats 1000000 in
theorem names_put_hit (name : ByteArray) (x y : Exp) (A Y : Option Addr) (c D : Nat) (w : World) (z1 : (x.op == 2) = true) (z2 : (x.name.toList == name.toList) = true)
    (hy : XRep w (old w) [.int .i64 y.op, .int .i64 y.v.k, .int .i64 y.v.n, .string y.v.s, .string y.name, .slice Y y.args.length D] y) :
    Calls Try.prog 78 #[.agg #[.int .i64 x.op, .int .i64 x.v.k, .int .i64 x.v.n, .string x.v.s, .string x.name, .slice A x.args.length c], .string name, .agg #[.int .i64 y.op, .int .i64 y.v.k, .int .i64 y.v.n, .string y.v.s, .string y.name, .slice Y y.args.length D]] w (RetExp w y) := by
  have HY := Lib.hid hy
  clear hy
  go_enter Try.func78, Try.ntmps78
  go_wp2_with fail
  refine (names_Copy _ y Y D _ (Nat.le_refl _) (HY.out.keep (old_keep (by repeat (first | with_reducible exact Below.refl _ _ | with_reducible assumption | with_reducible refine below_drewN ?_ _ | with_reducible refine Below.drew ?_ | with_reducible refine below_alloc0 ?_ | with_reducible refine below_alloc ?_ (by simp; try omega) | with_reducible refine below_set ?_ (by simp; try omega) | with_reducible refine below_chain ?_ (by assumption) | (with_reducible refine below_step ?_ (by assumption) (by simp; try omega))))))).mono ?_; rintro e w3 ⟨A3, c3, rfl, hxx, hb3⟩; obtain ⟨hc3, hf3⟩ := bcell hb3; (try simp only [World.heap_drewN, World.cell?_drewN, World.frozen?_drewN] at hc3 hf3); have hz3 := hb3.size; (try simp at hz3); (try (have hy3 := Nat.lt_of_succ_le hz3)); (try (have hx3 := Nat.lt_of_succ_lt hy3))
  have HX := Lib.hid hxx
  clear hxx
  go_wp2_with fail
  refine bodyPost_ret (v := .agg #[.int .i64 y.op, .int .i64 y.v.k, .int .i64 y.v.n, .string y.v.s, .string y.name, .slice A3 y.args.length c3]) (by first | (simp [results, Try.results78, go_sem]; done) | (simp [results, Try.results78, go_sem, *]; done)) rfl ?_
  refine ⟨A3, c3, rfl, HX.out.keep (fun b hb => ?_), (by repeat (first | with_reducible exact Below.refl _ _ | with_reducible assumption | with_reducible refine below_drewN ?_ _ | with_reducible refine Below.drew ?_ | with_reducible refine below_alloc0 ?_ | with_reducible refine below_alloc ?_ (by simp; try omega) | with_reducible refine below_set ?_ (by simp; try omega) | with_reducible refine below_chain ?_ (by assumption) | (with_reducible refine below_step ?_ (by assumption) (by simp; try omega))))⟩
  have h1 := hb.1
  simp at h1
  refine ⟨⟨by omega, by simpa using hb.2⟩, ?_⟩
  iterate 6 rw [heap_setCell_other _ _ _ _ (by simp; omega)]

set_option maxRecDepth 100000 in
set_option maxHeartbeats 2000000 in
theorem names_put (name : ByteArray) (y : Exp) (Y : Option Addr) (D : Nat) (N : Nat) : ∀ (x : Exp) (A : Option Addr) (c : Nat) (w : World), x.nodes ≤ N →
    XRep w (old w) [.int .i64 x.op, .int .i64 x.v.k, .int .i64 x.v.n, .string x.v.s, .string x.name, .slice A x.args.length c] x → XRep w (old w) [.int .i64 y.op, .int .i64 y.v.k, .int .i64 y.v.n, .string y.v.s, .string y.name, .slice Y y.args.length D] y →
    Calls Try.prog 78 #[.agg #[.int .i64 x.op, .int .i64 x.v.k, .int .i64 x.v.n, .string x.v.s, .string x.name, .slice A x.args.length c], .string name, .agg #[.int .i64 y.op, .int .i64 y.v.k, .int .i64 y.v.n, .string y.v.s, .string y.name, .slice Y y.args.length D]] w (RetExp w (putX name y x)) := by
  induction N with
  | zero =>
    intro x A c w hN
    obtain ⟨op, v, nm, args⟩ := x
    simp [Exp.nodes] at hN
  | succ N ih =>
    intro x A c w hN hx hy
    rcases hitRef_cases name x.op x.name with ⟨z1, z2, z3⟩ | hmiss
    · rw [putX_hit z3]
      exact names_put_hit name x y A Y c D w z1 z2 hy
    have HI := Lib.hid ih
    have HY := Lib.hid hy
    clear ih hy
    obtain ⟨A0, c0, e0, i1, i2, i3, i4, i5, hsl⟩ := hx.open_
    simp only [List.cons.injEq, Value.slice.injEq, and_true, true_and] at e0
    obtain ⟨rfl, rfl⟩ := e0
    have hch : ∀ (i : Nat) (a : Exp), x.args[i]? = some a → a.nodes ≤ N := by
      obtain ⟨op, v, nm, args⟩ := x
      intro i a h
      have := nodes_at args i a h
      simp only [Exp.nodes] at hN
      omega
    have z3 : hitRef name x.op x.name = false := by rcases hmiss with h | h; exact h.2; exact h.2.2
    rw [putX_miss z3]
    obtain ⟨l, hl0⟩ : ∃ l, x.args.map (putX name y) = l := ⟨_, rfl⟩
    have hll : l.length = x.args.length := by rw [← hl0]; simp
    have hlg : ∀ i a, x.args[i]? = some a → l[i]? = some (putX name y a) := fun i a h => by rw [← hl0, List.getElem?_map, h]; rfl
    rw [hl0]
    have HH := Lib.hid (And.intro hsl (And.intro hch (And.intro i1 (And.intro i2 (And.intro i3 (And.intro i4 (And.intro hll hlg)))))))
    have hlen : x.args.length ≤ 1759218604416 := by unfold inB at i4; omega
    clear hsl hch hx hN i1 i2 i3 i4 i5 hll hlg hl0 z3
    obtain ⟨j0, hj0, iz0, iz1, iz2⟩ := info_parts Try.infoExp
    obtain ⟨x', hx'⟩ : ∃ x' : Exp, Exp.mk x.op x.v x.name l = x' := ⟨_, rfl⟩
    have e0 : x'.op = x.op := by rw [← hx']; rfl
    have e1 : x'.v = x.v := by rw [← hx']; rfl
    have e2 : x'.name = x.name := by rw [← hx']; rfl
    have e3 : x'.args = l := by rw [← hx']; rfl
    have HE := Lib.hid (And.intro e0 (And.intro e1 (And.intro e2 (And.intro e3 hx'))))
    rw [hx']
    clear e0 e1 e2 e3 hx'
    rcases hmiss with ⟨z1, z3⟩ | ⟨z1, z2, z3⟩
    all_goals
    go_enter Try.func78, Try.ntmps78
    go_wp2_with fail
    go_loopw [26] (fun i wr => ∃ k : Nat, k ≤ x.args.length ∧ i = .int .i64 k ∧ CopyRel w (w.heap.size + 1 + 1 + 1) (w.heap.size + 4) (.mk x.op x.v x.name l) k wr ∧ (wr.cell? ⟨w.heap.size + 1, 0, none⟩ = some (.int .i64 y.op) ∧ wr.cell? ⟨w.heap.size + 1, 1, none⟩ = some (.int .i64 y.v.k) ∧ wr.cell? ⟨w.heap.size + 1, 2, none⟩ = some (.int .i64 y.v.n) ∧ wr.cell? ⟨w.heap.size + 1, 3, none⟩ = some (.string y.v.s) ∧ wr.cell? ⟨w.heap.size + 1, 4, none⟩ = some (.string y.name) ∧ wr.cell? ⟨w.heap.size + 1, 5, none⟩ = some (.slice Y y.args.length D)) ∧ (∀ j, wr.frozen? ⟨w.heap.size + 1 + 1, j, none⟩ = false) ∧ (∀ j, j < 6 → ∃ u, wr.cell? ⟨w.heap.size + 1 + 1, j, none⟩ = some u)) (fun i _ => x.args.length - (intOf i).toNat)
    case atStart =>
      refine ⟨0, by omega, rfl, ⟨none, 0, by go_simp; rfl, by go_simp; rfl, by go_simp; rfl, by go_simp; rfl, by go_simp; rfl, by go_simp, by go_simp, ?_, ?_, ?_⟩, ⟨by go_simp, by go_simp, by go_simp, by go_simp, by go_simp, by go_simp⟩, fun j => ?_, fun j hj => ?_⟩
      · exact Own.nil
      · exact (by repeat (first | with_reducible exact Below.refl _ _ | with_reducible assumption | with_reducible refine below_drewN ?_ _ | with_reducible refine Below.drew ?_ | with_reducible refine below_alloc0 ?_ | with_reducible refine below_alloc ?_ (by simp; try omega) | with_reducible refine below_set ?_ (by simp; try omega) | with_reducible refine below_chain ?_ (by assumption) | (with_reducible refine below_step ?_ (by assumption) (by simp; try omega))))
      · simp
      · go_simp
      · go_simp
    case round =>
      obtain ⟨k, hk, rfl, ⟨A', c', q0, q1, q2, q3, q4, q5, qf, hown, hbr, hbase⟩, ⟨ry0, ry1, ry2, ry3, ry4, ry5⟩, rf, rc⟩ := hrel
      have ho : w.heap.size + 1 + 1 + 1 < wr.heap.size := by omega
      have ho1 : w.heap.size + 1 < wr.heap.size := by omega
      by_cases hlt : k < x.args.length
      · obtain ⟨b, o, a, X, C, hAe, hbl, hl, hxa, x0, x1, x2, x3, x4, x5⟩ := Exp_at (HH.out.1.nowN keeps_Exp hbr) hlt
        subst hAe
        have hbl' : b < wr.heap.size := hbl
        obtain ⟨a', ha'⟩ : ∃ a', putX name y a = a' := ⟨_, rfl⟩
        have hla : l[k]? = some a' := by rw [← ha']; exact HH.out.2.2.2.2.2.2.2 k a hl
        have hia := fun w h h' => HI.out a X C w (HH.out.2.1 k a hl) h h'
        rw [ha'] at hia
        have hlk : (l.take k).length = k := by rw [List.length_take, HH.out.2.2.2.2.2.2.1]; omega
        have HO := Lib.hid (And.intro hown (And.intro hxa (And.intro hla (And.intro rf (And.intro rc hlk)))))
        clear hown hxa hbl hl rf rc ha' hla hlk
        go_wp2_with fail
        refine wp_world ?_; intro W0 hW0
        have hS0 : ((W0.drew.cell? ⟨wr.heap.size, 0, none⟩ = some (.int .i64 a.op) ∧ W0.drew.cell? ⟨wr.heap.size, 1, none⟩ = some (.int .i64 a.v.k) ∧ W0.drew.cell? ⟨wr.heap.size, 2, none⟩ = some (.int .i64 a.v.n) ∧ W0.drew.cell? ⟨wr.heap.size, 3, none⟩ = some (.string a.v.s) ∧ W0.drew.cell? ⟨wr.heap.size, 4, none⟩ = some (.string a.name) ∧ W0.drew.cell? ⟨wr.heap.size, 5, none⟩ = some (.slice X a.args.length C)) ∧ (W0.drew.cell? ⟨w.heap.size + 1, 0, none⟩ = some (.int .i64 y.op) ∧ W0.drew.cell? ⟨w.heap.size + 1, 1, none⟩ = some (.int .i64 y.v.k) ∧ W0.drew.cell? ⟨w.heap.size + 1, 2, none⟩ = some (.int .i64 y.v.n) ∧ W0.drew.cell? ⟨w.heap.size + 1, 3, none⟩ = some (.string y.v.s) ∧ W0.drew.cell? ⟨w.heap.size + 1, 4, none⟩ = some (.string y.name) ∧ W0.drew.cell? ⟨w.heap.size + 1, 5, none⟩ = some (.slice Y y.args.length D))) ∧ W0.drew.cell? ⟨w.heap.size + 1 + 1 + 1, 5, none⟩ = some (.slice A' k c') := by rw [hW0]; exact ⟨⟨⟨by go_simp, by go_simp, by go_simp, by go_simp, by go_simp, by go_simp⟩, ⟨by go_simp, by go_simp, by go_simp, by go_simp, by go_simp, by go_simp⟩⟩, by go_simp⟩
        have hB0 : Below wr.heap.size wr W0.drew := by rw [hW0]; exact (by repeat (first | with_reducible exact Below.refl _ _ | with_reducible assumption | with_reducible refine below_drewN ?_ _ | with_reducible refine Below.drew ?_ | with_reducible refine below_alloc0 ?_ | with_reducible refine below_alloc ?_ (by simp; try omega) | with_reducible refine below_set ?_ (by simp; try omega) | with_reducible refine below_chain ?_ (by assumption) | (with_reducible refine below_step ?_ (by assumption) (by simp; try omega))))
        have hZ0 : W0.heap.size = wr.heap.size + 1 := by rw [hW0]; simp
        have hBw : Below w.heap.size w W0.drew := below_step hbr hB0 (by omega)
        clear hW0
        refine wp_region_T (fun w' => ((w'.cell? ⟨wr.heap.size, 0, none⟩ = some (.int .i64 a.op) ∧ w'.cell? ⟨wr.heap.size, 1, none⟩ = some (.int .i64 a.v.k) ∧ w'.cell? ⟨wr.heap.size, 2, none⟩ = some (.int .i64 a.v.n) ∧ w'.cell? ⟨wr.heap.size, 3, none⟩ = some (.string a.v.s) ∧ w'.cell? ⟨wr.heap.size, 4, none⟩ = some (.string a.name) ∧ w'.cell? ⟨wr.heap.size, 5, none⟩ = some (.slice X a.args.length C)) ∧ (w'.cell? ⟨w.heap.size + 1, 0, none⟩ = some (.int .i64 y.op) ∧ w'.cell? ⟨w.heap.size + 1, 1, none⟩ = some (.int .i64 y.v.k) ∧ w'.cell? ⟨w.heap.size + 1, 2, none⟩ = some (.int .i64 y.v.n) ∧ w'.cell? ⟨w.heap.size + 1, 3, none⟩ = some (.string y.v.s) ∧ w'.cell? ⟨w.heap.size + 1, 4, none⟩ = some (.string y.name) ∧ w'.cell? ⟨w.heap.size + 1, 5, none⟩ = some (.slice Y y.args.length D))) ∧ w'.cell? ⟨w.heap.size + 1 + 1 + 1, 5, none⟩ = some (.slice A' k c')) 9 (by kernel_rfl) ?_
        refine wpAnyT_take (i := 0) (oi := _) (v := ?_) rfl (by kernel_rfl) (fun _ _ _ h => h) hS0 (by rfl) ?_ ?_
        rotate_left
        · intro w' hS'; (try dsimp only at hS'); (try go_split_ands); go_simp; try with_reducible rfl
        simp only [Act.put, List.setIfInBounds_toArray, List.set_cons_zero, List.set_cons_succ]
        refine wpAnyT_take (i := 1) (oi := _) (v := ?_) rfl (by kernel_rfl) (fun _ _ _ h => h) hS0 (by rfl) ?_ ?_
        rotate_left
        · intro w' hS'; (try dsimp only at hS'); (try go_split_ands); go_simp; try with_reducible rfl
        simp only [Act.put, List.setIfInBounds_toArray, List.set_cons_zero, List.set_cons_succ]
        refine wpAnyT_take (i := 2) (oi := _) (v := ?_) rfl (by kernel_rfl) (fun _ _ _ h => h) hS0 (by rfl) ?_ ?_
        rotate_left
        · intro w' hS'; (try dsimp only at hS'); (try go_split_ands); go_simp; try with_reducible rfl
        simp only [Act.put, List.setIfInBounds_toArray, List.set_cons_zero, List.set_cons_succ]
        refine wpAnyT_take (i := 3) (oi := _) (v := ?_) rfl (by kernel_rfl) (fun _ _ _ h => h) hS0 (by rfl) ?_ ?_
        rotate_left
        · intro w' hS'; (try dsimp only at hS'); (try go_split_ands); go_simp; try with_reducible rfl
        simp only [Act.put, List.setIfInBounds_toArray, List.set_cons_zero, List.set_cons_succ]
        refine wpAnyT_take (i := 4) (oi := _) (v := ?_) rfl (by kernel_rfl) (fun _ _ _ h => h) hS0 (by rfl) ?_ ?_
        rotate_left
        · intro w' hS'; (try dsimp only at hS'); (try go_split_ands); go_simp; try with_reducible rfl
        simp only [Act.put, List.setIfInBounds_toArray, List.set_cons_zero, List.set_cons_succ]
        refine wpAnyT_one (i := 5) (o := _) rfl (by kernel_rfl) (fun K hK => ?_)
        go_simp
        go_at_call 78; refine (hia _ (HO.out.2.1.keep (old_keep hB0)) (HY.out.keep (old_keep hBw))).mono ?_; rintro e w3 ⟨A2, c2, rfl, hx3', hb3⟩
        have hz3 := hb3.size
        have hx3 := hx3'.keep (S' := since (wr.heap.size + 1) w3) (fun b hb => ⟨⟨by have h1 := hb.1; simp [heap_drew] at h1; omega, hb.2⟩, rfl⟩)
        have hS3 := And.intro (And.intro (rows6c hS0.1.1 hb3) (rows6c hS0.1.2 hb3)) (cell_keep hS0.2 hb3)
        have hw3 : Below wr.heap.size wr w3 := below_step hB0 hb3 (by simp [heap_drew]; omega)
        have hzz3 : wr.heap.size + 1 ≤ w3.heap.size := by simp [heap_drew] at hz3; omega
        clear hx3'
        refine hK.out _ _ (fun _ => hS3) ?_
        clear hK K
        try simp only [Act.put, List.setIfInBounds_toArray, List.set_cons_zero, List.set_cons_succ]
        refine wpAnyT_one (i := 6) (o := _) rfl (by kernel_rfl) (fun K hK => ?_)
        go_simp
        have hS4 := And.intro (And.intro (rows6c hS3.1.1 ((Below.refl _ _).alloc (Nat.le_refl _) (.cells #[.int .i64 a'.op, .int .i64 a'.v.k, .int .i64 a'.v.n, .string a'.v.s, .string a'.name, .slice A2 a'.args.length c2] 38))) (rows6c hS3.1.2 ((Below.refl _ _).alloc (Nat.le_refl _) (.cells #[.int .i64 a'.op, .int .i64 a'.v.k, .int .i64 a'.v.n, .string a'.v.s, .string a'.name, .slice A2 a'.args.length c2] 38)))) (cell_keep hS3.2 ((Below.refl _ _).alloc (Nat.le_refl _) (.cells #[.int .i64 a'.op, .int .i64 a'.v.k, .int .i64 a'.v.n, .string a'.v.s, .string a'.name, .slice A2 a'.args.length c2] 38)))
        refine hK.out _ _ (fun _ => hS4) ?_
        clear hK K
        refine wpAnyT_one (i := 7) (o := _) rfl (by kernel_rfl) (fun K hK => ?_)
        refine step_append_Own keeps_Exp rfl (.tmp 31) (.tmp 36) 36 rfl (w.heap.size + 4) 38 j0 _ 6 80 Try.underlying36 hj0 iz0 iz1 iz2 rfl (by decide) (.slice A' k c') (l.take k) rfl (HO.out.1.keep keeps_Exp hw3) [.int .i64 a'.op, .int .i64 a'.v.k, .int .i64 a'.v.n, .string a'.v.s, .string a'.name, .slice A2 a'.args.length c2] 38 rfl _ rfl rfl rfl (by simp [Value.oneCell']) (by rw [HO.out.2.2.2.2.2]; omega) (by rw [HO.out.2.2.2.2.2]; unfold maxLen; omega) (by omega) a' (hx3.keep fun b hb => ⟨⟨by have := hb.1; omega, hb.2, fun e => by have h1 := (HO.out.1.lt b e.symm).2; have h2 := hb.1; omega⟩, rfl⟩) ?_
        intro g' cap w5 hown5 hb5 hz5 hk5 _
        rw [HO.out.2.2.2.2.2] at hown5 ⊢
        have hke1 := hk5 wr.heap.size (by omega) (fun e => by have := (HO.out.1.lt _ e.symm).2; omega)
        have hke2 := hk5 (w.heap.size + 1) (by omega) (fun e => by have := (HO.out.1.lt _ e.symm).1; omega)
        have hke3 := hk5 (w.heap.size + 1 + 1) (by omega) (fun e => by have := (HO.out.1.lt _ e.symm).1; omega)
        have hke4 := hk5 (w.heap.size + 1 + 1 + 1) (by omega) (fun e => by have := (HO.out.1.lt _ e.symm).1; omega)
        have hS5 := And.intro (And.intro (rows6b hS3.1.1 hke1) (rows6b hS3.1.2 hke2)) ((World.cell?_of_block (a := ⟨w.heap.size + 1 + 1 + 1, 5, none⟩) hke4).trans hS3.2)
        refine hK.out _ _ (fun _ => hS5) ?_
        clear hK K
        try simp only [Act.put, List.setIfInBounds_toArray, List.set_cons_zero, List.set_cons_succ]
        refine wpAnyT_take (i := 8) (oi := _) (v := ?_) rfl (by kernel_rfl) (fun _ _ _ h => h) hS5 (by rfl) ?_ ?_
        rotate_left
        · intro w' hS'; (try dsimp only at hS'); (try go_split_ands); go_simp; try with_reducible rfl
        simp only [Act.put, List.setIfInBounds_toArray, List.set_cons_zero, List.set_cons_succ]
        refine wpAnyT_one (i := 9) (o := _) rfl (by kernel_rfl) (fun K hK => ?_)
        have hc5 : ∀ j, w5.cell? ⟨w.heap.size + 1 + 1 + 1, j, none⟩ = wr.cell? ⟨w.heap.size + 1 + 1 + 1, j, none⟩ := fun j => (World.cell?_of_block (w := w3) (a := ⟨w.heap.size + 1 + 1 + 1, j, none⟩) hke4).trans (hw3.cell (p := ⟨w.heap.size + 1 + 1 + 1, j, none⟩) ho)
        have r0 := (hc5 0).trans q0
        have r1 := (hc5 1).trans q1
        have r2 := (hc5 2).trans q2
        have r3 := (hc5 3).trans q3
        have r4 := (hc5 4).trans q4
        have r5 := hS5.2
        have rz := (World.frozen?_of_block (w := w3) (a := ⟨w.heap.size + 1 + 1 + 1, 5, none⟩) hke4).trans ((hw3.frozen (p := ⟨w.heap.size + 1 + 1 + 1, 5, none⟩) ho).trans qf)
        have HS := Lib.hid hS5.1.2
        clear hS0 hS3 hS4 hS5 hc5
        go_simp
        refine hK.out _ _ (fun h => absurd h (by decide)) ?_
        clear hK K
        refine wpAnyT_done (by kernel_rfl) ?_ _
        try simp only [Act.put, List.setIfInBounds_toArray, List.set_cons_zero, List.set_cons_succ]
        go_wp2_with fail
        go_roundw
        case rel =>
          have ho2 : w.heap.size + 1 + 1 < wr.heap.size := by omega
          have hd3 : ∀ j, w5.cell? ⟨w.heap.size + 1 + 1, j, none⟩ = wr.cell? ⟨w.heap.size + 1 + 1, j, none⟩ := fun j => (World.cell?_of_block (w := w3) (a := ⟨w.heap.size + 1 + 1, j, none⟩) hke3).trans (hw3.cell (p := ⟨w.heap.size + 1 + 1, j, none⟩) ho2)
          have he3 : ∀ j, w5.frozen? ⟨w.heap.size + 1 + 1, j, none⟩ = wr.frozen? ⟨w.heap.size + 1 + 1, j, none⟩ := fun j => (World.frozen?_of_block (w := w3) (a := ⟨w.heap.size + 1 + 1, j, none⟩) hke3).trans (hw3.frozen (p := ⟨w.heap.size + 1 + 1, j, none⟩) ho2)
          have etk : l.take k ++ [a'] = l.take (k + 1) := by rw [List.take_add_one, HO.out.2.2.1]; rfl
          rw [etk] at hown5
          refine ⟨k + 1, by omega, by go_num, ⟨some ⟨g', 0, none⟩, cap, by go_simp, by go_simp, by go_simp, by go_simp, by go_simp, (by first | (go_simp; done) | (go_simp; exact World.cell?_setCell_same' _ _ _ (by go_simp))), by go_simp, hown5.set keeps_Exp _ _ (by simp), ?_, by simp; omega⟩, ?_, fun j => ?_, fun j hj => ?_⟩
          · exact below_set (below_step (below_step hbr hw3 (by omega)) hb5 (by omega)) (by simp; omega)
          · exact rows6b HS.out (heap_setCell_other _ _ _ _ (by simp))
          · rw [World.frozen?_setCell, he3]; exact HO.out.2.2.2.1 j
          · obtain ⟨u, hu⟩ := HO.out.2.2.2.2.1 j hj
            refine ⟨u, ?_⟩
            first
              | (go_simp; done)
              | (go_simp; exact (hd3 j).trans hu)
        case measure => simp [intOf]; omega
      · have hke : k = x.args.length := by omega
        subst hke
        have etk : l.take x.args.length = l := List.take_of_length_le (by rw [HH.out.2.2.2.2.2.2.1]; exact Nat.le_refl _)
        have hown' : Own wr (w.heap.size + 4) 38 6 XRep (.slice A' x.args.length c') l := by rw [← etk]; exact hown
        obtain ⟨A9, c9, e9, hc9, hs9⟩ := hown'.sl keeps_Exp
        have e9' : A' = A9 ∧ c' = c9 := by rw [HH.out.2.2.2.2.2.2.1] at e9; cases e9; exact ⟨rfl, rfl⟩
        obtain ⟨rfl, rfl⟩ := e9'
        have HS := Lib.hid (And.intro hs9 (And.intro rf (And.intro rc hc9)))
        obtain ⟨u0, y0⟩ := rc 0 (by decide)
        obtain ⟨u1, y1⟩ := rc 1 (by decide)
        obtain ⟨u2, y2⟩ := rc 2 (by decide)
        obtain ⟨u3, y3⟩ := rc 3 (by decide)
        obtain ⟨u4, y4⟩ := rc 4 (by decide)
        obtain ⟨u5, y5⟩ := rc 5 (by decide)
        have f0 := rf 0
        have f1 := rf 1
        have f2 := rf 2
        have f3 := rf 3
        have f4 := rf 4
        have f5 := rf 5
        clear rf rc hown hown' hs9 etk e9 hc9
        replace q0 : wr.cell? ⟨w.heap.size + 1 + 1 + 1, 0, none⟩ = some (.int .i64 x.op) := q0
        replace q1 : wr.cell? ⟨w.heap.size + 1 + 1 + 1, 1, none⟩ = some (.int .i64 x.v.k) := q1
        replace q2 : wr.cell? ⟨w.heap.size + 1 + 1 + 1, 2, none⟩ = some (.int .i64 x.v.n) := q2
        replace q3 : wr.cell? ⟨w.heap.size + 1 + 1 + 1, 3, none⟩ = some (.string x.v.s) := q3
        replace q4 : wr.cell? ⟨w.heap.size + 1 + 1 + 1, 4, none⟩ = some (.string x.name) := q4
        go_wp2_with fail
        refine bodyPost_ret (v := .agg #[.int .i64 x.op, .int .i64 x.v.k, .int .i64 x.v.n, .string x.v.s, .string x.name, .slice A' x.args.length c']) (by first | (simp [results, Try.results78, go_sem, y0, y1, y2, y3, y4, y5]; done) | (simp [results, Try.results78, go_sem, *]; done)) rfl ?_
        have hR : ∀ W9 : World, (∀ b, since (w.heap.size + 4) wr b → fresh w W9 b ∧ W9.heap[b]? = wr.heap[b]?) → Below w.heap.size w W9 → RetExp w x' (.returned (.agg #[.int .i64 x.op, .int .i64 x.v.k, .int .i64 x.v.n, .string x.v.s, .string x.name, .slice A' x.args.length c'])) W9 := by
          intro W9 hW hB9
          have hrep := XRep.shut HH.out.2.2.1 HH.out.2.2.2.1 HH.out.2.2.2.2.1 (by rw [HH.out.2.2.2.2.2.2.1]; exact HH.out.2.2.2.2.2.1) HS.out.2.2.2 (HS.out.1.keepN keeps_Exp hW)
          rw [HH.out.2.2.2.2.2.2.1, HE.out.2.2.2.2] at hrep
          refine ⟨A', c', ?_, ?_, hB9⟩
          · rw [HE.out.1, HE.out.2.1, HE.out.2.2.1, HE.out.2.2.2.1, HH.out.2.2.2.2.2.2.1]
          · rw [HE.out.1, HE.out.2.1, HE.out.2.2.1, HE.out.2.2.2.1, HH.out.2.2.2.2.2.2.1]; exact hrep
        refine hR _ (fun b hb => ⟨⟨by have := hb.1; omega, by simpa using hb.2⟩, ?_⟩) (by repeat (first | with_reducible exact Below.refl _ _ | with_reducible assumption | with_reducible refine below_drewN ?_ _ | with_reducible refine Below.drew ?_ | with_reducible refine below_alloc0 ?_ | with_reducible refine below_alloc ?_ (by simp; try omega) | with_reducible refine below_set ?_ (by simp; try omega) | with_reducible refine below_chain ?_ (by assumption) | (with_reducible refine below_step ?_ (by assumption) (by simp; try omega))))
        have hb1 := hb.1
        iterate 6 rw [heap_setCell_other _ _ _ _ (by simp; omega)]
end Go.Proofs.Ytekeacihdmbbjaa
