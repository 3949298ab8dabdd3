/- names.Of: each name once, rising. -/
import Derived.Test.YtgmcojnhpedpnaaGreatNam2
import Derived.Test.YtgmcojnhpedpnaaGreatNIt
import Derived.Test.YtgmcojnhpedpnaaGreatPrt3
namespace Go.Proofs.YtgmcojnhpedpnaaGreat
open Go.RowKit Go.Shelf Go.Maps Go.Sort

attribute [local go_sem] Oper.semAt_some

def namesR (x : Exp) : List ByteArray × Int := if exprErr x = 0 then (rise (askN x), 0) else ([], exprErr x)
mutual
theorem askN_nodes : ∀ x : Exp, (askN x).length ≤ x.nodes
  | .mk op v nm args => by
    have := askNL_nodes args
    simp only [askN, Exp.nodes, List.length_append]
    split <;> simp <;> omega
theorem askNL_nodes : ∀ l : List Exp, (askNL l).length ≤ nodesL l
  | [] => by simp [askNL]
  | a :: l => by
    have := askN_nodes a
    have := askNL_nodes l
    simp only [askNL, nodesL, List.length_append]
    omega
end
set_option maxRecDepth 100000 in
set_option maxHeartbeats 4000000 in
theorem names_Of (x : Exp) (A : Option Addr) (c : Nat) (w : World) (hN : x.nodes ≤ 1048576)
    (hx : XRep w (old w) [.int .i64 x.op, .int .i64 x.v.k, .int .i64 x.v.n, .string x.v.s, .string x.name, .slice A x.args.length c] x) :
    Calls Tryz.prog 66 #[.agg #[.int .i64 x.op, .int .i64 x.v.k, .int .i64 x.v.n, .string x.v.s, .string x.name, .slice A x.args.length c]] w (OwnRowC strCs 9 1 w (namesR x).1 (namesR x).2) := by
  have hck := fun w h => expr_Check x A c w h
  have HX := Lib.hid hx
  by_cases he : exprErr x = 0
  · rw [he] at hck
    have hr : namesR x = (rise (askN x), 0) := by rw [namesR, if_pos he]
    rw [hr]
    have hal := askN_nodes x
    have hmm := @run_makeMap Tryz.prog
    clear hx he hr
    refine (callsIn_wide (n := 6)).1 ?_
    refine callsIn_of_wp_marks Tryz.func66 rfl trivial ?_ rfl
    simp only [Tryz.ntmps66, List.size_toArray, List.length_cons, List.length_nil, Nat.reduceAdd, Nat.reduceSub, Array.replicate_succ, Array.replicate_zero, List.push_toArray, List.append_toArray, List.nil_append, List.cons_append]
    gi_wp2_with (first
      | (refine ⟨trivial, ?_⟩; gi_at_call 27; refine (callsIn_wide.2 (hck _ (HX.out.keep (old_keep bel)))).mono ?_; rintro e w1 ⟨rfl, hb1⟩; have q0 : w1.cell? ⟨w.heap.size, 0, none⟩ = some (.int .i64 x.op) := (hb1.cell (p := ⟨w.heap.size, 0, none⟩) (by simp)).trans (by go_simp); have q1 : w1.cell? ⟨w.heap.size, 1, none⟩ = some (.int .i64 x.v.k) := (hb1.cell (p := ⟨w.heap.size, 1, none⟩) (by simp)).trans (by go_simp); have q2 : w1.cell? ⟨w.heap.size, 2, none⟩ = some (.int .i64 x.v.n) := (hb1.cell (p := ⟨w.heap.size, 2, none⟩) (by simp)).trans (by go_simp); have q3 : w1.cell? ⟨w.heap.size, 3, none⟩ = some (.string x.v.s) := (hb1.cell (p := ⟨w.heap.size, 3, none⟩) (by simp)).trans (by go_simp); have q4 : w1.cell? ⟨w.heap.size, 4, none⟩ = some (.string x.name) := (hb1.cell (p := ⟨w.heap.size, 4, none⟩) (by simp)).trans (by go_simp); have q5 : w1.cell? ⟨w.heap.size, 5, none⟩ = some (.slice A x.args.length c) := (hb1.cell (p := ⟨w.heap.size, 5, none⟩) (by simp)).trans (by go_simp); have hs1 : w.heap.size < w1.heap.size := by have := hb1.size; simp at this; omega)
      | (refine ⟨trivial, ?_⟩; gi_at_call 101; refine (refs_in _ _ trivial rfl _ rfl _).mono ?_; rintro e w' ⟨rfl, rfl⟩))
    have hmp0 := MapIs.made w1 Tryz.prog 9
    have bX := World.alloc_heap_new ((w1.alloc (.map #[] 0)).alloc (.cells #[.map (some w1.heap.size)] 119)) (.cells #[.int .i64 x.op, .int .i64 x.v.k, .int .i64 x.v.n, .string x.v.s, .string x.name, .slice A x.args.length c] 26)
    have bM := (Boxed.new (w1.alloc (.map #[] 0)) 119 (.map (some w1.heap.size))).alloc (.cells #[.int .i64 x.op, .int .i64 x.v.k, .int .i64 x.v.n, .string x.v.s, .string x.name, .slice A x.args.length c] 26)
    simp only [World.size_alloc] at bX bM
    have hm1 := (hmp0.kept (World.grownBy_alloc _ (.cells #[.map (some w1.heap.size)] 119) none) (by simp)).kept (World.grownBy_alloc _ (.cells #[.int .i64 x.op, .int .i64 x.v.k, .int .i64 x.v.n, .string x.v.s, .string x.name, .slice A x.args.length c] 26) none) (by simp)
    have hbw : Below w.heap.size w w1 := alloc_below (by simpa using hb1)
    have hB0 : Below w.heap.size w (((w1.alloc (.map #[] 0)).alloc (.cells #[.map (some w1.heap.size)] 119)).alloc (.cells #[.int .i64 x.op, .int .i64 x.v.k, .int .i64 x.v.n, .string x.v.s, .string x.name, .slice A x.args.length c] 26)) := ((hbw.alloc (by omega) _).alloc (by simp; omega) _).alloc (by simp; omega) _
    have hsz : (((w1.alloc (.map #[] 0)).alloc (.cells #[.map (some w1.heap.size)] 119)).alloc (.cells #[.int .i64 x.op, .int .i64 x.v.k, .int .i64 x.v.n, .string x.v.s, .string x.name, .slice A x.args.length c] 26)).heap.size = w1.heap.size + 3 := by simp
    obtain ⟨W0, hW0⟩ : ∃ W0, (((w1.alloc (.map #[] 0)).alloc (.cells #[.map (some w1.heap.size)] 119)).alloc (.cells #[.int .i64 x.op, .int .i64 x.v.k, .int .i64 x.v.n, .string x.v.s, .string x.name, .slice A x.args.length c] 26)) = W0 := ⟨_, rfl⟩
    rw [hW0] at bX bM hm1 hB0 hsz ⊢
    clear hW0 hmp0
    have hx0 : XRep W0 (fun b => b < w.heap.size) [.int .i64 x.op, .int .i64 x.v.k, .int .i64 x.v.n, .string x.v.s, .string x.name, .slice A x.args.length c] x := XRep.keep HX.out (fun b hb => ⟨hb, hB0.block b hb⟩)
    refine wpIn_rangeFunc_ownH rfl (by omega) (gf := 137) (lb := #[.pointer (some ⟨w1.heap.size + 1 + 1, 0, none⟩)]) rfl trivial (enters_of Tryz.func137 (by kernel_rfl) rfl)
      (refs_stops _ rfl _ trivial trivial rfl (w1.heap.size + 1 + 1) w.heap.size w1.heap.size x A c W0 (by omega) (by omega) bX hx0) Kr.trans (fun W l o o' hl ho hc _ => Kr.put W l o o' (by omega) ho hc) (Below.refl _ _) (fun _ => rfl)
      (fun pre W => (Boxed W (w1.heap.size + 1) 119 (.map (some w1.heap.size)) ∧ MapIs W Tryz.prog 9 w1.heap.size pre.length (nameSet (nmsOf pre))) ∧ Below w.heap.size w W)
      (fun _ _ _ => False)
      (OwnFrom.and (OwnFrom.and (Own.from (boxed_own _ _ _) _) (fun s X Y row hs hg hr => hs.kept hg (fun e => by have := (hr _ e.symm).1; omega))) (ownFrom_below (Nat.le_refl _) (by omega)))
      (fun _ _ _ _ _ hs _ _ => hs)
      ⟨⟨bM, hm1⟩, hB0⟩
      (fun s a' W => a' = { tmps := #[.agg #[.int .i64 x.op, .int .i64 x.v.k, .int .i64 x.v.n, .string x.v.s, .string x.name, .slice A x.args.length c], .pointer (some ⟨w.heap.size, 0, none⟩), .slice none 0 0, .int .i64 0, .int .i64 0, .pointer (some ⟨w1.heap.size + 1, 0, none⟩), .string s.1, .agg #[.int .i64 x.op, .int .i64 x.v.k, .int .i64 x.v.n, .string x.v.s, .string x.name, .slice A x.args.length c], .int .i64 0, .int .i64 0, .bool false, undef, .map (some w1.heap.size), .agg #[.int .i64 x.op, .int .i64 x.v.k, .int .i64 x.v.n, .string x.v.s, .string x.name, .slice A x.args.length c], .func (.func 137) #[] #[.pointer (some ⟨w1.heap.size + 1 + 1, 0, none⟩)], .string s.1, undef, undef, undef, undef, undef], defers := [] })
      (fun s a' => ownFrom_pure _ _)
      ?assign ?body ?done ?stop
    case assign =>
      rintro l pre s W K hI hK
      gi_wp2
      exact hK _ _ (KeepsFrom.refl _ _) (Kr.refl _ _ _) hI rfl
    case body =>
      rintro l pre s a' W hl ⟨r, hr⟩ ⟨⟨bM1, hm2⟩, hB1⟩ rfl hlt
      have cM := bM1.cell
      have hks := Tryz.keyStr s.1 s.2
      have lM := bM1.lt
      clear hr
      gi_wp2_with (gi_at_mapUpdate; refine wpListIn_mapUpdate_Is _ rfl _ _ _ 119 rfl 9 4 (Maps.string_keyed Tryz.underlying9) Tryz.underlying119 w1.heap.size pre.length _ rfl hm2 (by unfold maxLen; omega) _ _ _ rfl rfl hks ?_; intro w2 hm3 hgrow1)
      refine ⟨KeepsFrom.of_grownBy hgrow1 (fun j e => by cases e; omega), ⟨hgrow1.size, fun k hk => hgrow1.block k (by omega) (fun e => by cases e; omega), fun k o hk ho _ => (hgrow1.block k (Array.getElem?_eq_some_iff.1 ho).1 (fun e => by cases e; exact hk rfl)).trans ho⟩, ⟨⟨bM1.kept hgrow1 (by simp), ?_⟩, hB1.grown hgrow1 hB1.size (fun k e => by cases e; omega)⟩⟩
      rw [List.length_append, nmsOf_snoc]
      exact (nameSet_snoc _ _) ▸ hm3
    case done =>
      rintro D ys W hD hys ⟨⟨bM1, hm2⟩, hB1⟩ hK
      have cM := bM1.cell
      obtain ⟨D0, ho, hh, _⟩ := hm2
      have hle := ho.size_le
      have hyl : ys.length = (askN x).length := by rw [← nmsOf_len, hys]
      have hsr := fun ss hp => sorted_rise (nmsOf ys) D0 9 ho Tryz.underlying9 hh ss hp
      have HO := Lib.hid (And.intro ho (And.intro hh (And.intro hB1 (And.intro hK hsr))))
      have lD : D < W.heap.size := (Array.getElem?_eq_some_iff.1 hK).1
      clear ho hh hB1 hK hsr
      gi_wp2_with (first
        | (refine ⟨trivial, ?_⟩; gi_at_call 103; refine (maps_Keys_at _ _).mono ?_; rintro e w' ⟨rfl, rfl⟩)
        | (refine ⟨trivial, ?_⟩; gi_at_call 102; refine (slices_Sorted_at w1.heap.size _ D0 rdV W HO.out.1 (by unfold maxLen; omega) (by omega)).mono ?_; rintro e w2 ⟨v, ss, rfl, hS, hrow, hnil, hb2⟩))
      have hK2 : w2.heap[D]? = some (.deferred (some [])) := (hb2.block D (by simp; omega)).trans ((Below.heap_alloc W _ D lD).trans HO.out.2.2.2.1)
      have hsr := HO.out.2.2.2.2 ss hS
      rw [hys] at hsr
      rw [hsr.1, hsr.2] at hrow
      have hb3 : Below w.heap.size w w2 := below_chain HO.out.2.2.1 (((Below.refl W.heap.size W).alloc (Nat.le_refl _) _).trans (hb2.mono (by simp)))
      have hsz2 := HO.out.2.2.1.size
      refine ⟨by simp, .inl ⟨_, _, rfl, run_takeDeferred hK2, ?_⟩⟩
      refine ⟨.tuple #[v, .int .i64 0], by simp [results, Tryz.results66, go_sem], v, rfl, ?_, ?_⟩
      · exact ownsRow_base_a (hrow.kept (grownBy_putObj' w2 D _) (.inr fun e => by have := (hrow.lt D e).1; simp at this; omega)) (by simp; omega)
      · exact hb3.trans (belowK_b (w := w) (Nat.le_refl _) w2 D _ _ (by omega) hK2 rfl rfl)
    case stop =>
      rintro D cd pre W _ _ h _
      exact h.elim
  · have hr : namesR x = ([], exprErr x) := by rw [namesR, if_neg he]
    rw [hr]
    generalize exprErr x = er at he hck
    have hne : (er != 0) = true := by simpa using he
    clear hx he hr
    go_enter Tryz.func66, Tryz.ntmps66
    go_wp2_with (go_at_call 27; refine (hck _ (HX.out.keep (old_keep bel))).mono ?_; rintro e w1 ⟨rfl, hb1⟩; obtain ⟨hc1, hf1⟩ := bcell hb1; (try simp only [World.heap_drewN, World.cell?_drewN, World.frozen?_drewN] at hc1 hf1); have hz1 := hb1.size; (try simp at hz1); (try (have hy1 := Nat.lt_of_succ_le hz1)); (try (have hx1 := Nat.lt_of_succ_lt hy1)); (first | refine szz6 w1 w (by omega) ?_ | refine szz5 w1 w (by omega) ?_ | refine szz4 w1 w (by omega) ?_ | refine szz3 w1 w (by omega) ?_ | refine szz2 w1 w (by omega) ?_ | refine szz1 w1 w (by omega) ?_ | refine szz0 w1 w (by omega) ?_ | refine szzn w1 w (by omega) ?_ | skip); intros)
    go_ret2
    exact NilC.own _ _ _ ⟨rfl, bel⟩
end Go.Proofs.YtgmcojnhpedpnaaGreat
