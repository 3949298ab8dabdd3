/- The law RankOrders returns true for every input of bulk at most 1048576: rank.Order and rank.Hangs agree with the references. -/
import Derived.Test.YtbhkpepinogigaaGreatOpen
import Derived.Test.YtbhkpepinogigaaGreatOrd8
namespace Go.Proofs.YtbhkpepinogigaaGreat
open Go.ChangeShapes Go.WideShapes Go.ChangeAt Go.RowKit

mutual
theorem bulk_nodes : ∀ x : Exp, x.nodes ≤ x.bulk
  | .mk op v nm args => by
    have := bulks_nodes args
    simp only [Exp.bulk, Exp.nodes]
    omega
theorem bulks_nodes : ∀ l : List Exp, nodesL l ≤ Exp.bulk.bulks l
  | [] => by simp [nodesL]
  | a :: l => by
    have := bulk_nodes a
    have := bulks_nodes l
    simp only [Exp.bulk.bulks, nodesL]
    omega
end
theorem flds_nodes : ∀ l : List Fld, (l.map Fld.bulk).sum ≤ 1048576 → ∀ f ∈ l, f.source.nodes ≤ 1048576
  | [], _ => fun f hf => absurd hf List.not_mem_nil
  | a :: l, h => by
    simp only [List.map_cons, List.sum_cons] at h
    intro f hf
    rcases List.mem_cons.1 hf with rfl | hf
    · have := bulk_nodes f.source
      have e : f.bulk = f.name.size + f.source.bulk + 1 := rfl
      omega
    · exact flds_nodes l (by omega) f hf
theorem Sl_each {α : Type} {w : World} {S : Nat → Prop} {size : Nat} {R : List Value → α → Prop} {A : Option Addr} {n : Nat} {l : List α} (h : Sl w S size R A n l) : ∀ a ∈ l, ∃ cs, R cs a := by
  intro a ha
  obtain ⟨i, hi, rfl⟩ := List.mem_iff_getElem.1 ha
  have hn : 0 < n := by rw [← h.1]; omega
  obtain ⟨b, o, e, hs, hc⟩ := h.2 hn
  obtain ⟨cs, h1, _⟩ := hc i l[i] (List.getElem?_eq_getElem hi)
  exact ⟨cs, h1⟩
theorem flds_inS {w : World} {A : Option Addr} {n : Nat} {l : List Fld} (h : Sl w (old w) 9 (RFld w (old w)) A n l) : ∀ f ∈ l, inS f.name ∧ ∀ s ∈ askN f.source, inS s := by
  intro f hf
  obtain ⟨cs, hr⟩ := Sl_each h f hf
  exact ⟨hr.1, askN_inS hr.2.2.2.choose_spec.2⟩

def RetIC (w : World) (lo : List Int) (er : Int) (e : Ending) (w' : World) : Prop :=
  ∃ A c, e = .returned (.tuple #[.slice A lo.length c, .int .i64 er]) ∧ lo.length ≤ c ∧ Sl w' (fun b => w.heap.size ≤ b ∧ b < w'.heap.size) 1 RInt A lo.length lo ∧ Below w.heap.size w w'
theorem orderR_len (l : List Fld) : (orderR l).1.length ≤ 14 := by
  unfold orderR
  split
  · rename_i h
    have := (fieldsErr_all (rankR_zero h).1).1
    show (toI (ordF l)).length ≤ 14
    rw [List.length_map, ordF, ordK_len]
    exact this
  · simp
theorem hangsR_len (l : List Fld) (name : ByteArray) : (hangsR l name).1.length ≤ 14 := by
  unfold hangsR
  split
  · simp
  · rename_i h
    split
    · have h14 := (fieldsErr_all (rankR_zero (by simpa using h)).1).1
      have := List.length_filter_le (hangs (needL l) (fieldAt l name) l.length) (List.range l.length)
      rw [List.length_range] at this
      show (toI (hangsL _ _ _)).length ≤ 14
      rw [List.length_map]
      unfold hangsL
      omega
    · simp
set_option maxRecDepth 100000 in
set_option maxHeartbeats 4000000 in
theorem law_RankOrders (w : World) (A : Option Addr) (n c : Nat) (l : List Fld) (hn : inB 112 n) (hnc : n ≤ c) (h : Sl w (old w) 9 (RFld w (old w)) A n l) (name : ByteArray) (hnm : inS name) (hb : (l.map Fld.bulk).sum + 1 ≤ 1048576) (_ : name.size + 1 ≤ 1048576) :
    Calls Tryz.prog 3 #[.slice A n c, .string name] w fun e w' => e = .returned (.bool true) ∧ Below w.heap.size w w' := by
  have hN := flds_nodes l (by omega)
  have hst := flds_inS h
  have hl1 := orderR_len l
  have hl2 := hangsR_len l name
  obtain ⟨lo, er, hr1⟩ : ∃ lo er, orderR l = (lo, er) := ⟨_, _, rfl⟩
  obtain ⟨lh, eh, hr2⟩ : ∃ lo er, hangsR l name = (lo, er) := ⟨_, _, rfl⟩
  rw [hr1] at hl1
  rw [hr2] at hl2
  replace hl1 : lo.length ≤ 14 := hl1
  replace hl2 : lh.length ≤ 14 := hl2
  have h1 : ∀ w, Sl w (old w) 9 (RFld w (old w)) A n l → Calls Tryz.prog 14 #[.slice A n c] w (RetIC w lo er) := fun w h => (rank_Order l A n c w hn hnc h hN hst).mono (fun e w' q => by rw [hr1] at q; exact q)
  have h2 : ∀ w, Sl w (old w) 9 (RFld w (old w)) A n l → Calls Tryz.prog 15 #[.slice A n c, .string name] w (RetIC w lh eh) := fun w h => (rank_Hangs l A n c name w hn hnc h hN hst).mono (fun e w' q => by rw [hr2] at q; exact q)
  have h3 : ∀ w, Sl w (old w) 9 (RFld w (old w)) A n l → Calls Tryz.prog 16 #[.slice A n c] w (RetIC w lo er) := fun w h => (ref_FieldOrder l A n c w hn h hN hst).mono (fun e w' q => by rw [hr1] at q; exact q)
  have h4 : ∀ w, Sl w (old w) 9 (RFld w (old w)) A n l → Calls Tryz.prog 17 #[.slice A n c, .string name] w (RetIC w lh eh) := fun w h => (ref_FieldHangs l A n c name w hn h hnm hN hst).mono (fun e w' q => by rw [hr2] at q; exact q)
  have HX := Lib.hid h
  clear h hN hst hb hn hnc hr1 hr2 hnm
  go_enter Tryz.func3, Tryz.ntmps3
  go_wp2_with fail
  refine (h1 _ (HX.out.nowN keeps_Fld bel)).mono ?_; rintro e w1 ⟨B1, d1, rfl, q1, s1, hb1⟩; obtain ⟨hc1, hf1⟩ := bcell hb1; (try simp only [World.heap_drewN, World.cell?_drewN, World.frozen?_drewN] at hc1 hf1); have hz1 := hb1.size; (try simp at hz1); (try (have hy1 := Nat.lt_of_succ_le hz1)); (try (have hx1 := Nat.lt_of_succ_lt hy1)); refine szz w1 w ?_; intros
  have HS1 := Lib.hid s1
  clear s1
  go_wp2_with fail
  refine (h2 _ (HX.out.nowN keeps_Fld bel)).mono ?_; rintro e w2 ⟨B2, d2, rfl, q2, s2, hb2⟩; obtain ⟨hc2, hf2⟩ := bcell hb2; (try simp only [World.heap_drewN, World.cell?_drewN, World.frozen?_drewN] at hc2 hf2); have hz2 := hb2.size; (try simp at hz2); (try (have hy2 := Nat.lt_of_succ_le hz2)); (try (have hx2 := Nat.lt_of_succ_lt hy2)); refine szz w2 w ?_; intros; refine szz w2 w1 ?_; intros
  have HS2 := Lib.hid s2
  clear s2
  go_wp2_with fail
  refine (h3 _ (HX.out.nowN keeps_Fld bel)).mono ?_; rintro e w3 ⟨B3, d3, rfl, q3, s3, hb3⟩; obtain ⟨hc3, hf3⟩ := bcell hb3; (try simp only [World.heap_drewN, World.cell?_drewN, World.frozen?_drewN] at hc3 hf3); have hz3 := hb3.size; (try simp at hz3); (try (have hy3 := Nat.lt_of_succ_le hz3)); (try (have hx3 := Nat.lt_of_succ_lt hy3)); refine szz w3 w ?_; intros; refine szz w3 w1 ?_; intros; refine szz w3 w2 ?_; intros
  have HS3 := Lib.hid s3
  clear s3
  go_wp2_with fail
  refine (h4 _ (HX.out.nowN keeps_Fld bel)).mono ?_; rintro e w4 ⟨B4, d4, rfl, q4, s4, hb4⟩; obtain ⟨hc4, hf4⟩ := bcell hb4; (try simp only [World.heap_drewN, World.cell?_drewN, World.frozen?_drewN] at hc4 hf4); have hz4 := hb4.size; (try simp at hz4); (try (have hy4 := Nat.lt_of_succ_le hz4)); (try (have hx4 := Nat.lt_of_succ_lt hy4)); refine szz w4 w ?_; intros; refine szz w4 w1 ?_; intros; refine szz w4 w2 ?_; intros; refine szz w4 w3 ?_; intros
  have HS4 := Lib.hid s4
  clear s4
  go_wp2_with fail
  refine (same_Ints B1 B3 _ d1 _ d3 lo _ _ _ (by omega) (HS1.out.keep (w' := w4) (fun b hq => (bel : Below w1.heap.size w1 w4).block b hq.2) (fun _ _ h => h.1)) (HS3.out.keep (w' := w4) (fun b hq => (bel : Below w3.heap.size w3 w4).block b hq.2) (fun _ _ h => h.1))).mono ?_; rintro e w5 ⟨rfl, k5, rfl⟩
  go_wp2_with fail
  refine (same_Ints B2 B4 _ d2 _ d4 lh _ _ _ (by omega) (HS2.out.keep (w' := w4.drewN k5) (fun b hq => (bel : Below w2.heap.size w2 (w4.drewN k5)).block b hq.2) (fun _ _ h => h.1)) (HS4.out.keep (w' := w4.drewN k5) (fun b hq => rfl) (fun _ _ h => h.1))).mono ?_; rintro e w6 ⟨rfl, k6, rfl⟩
  go_wp2_with fail
  go_ret
  exact ⟨rfl, bel⟩
set_option maxRecDepth 100000 in
theorem RankOrdersUpto_lifted (os : Os) (started : os.Started) (H : Type) (enc : TypeId × Value → H) (FS : Stop.Interp) :
    ReturnsInHanded {} Tryz.checked os 3 .any ((Rows.OpenSpec.upto Rows.rankOrdersSpec).pre6 enc Tryz.checked.prog Tryz.f3 Rows.rankOrdersUptoRow.domain false) (((Rows.OpenSpec.upto Rows.rankOrdersSpec).at FS).post enc Tryz.checked.prog Tryz.f3 false true false false) := by
  refine law_lifted_upto (s := Rows.rankOrdersSpec) (FS := FS) started (by kernel_rfl) Tryz.func3 (by rw [Tryz.params3]; exact of_decide_eq_true (by kernel_rfl)) rfl rfl
    (fun ds hl => by rw [show Tryz.f3.params.size = 2 from rfl] at hl; match ds, hl with | [d0, d1], _ => rfl)
    (OpenSpec.witness (enc := enc) (C := Tryz.checked) (s := Rows.OpenSpec.upto Rows.rankOrdersSpec) (k := Rows.uptoSmall) rfl false ⟨#[], #[.slice none 0 0, .string ByteArray.empty], []⟩ 8 (by kernel_rfl) (by kernel_rfl) (by kernel_rfl) (x := ([.nil, .lit (.string [])], [], [])) (by kernel_rfl) rfl (by kernel_rfl)) ?_
  intro W b args ds p hA hval hsz hbulk
  rw [Tryz.params3] at hA hval hsz
  obtain ⟨v0, vs0, d0, ds0, p0, q0, hargs, rfl, rfl, h0, r0⟩ := trodAll_cons hA
  obtain ⟨v1, vs1, d1, ds1, p1, q1, rfl, rfl, rfl, h1, r1⟩ := trodAll_cons r0
  obtain ⟨rfl, rfl, rfl⟩ := trodAll_nil r1
  have hargs' : args = #[v0, v1] := by apply Array.toList_inj.1; simpa using hargs
  subst hargs'
  have w0 := weightsEach_at _ _ hsz 0 _ _ rfl rfl
  obtain ⟨A0, n0, c0, l0, rfl, i0, k0, s0, m0⟩ := arg_sl dec_Flds Tryz.underlying22 (hval 0 22 _ rfl rfl) h0 w0
  have w1 := weightsEach_at _ _ hsz 1 _ _ rfl rfl
  obtain ⟨a1, rfl, i1, m1⟩ := arg_str Tryz.underlying9 (hval 1 9 _ rfl rfl) h1 w1
  simp only [Rows.uptoBulkAll] at hbulk
  exact law_RankOrders W A0 n0 c0 l0 i0 k0 s0 a1 i1 (Nat.le_trans m0 (by omega)) (Nat.le_trans m1 (by omega))
theorem RankOrdersUpto_holds : Rows.RankOrdersUptoSaid :=
  OpenClaim.holds_of_cond 3 Tryz.f3 rfl rfl rfl rfl rfl rfl rfl ⟨rfl, rfl, rfl, rfl, rfl⟩ rfl rfl rfl rfl rfl (by kernel_rfl) Tryz.func3 (by kernel_rfl)
    (of_decide_eq_true (by kernel_rfl)) (by unfold Func.isWrapper; rw [if_neg (of_decide_eq_false (by kernel_rfl))]; exact ⟨rfl, rfl⟩)
    (fun os started H enc _ FS => RankOrdersUpto_lifted os started H enc FS)
end Go.Proofs.YtbhkpepinogigaaGreat
