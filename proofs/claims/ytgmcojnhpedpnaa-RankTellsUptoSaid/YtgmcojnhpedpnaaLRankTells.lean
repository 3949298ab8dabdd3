/- The law RankTells returns true for every input of bulk at most 1048576: rank.Of agrees with the reference. -/
import Derived.Test.YtgmcojnhpedpnaaOpen
import Derived.Test.YtgmcojnhpedpnaaRnk7
import Derived.Test.YtgmcojnhpedpnaaSame1
namespace Go.Proofs.Ytgmcojnhpedpnaa
open Go.ChangeShapes Go.WideShapes Go.ChangeAt Go.RowKit

mutual
theorem bulk_nodes : ∀ x : Exp, x.nodes ≤ x.bulk
  | .mk op v nm args => by
    have := bulks_nodes args
    simp only [Exp.bulk, Exp.nodes]
    omega
theorem bulks_nodes : ∀ l : List Exp, nodesL l ≤ Exp.bulk.bulks l
  | [] => by simp [nodesL]
  | a :: l => by
    have := bulk_nodes a
    have := bulks_nodes l
    simp only [Exp.bulk.bulks, nodesL]
    omega
end
theorem flds_nodes : ∀ l : List Fld, (l.map Fld.bulk).sum ≤ 1048576 → ∀ f ∈ l, f.source.nodes ≤ 1048576
  | [], _ => fun f hf => absurd hf List.not_mem_nil
  | a :: l, h => by
    simp only [List.map_cons, List.sum_cons] at h
    intro f hf
    rcases List.mem_cons.1 hf with rfl | hf
    · have := bulk_nodes f.source
      have e : f.bulk = f.name.size + f.source.bulk + 1 := rfl
      omega
    · exact flds_nodes l (by omega) f hf
theorem Sl_each {α : Type} {w : World} {S : Nat → Prop} {size : Nat} {R : List Value → α → Prop} {A : Option Addr} {n : Nat} {l : List α} (h : Sl w S size R A n l) : ∀ a ∈ l, ∃ cs, R cs a := by
  intro a ha
  obtain ⟨i, hi, rfl⟩ := List.mem_iff_getElem.1 ha
  have hn : 0 < n := by rw [← h.1]; omega
  obtain ⟨b, o, e, hs, hc⟩ := h.2 hn
  obtain ⟨cs, h1, _⟩ := hc i l[i] (List.getElem?_eq_getElem hi)
  exact ⟨cs, h1⟩
theorem flds_inS {w : World} {A : Option Addr} {n : Nat} {l : List Fld} (h : Sl w (old w) 9 (RFld w (old w)) A n l) : ∀ f ∈ l, inS f.name ∧ ∀ s ∈ askN f.source, inS s := by
  intro f hf
  obtain ⟨cs, hr⟩ := Sl_each h f hf
  exact ⟨hr.1, askN_inS hr.2.2.2.choose_spec.2⟩

def RetR3 (w : World) (lo : List Int) (lc : List ByteArray) (er : Int) (e : Ending) (w' : World) : Prop :=
  ∃ A c B d, e = .returned (.tuple #[.slice A lo.length c, .slice B lc.length d, .int .i64 er]) ∧ lo.length ≤ c ∧ lc.length ≤ d ∧ Sl w' (fresh w w') 1 RInt A lo.length lo ∧ Sl w' (fresh w w') 1 RStr B lc.length lc ∧ Below w.heap.size w w'
set_option maxRecDepth 100000 in
set_option maxHeartbeats 2000000 in
theorem law_RankTells (w : World) (A : Option Addr) (n c : Nat) (l : List Fld) (hn : inB 112 n) (hnc : n ≤ c) (h : Sl w (old w) 9 (RFld w (old w)) A n l) (hb : (l.map Fld.bulk).sum + 1 ≤ 1048576) :
    Calls Try.prog 4 #[.slice A n c] w fun e w' => e = .returned (.bool true) ∧ Below w.heap.size w w' := by
  have hN := flds_nodes l (by omega)
  have hst := flds_inS h
  have HX := Lib.hid h
  have hls : (rankR l).1.length ≤ 9223372036854775807 ∧ (rankR l).2.1.length ≤ 9223372036854775807 := by
    by_cases he : fieldsErr l = 0
    · have h14 := (fieldsErr_all he).1
      have hg := rankO_any he
      unfold rankR
      rw [if_neg (by simpa using he)]
      cases ha : (rankO l).any negO
      · rw [if_neg (by decide)]
        exact ⟨by show (rankO l).length ≤ _; rw [hg.1]; omega, by simp⟩
      · rw [if_pos rfl]
        have := cycC_len (bad := badF l) (needL_lt he) (l.length + 1) [] (firstAt negO (rankO l)) (PathC.nil _) (by rw [← hg.1]; exact firstAt_any negO _ ha)
        refine ⟨by simp, ?_⟩
        show ((cycF l).map (nameAt l)).length ≤ _
        rw [List.length_map]
        unfold cycF
        omega
    · unfold rankR
      rw [if_pos (by simpa using he)]
      exact ⟨by simp, by simp⟩
  obtain ⟨hl1, hl2⟩ := hls
  obtain ⟨lo, lc, er, hr⟩ : ∃ lo lc er, rankR l = (lo, lc, er) := ⟨_, _, _, rfl⟩
  rw [hr] at hl1 hl2
  replace hl1 : lo.length ≤ 9223372036854775807 := hl1
  replace hl2 : lc.length ≤ 9223372036854775807 := hl2
  have h1 : ∀ w, Sl w (old w) 9 (RFld w (old w)) A n l → Calls Try.prog 10 #[.slice A n c] w (RetR3 w lo lc er) := fun w h => (rank_Of l A n c w hn hnc h hN hst).mono (fun e w' q => by rw [hr] at q; exact q)
  have h2 : ∀ w, Sl w (old w) 9 (RFld w (old w)) A n l → Calls Try.prog 11 #[.slice A n c] w (RetR3 w lo lc er) := fun w h => (ref_FieldRanks l A n c w hn h hN hst).mono (fun e w' q => by rw [hr] at q; exact q)
  clear h hN hst hb hn hnc hr
  go_enter Try.func4, Try.ntmps4
  go_wp2_with fail
  refine (h1 _ (HX.out.nowN keeps_Fld bel)).mono ?_; rintro e w1 ⟨A1, c1, B1, d1, rfl, q1, p1, hs1, ht1, hb1⟩; obtain ⟨hc1, hf1⟩ := bcell hb1; (try simp only [World.heap_drewN, World.cell?_drewN, World.frozen?_drewN] at hc1 hf1); have hz1 := hb1.size; (try simp at hz1); (try (have hy1 := Nat.lt_of_succ_le hz1)); (try (have hx1 := Nat.lt_of_succ_lt hy1)); (first | refine szz6 w1 w (by omega) ?_ | refine szz5 w1 w (by omega) ?_ | refine szz4 w1 w (by omega) ?_ | refine szz3 w1 w (by omega) ?_ | refine szz2 w1 w (by omega) ?_ | refine szz1 w1 w (by omega) ?_ | refine szz0 w1 w (by omega) ?_ | refine szzn w1 w (by omega) ?_ | skip); intros
  have HS1 := Lib.hid (And.intro hs1 ht1)
  clear hs1 ht1
  go_wp2_with fail
  refine (h2 _ (HX.out.nowN keeps_Fld bel)).mono ?_; rintro e w2 ⟨A2, c2, B2, d2, rfl, q2, p2, hs2, ht2, hb2⟩; obtain ⟨hc2, hf2⟩ := bcell hb2; (try simp only [World.heap_drewN, World.cell?_drewN, World.frozen?_drewN] at hc2 hf2); have hz2 := hb2.size; (try simp at hz2); (try (have hy2 := Nat.lt_of_succ_le hz2)); (try (have hx2 := Nat.lt_of_succ_lt hy2)); (first | refine szz6 w2 w (by omega) ?_ | refine szz5 w2 w (by omega) ?_ | refine szz4 w2 w (by omega) ?_ | refine szz3 w2 w (by omega) ?_ | refine szz2 w2 w (by omega) ?_ | refine szz1 w2 w (by omega) ?_ | refine szz0 w2 w (by omega) ?_ | refine szzn w2 w (by omega) ?_ | skip); intros; (first | refine szz6 w2 w1 (by omega) ?_ | refine szz5 w2 w1 (by omega) ?_ | refine szz4 w2 w1 (by omega) ?_ | refine szz3 w2 w1 (by omega) ?_ | refine szz2 w2 w1 (by omega) ?_ | refine szz1 w2 w1 (by omega) ?_ | refine szz0 w2 w1 (by omega) ?_ | refine szzn w2 w1 (by omega) ?_ | skip); intros
  have HS2 := Lib.hid (And.intro hs2 ht2)
  clear hs2 ht2
  go_wp2_with fail
  refine (same_Ints A1 A2 _ c1 _ c2 lo _ _ _ hl1 (HS1.out.1.keep (w' := w2) (fun b hq => (bel : Below w1.heap.size w1 w2).block b hq.2) (fun _ _ h => h.1)) (HS2.out.1.keep (w' := w2) (fun b hq => rfl) (fun _ _ h => h.1))).mono ?_; rintro e w3 ⟨rfl, k3, rfl⟩
  go_wp2_with fail
  refine (same_Texts B1 B2 _ d1 _ d2 lc _ _ _ hl2 (HS1.out.2.keep (w' := w2.drewN k3) (fun b hq => (bel : Below w1.heap.size w1 (w2.drewN k3)).block b hq.2) (fun _ _ h => h.1)) (HS2.out.2.keep (w' := w2.drewN k3) (fun b hq => rfl) (fun _ _ h => h.1))).mono ?_; rintro e w4 ⟨rfl, k4, rfl⟩
  go_wp2_with fail
  go_ret
  exact ⟨rfl, bel⟩
set_option maxRecDepth 100000 in
theorem RankTellsUpto_lifted (os : Os) (started : os.Started) (H : Type) (enc : TypeId × Value → H) (FS : Stop.Interp) :
    ReturnsInHanded {} Try.checked os 4 .any ((Rows.OpenSpec.upto Rows.rankTellsSpec).pre6 enc Try.checked.prog Try.f4 Rows.rankTellsUptoRow.domain false) (((Rows.OpenSpec.upto Rows.rankTellsSpec).at FS).post enc Try.checked.prog Try.f4 false true false false) := by
  refine law_lifted_upto (s := Rows.rankTellsSpec) (FS := FS) started (by kernel_rfl) Try.func4 (by rw [Try.params4]; exact of_decide_eq_true (by kernel_rfl)) rfl rfl
    (fun ds hl => by rw [show Try.f4.params.size = 1 from rfl] at hl; match ds, hl with | [d0], _ => rfl)
    (OpenSpec.witness (enc := enc) (C := Try.checked) (s := Rows.OpenSpec.upto Rows.rankTellsSpec) (k := Rows.uptoSmall) rfl false ⟨#[], #[.slice none 0 0], []⟩ 8 (by kernel_rfl) (by kernel_rfl) (by kernel_rfl) (x := ([.nil], [], [])) (by kernel_rfl) rfl (by kernel_rfl)) ?_
  intro W b args ds p hA hval hsz hbulk
  rw [Try.params4] at hA hval hsz
  obtain ⟨v0, vs0, d0, ds0, p0, q0, hargs, rfl, rfl, h0, r0⟩ := trodAll_cons hA
  obtain ⟨rfl, rfl, rfl⟩ := trodAll_nil r0
  have hargs' : args = #[v0] := by apply Array.toList_inj.1; simpa using hargs
  subst hargs'
  have w0 := weightsEach_at _ _ hsz 0 _ _ rfl rfl
  obtain ⟨A0, n0, c0, l0, rfl, i0, k0, s0, m0⟩ := arg_sl dec_Flds Try.underlying33 (hval 0 33 _ rfl rfl) h0 w0
  simp only [Rows.uptoBulkAll] at hbulk
  exact law_RankTells W A0 n0 c0 l0 i0 k0 s0 (Nat.le_trans m0 (by omega))
theorem RankTellsUpto_holds : Rows.RankTellsUptoSaid :=
  OpenClaim.holds_of_cond 4 Try.f4 rfl rfl rfl rfl rfl rfl rfl ⟨rfl, rfl, rfl, rfl, rfl⟩ rfl rfl rfl rfl rfl (by kernel_rfl) Try.func4 (by kernel_rfl)
    (of_decide_eq_true (by kernel_rfl)) (by unfold Func.isWrapper; rw [if_neg (of_decide_eq_false (by kernel_rfl))]; exact ⟨rfl, rfl⟩)
    (fun os started H enc _ FS => RankTellsUpto_lifted os started H enc FS)
end Go.Proofs.Ytgmcojnhpedpnaa
