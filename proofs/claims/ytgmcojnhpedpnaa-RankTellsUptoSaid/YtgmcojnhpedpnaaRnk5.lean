/- rank.Of: the ranks of fields; a cycle; what is wrong. -/
import Derived.Test.YtgmcojnhpedpnaaRnk2
import Derived.Test.YtgmcojnhpedpnaaRnk4
namespace Go.Proofs.Ytgmcojnhpedpnaa
open Go.RowKit

/-- The ending with numbers, texts and an error's number. -/
def RetRk (w : World) (r : List Int × List ByteArray × Int) (e : Ending) (w' : World) : Prop :=
  ∃ A c B d, e = .returned (.tuple #[.slice A r.1.length c, .slice B r.2.1.length d, .int .i64 r.2.2]) ∧ r.1.length ≤ c ∧ r.2.1.length ≤ d ∧ Sl w' (fresh w w') 1 RInt A r.1.length r.1 ∧ Sl w' (fresh w w') 1 RStr B r.2.1.length r.2.1 ∧ Below w.heap.size w w'
theorem rankO_any {l : List Fld} (h : fieldsErr l = 0) : (rankO l).length = l.length ∧ GoodO (needL l) l.length (rankO l) :=
  ⟨(sweepsO_good (needL_lt h) l.length).1.1, (sweepsO_good (needL_lt h) l.length).1⟩
theorem cycC_lt {bad : Nat → Bool} {nd : List (List Nat)} {N : Nat} (hN : ∀ i, ∀ s ∈ ndAt nd i, s < N) : ∀ (f : Nat) (path : List Nat) (i : Nat), PathC N path → i < N → ∀ x ∈ cycC bad nd f path i, x < N
  | 0, path, i, hp, _ => fun x hx => hp.2 x hx
  | f + 1, path, i, hp, hi => by
    cases ha : path.any (fun x => x == i)
    · rw [cycC_step ha]
      exact cycC_lt hN f _ _ (hp.snoc hi ha) (nxtC_lt hN hi)
    · rw [cycC_stop ha]
      exact fun x hx => hp.2 x (List.mem_of_mem_drop hx)
theorem cycC_len {bad : Nat → Bool} {nd : List (List Nat)} {N : Nat} (hN : ∀ i, ∀ s ∈ ndAt nd i, s < N) : ∀ (f : Nat) (path : List Nat) (i : Nat), PathC N path → i < N → (cycC bad nd f path i).length ≤ N
  | 0, path, i, hp, _ => hp.len
  | f + 1, path, i, hp, hi => by
    cases ha : path.any (fun x => x == i)
    · rw [cycC_step ha]
      exact cycC_len hN f _ _ (hp.snoc hi ha) (nxtC_lt hN hi)
    · rw [cycC_stop ha, List.length_drop]
      have := hp.len
      omega
theorem nameAt_at {l : List Fld} {i : Nat} {f : Fld} (h : l[i]? = some f) : nameAt l i = f.name := by unfold nameAt; rw [h]; rfl
theorem own_slw9 {w : World} {base : Nat} {e : TypeId} {v : Value} {n : Nat} {l : List ByteArray} (h : w.ownsRow base e 1 v n (l.flatMap strCs)) (hl : l.length = n) (hw : ∀ a ∈ l, inS a) :
    ∃ A c, v = .slice A n c ∧ n ≤ c ∧ Sl w (since base w) 1 RStr A n l := by
  obtain ⟨A, c, rfl, hc, hs⟩ := own_sl strCs (fun _ => rfl) h hl
  refine ⟨A, c, rfl, hc, hs.1, fun hn => ?_⟩
  obtain ⟨b, o, e, hS, hcc⟩ := hs.2 hn
  refine ⟨b, o, e, hS, fun i v hv => ?_⟩
  obtain ⟨cs, rfl, hl', h'⟩ := hcc i v hv
  exact ⟨_, ⟨rfl, hw v (List.mem_of_getElem? hv)⟩, hl', h'⟩
theorem needL_inner {l : List Fld} (hN : ∀ f ∈ l, f.source.nodes ≤ 1048576) : ∀ m ∈ needL l, m.length ≤ 1048576 := by
  intro m hm
  obtain ⟨f, hf, rfl⟩ := List.mem_map.1 hm
  rw [List.length_map]
  unfold srcN
  split
  · simp
  · exact Nat.le_trans (rise_len _) (Nat.le_trans (askN_nodes _) (hN f hf))

set_option maxRecDepth 100000 in
set_option maxHeartbeats 4000000 in
theorem rank_Of (l : List Fld) (L : Option Addr) (n d : Nat) (w : World) (hn : inB 112 n) (hnd : n ≤ d) (hl : Sl w (old w) 9 (RFld w (old w)) L n l) (hN : ∀ f ∈ l, f.source.nodes ≤ 1048576) (hst : ∀ f ∈ l, inS f.name ∧ ∀ s ∈ askN f.source, inS s) :
    Calls Try.prog 10 #[.slice L n d] w (RetRk w (rankR l)) := by
  have hck := fun w h => field_Check l L n d w hn hnd h
  by_cases he : fieldsErr l = 0
  · have hg := rankO_any he
    have hlt := needL_lt he
    have h14 : n ≤ 14 := by rw [← hl.len]; exact (fieldsErr_all he).1
    have hnd' := fun w h => rank_needs l L n d w hn h he hN (fun f hf => (hst f hf).2)
    have hin := needL_inner hN
    have hrk := fun A c w h => rank_ranks (needL l) A n c w h14 (by rw [← hl.len]; exact hlt) h hin
    have hcy := fun A A2 c c2 w h h2 hb => rank_cycle (needL l) (rankO l) A A2 n c c2 w h14 (by rw [← hl.len]; exact hlt) h hin h2 hb
    have hlen := hl.len
    have hro : sweepsO (needL l) n n = rankO l := by rw [← hlen]; rfl
    rw [hro] at hrk
    rw [he] at hck
    cases hany : (rankO l).any negO
    · have hr : rankR l = (rankO l, [], 0) := by rw [rankR, if_neg (by simpa using he), if_neg (by rw [hany]; decide)]
      rw [hr]
      have hct := fun A c w h => ints_ContOf A n c (rankO l) w (by unfold inL; omega) h
      rw [hany] at hct
      have hrl := hg.1
      rw [hlen] at hrl
      generalize rankO l = O at *
      have HH := Lib.hid (And.intro hl hrl)
      have HN := Lib.hid ((needL_len l).trans hlen)
      clear hl hg hlt hin hN hst he hro hr hany hlen hn hcy
      go_enter Try.func10, Try.ntmps10
      go_wp2_with fail
      refine (hck _ (HH.out.1.nowN keeps_Fld bel)).mono ?_; rintro e w1 ⟨rfl, hb1⟩; obtain ⟨hc1, hf1⟩ := bcell hb1; (try simp only [World.heap_drewN, World.cell?_drewN, World.frozen?_drewN] at hc1 hf1); have hz1 := hb1.size; (try simp at hz1); (try (have hy1 := Nat.lt_of_succ_le hz1)); (try (have hx1 := Nat.lt_of_succ_lt hy1)); (first | refine szz6 w1 w (by omega) ?_ | refine szz5 w1 w (by omega) ?_ | refine szz4 w1 w (by omega) ?_ | refine szz3 w1 w (by omega) ?_ | refine szz2 w1 w (by omega) ?_ | refine szz1 w1 w (by omega) ?_ | refine szz0 w1 w (by omega) ?_ | refine szzn w1 w (by omega) ?_ | skip); intros
      go_wp2_with fail
      refine (hnd' _ (HH.out.1.nowN keeps_Fld bel)).mono ?_; rintro e w2 ⟨v2, rfl, ho2, hb2⟩; obtain ⟨A2, c2, e2, hca2, hs2⟩ := ho2.sl keeps_RIs; subst e2; obtain ⟨hc2, hf2⟩ := bcell hb2; (try simp only [World.heap_drewN, World.cell?_drewN, World.frozen?_drewN] at hc2 hf2); have hz2 := hb2.size; (try simp at hz2); (try (have hy2 := Nat.lt_of_succ_le hz2)); (try (have hx2 := Nat.lt_of_succ_lt hy2)); (first | refine szz6 w2 w (by omega) ?_ | refine szz5 w2 w (by omega) ?_ | refine szz4 w2 w (by omega) ?_ | refine szz3 w2 w (by omega) ?_ | refine szz2 w2 w (by omega) ?_ | refine szz1 w2 w (by omega) ?_ | refine szz0 w2 w (by omega) ?_ | refine szzn w2 w (by omega) ?_ | skip); intros; (first | refine szz6 w2 w1 (by omega) ?_ | refine szz5 w2 w1 (by omega) ?_ | refine szz4 w2 w1 (by omega) ?_ | refine szz3 w2 w1 (by omega) ?_ | refine szz2 w2 w1 (by omega) ?_ | refine szz1 w2 w1 (by omega) ?_ | refine szz0 w2 w1 (by omega) ?_ | refine szzn w2 w1 (by omega) ?_ | skip); intros
      rw [HN.out] at hs2 ⊢
      have HS2 := Lib.hid (hs2.keepN keeps_RIs (w' := w2) (S' := old w2) (fun b hb => ⟨hb.2, rfl⟩))
      clear hs2 ho2
      go_wp2_with fail
      refine (hrk A2 c2 _ HS2.out).mono ?_; rintro e w3 ⟨A3, c3, rfl, hca3, hs3, hb3⟩; obtain ⟨hc3, hf3⟩ := bcell hb3; (try simp only [World.heap_drewN, World.cell?_drewN, World.frozen?_drewN] at hc3 hf3); have hz3 := hb3.size; (try simp at hz3); (try (have hy3 := Nat.lt_of_succ_le hz3)); (try (have hx3 := Nat.lt_of_succ_lt hy3)); (first | refine szz6 w3 w (by omega) ?_ | refine szz5 w3 w (by omega) ?_ | refine szz4 w3 w (by omega) ?_ | refine szz3 w3 w (by omega) ?_ | refine szz2 w3 w (by omega) ?_ | refine szz1 w3 w (by omega) ?_ | refine szz0 w3 w (by omega) ?_ | refine szzn w3 w (by omega) ?_ | skip); intros; (first | refine szz6 w3 w1 (by omega) ?_ | refine szz5 w3 w1 (by omega) ?_ | refine szz4 w3 w1 (by omega) ?_ | refine szz3 w3 w1 (by omega) ?_ | refine szz2 w3 w1 (by omega) ?_ | refine szz1 w3 w1 (by omega) ?_ | refine szz0 w3 w1 (by omega) ?_ | refine szzn w3 w1 (by omega) ?_ | skip); intros; (first | refine szz6 w3 w2 (by omega) ?_ | refine szz5 w3 w2 (by omega) ?_ | refine szz4 w3 w2 (by omega) ?_ | refine szz3 w3 w2 (by omega) ?_ | refine szz2 w3 w2 (by omega) ?_ | refine szz1 w3 w2 (by omega) ?_ | refine szz0 w3 w2 (by omega) ?_ | refine szzn w3 w2 (by omega) ?_ | skip); intros
      rw [HH.out.2] at hca3 hs3 ⊢
      have HS3 := Lib.hid (hs3.mono (S' := old w3) (fun b hb => hb.2))
      have HS3b := Lib.hid hs3
      clear hs3
      go_wp2_with fail
      refine (hct A3 c3 _ HS3.out).mono ?_; rintro e w4 ⟨rfl, hb4⟩; obtain ⟨hc4, hf4⟩ := bcell hb4; (try simp only [World.heap_drewN, World.cell?_drewN, World.frozen?_drewN] at hc4 hf4); have hz4 := hb4.size; (try simp at hz4); (try (have hy4 := Nat.lt_of_succ_le hz4)); (try (have hx4 := Nat.lt_of_succ_lt hy4)); (first | refine szz6 w4 w (by omega) ?_ | refine szz5 w4 w (by omega) ?_ | refine szz4 w4 w (by omega) ?_ | refine szz3 w4 w (by omega) ?_ | refine szz2 w4 w (by omega) ?_ | refine szz1 w4 w (by omega) ?_ | refine szz0 w4 w (by omega) ?_ | refine szzn w4 w (by omega) ?_ | skip); intros; (first | refine szz6 w4 w1 (by omega) ?_ | refine szz5 w4 w1 (by omega) ?_ | refine szz4 w4 w1 (by omega) ?_ | refine szz3 w4 w1 (by omega) ?_ | refine szz2 w4 w1 (by omega) ?_ | refine szz1 w4 w1 (by omega) ?_ | refine szz0 w4 w1 (by omega) ?_ | refine szzn w4 w1 (by omega) ?_ | skip); intros; (first | refine szz6 w4 w2 (by omega) ?_ | refine szz5 w4 w2 (by omega) ?_ | refine szz4 w4 w2 (by omega) ?_ | refine szz3 w4 w2 (by omega) ?_ | refine szz2 w4 w2 (by omega) ?_ | refine szz1 w4 w2 (by omega) ?_ | refine szz0 w4 w2 (by omega) ?_ | refine szzn w4 w2 (by omega) ?_ | skip); intros; (first | refine szz6 w4 w3 (by omega) ?_ | refine szz5 w4 w3 (by omega) ?_ | refine szz4 w4 w3 (by omega) ?_ | refine szz3 w4 w3 (by omega) ?_ | refine szz2 w4 w3 (by omega) ?_ | refine szz1 w4 w3 (by omega) ?_ | refine szz0 w4 w3 (by omega) ?_ | refine szzn w4 w3 (by omega) ?_ | skip); intros
      go_wp2_with fail
      go_ret3
      have hB : Below w.heap.size w w4 := bel
      exact ⟨A3, c3, none, 0, by rw [HH.out.2]; rfl, by rw [HH.out.2]; exact hca3, Nat.le_refl _, by rw [HH.out.2]; exact (HS3b.out.keep (w' := w4) (fun b hb => hb4.block b hb.2) (fun _ _ h => h)).mono (fun b hb => ⟨by omega, Nat.lt_of_lt_of_le hb.2 hb4.size⟩), Sl.nil, hB⟩
    · have hr : rankR l = ([], (cycF l).map (nameAt l), 10) := by rw [rankR, if_neg (by simpa using he), if_pos hany]
      rw [hr]
      have hct := fun A c w h => ints_ContOf A n c (rankO l) w (by unfold inL; omega) h
      rw [hany] at hct
      have hrl := hg.1
      rw [hlen] at hrl
      have hfa := firstAt_any negO _ hany
      have hcf : cycC (fun i => negO (outAt (rankO l) i)) (needL l) (n + 1) [] (firstAt negO (rankO l)) = cycF l := by rw [← hlen]; rfl
      have hclt : ∀ x ∈ cycF l, x < n := by rw [← hcf]; exact cycC_lt (by rw [← hlen]; exact hlt) _ _ _ (PathC.nil n) (by rw [← hrl]; exact hfa)
      have hcln : (cycF l).length ≤ n := by rw [← hcf]; exact cycC_len (by rw [← hlen]; exact hlt) _ _ _ (PathC.nil n) (by rw [← hrl]; exact hfa)
      have hcy' := fun A A2 c c2 w h h2 => hcy A A2 c c2 w h h2 hany
      rw [hcf] at hcy'
      have hns : ∀ f ∈ l, inS f.name := fun f hf => (hst f hf).1
      generalize rankO l = O at *
      generalize cycF l = cyc at *
      obtain ⟨i0, ei, ez0, ez1, ez2⟩ := info_parts Try.infoStr'
      have HH := Lib.hid (And.intro hl (And.intro hrl (And.intro hclt hns)))
      have HN := Lib.hid ((needL_len l).trans hlen)
      have HL := Lib.hid hlen
      clear hl hg hlt hin hN hst he hro hr hany hlen hn hcy hcf hclt hrl hfa hns
      go_enter Try.func10, Try.ntmps10
      go_wp2_with fail
      refine (hck _ (HH.out.1.nowN keeps_Fld bel)).mono ?_; rintro e w1 ⟨rfl, hb1⟩; obtain ⟨hc1, hf1⟩ := bcell hb1; (try simp only [World.heap_drewN, World.cell?_drewN, World.frozen?_drewN] at hc1 hf1); have hz1 := hb1.size; (try simp at hz1); (try (have hy1 := Nat.lt_of_succ_le hz1)); (try (have hx1 := Nat.lt_of_succ_lt hy1)); (first | refine szz6 w1 w (by omega) ?_ | refine szz5 w1 w (by omega) ?_ | refine szz4 w1 w (by omega) ?_ | refine szz3 w1 w (by omega) ?_ | refine szz2 w1 w (by omega) ?_ | refine szz1 w1 w (by omega) ?_ | refine szz0 w1 w (by omega) ?_ | refine szzn w1 w (by omega) ?_ | skip); intros
      go_wp2_with fail
      refine (hnd' _ (HH.out.1.nowN keeps_Fld bel)).mono ?_; rintro e w2 ⟨v2, rfl, ho2, hb2⟩; obtain ⟨A2, c2, e2, hca2, hs2⟩ := ho2.sl keeps_RIs; subst e2; obtain ⟨hc2, hf2⟩ := bcell hb2; (try simp only [World.heap_drewN, World.cell?_drewN, World.frozen?_drewN] at hc2 hf2); have hz2 := hb2.size; (try simp at hz2); (try (have hy2 := Nat.lt_of_succ_le hz2)); (try (have hx2 := Nat.lt_of_succ_lt hy2)); (first | refine szz6 w2 w (by omega) ?_ | refine szz5 w2 w (by omega) ?_ | refine szz4 w2 w (by omega) ?_ | refine szz3 w2 w (by omega) ?_ | refine szz2 w2 w (by omega) ?_ | refine szz1 w2 w (by omega) ?_ | refine szz0 w2 w (by omega) ?_ | refine szzn w2 w (by omega) ?_ | skip); intros; (first | refine szz6 w2 w1 (by omega) ?_ | refine szz5 w2 w1 (by omega) ?_ | refine szz4 w2 w1 (by omega) ?_ | refine szz3 w2 w1 (by omega) ?_ | refine szz2 w2 w1 (by omega) ?_ | refine szz1 w2 w1 (by omega) ?_ | refine szz0 w2 w1 (by omega) ?_ | refine szzn w2 w1 (by omega) ?_ | skip); intros
      rw [HN.out] at hs2 ⊢
      have HS2 := Lib.hid (hs2.keepN keeps_RIs (w' := w2) (S' := old w2) (fun b hb => ⟨hb.2, rfl⟩))
      clear hs2 ho2
      go_wp2_with fail
      refine (hrk A2 c2 _ HS2.out).mono ?_; rintro e w3 ⟨A3, c3, rfl, hca3, hs3, hb3⟩; obtain ⟨hc3, hf3⟩ := bcell hb3; (try simp only [World.heap_drewN, World.cell?_drewN, World.frozen?_drewN] at hc3 hf3); have hz3 := hb3.size; (try simp at hz3); (try (have hy3 := Nat.lt_of_succ_le hz3)); (try (have hx3 := Nat.lt_of_succ_lt hy3)); (first | refine szz6 w3 w (by omega) ?_ | refine szz5 w3 w (by omega) ?_ | refine szz4 w3 w (by omega) ?_ | refine szz3 w3 w (by omega) ?_ | refine szz2 w3 w (by omega) ?_ | refine szz1 w3 w (by omega) ?_ | refine szz0 w3 w (by omega) ?_ | refine szzn w3 w (by omega) ?_ | skip); intros; (first | refine szz6 w3 w1 (by omega) ?_ | refine szz5 w3 w1 (by omega) ?_ | refine szz4 w3 w1 (by omega) ?_ | refine szz3 w3 w1 (by omega) ?_ | refine szz2 w3 w1 (by omega) ?_ | refine szz1 w3 w1 (by omega) ?_ | refine szz0 w3 w1 (by omega) ?_ | refine szzn w3 w1 (by omega) ?_ | skip); intros; (first | refine szz6 w3 w2 (by omega) ?_ | refine szz5 w3 w2 (by omega) ?_ | refine szz4 w3 w2 (by omega) ?_ | refine szz3 w3 w2 (by omega) ?_ | refine szz2 w3 w2 (by omega) ?_ | refine szz1 w3 w2 (by omega) ?_ | refine szz0 w3 w2 (by omega) ?_ | refine szzn w3 w2 (by omega) ?_ | skip); intros
      rw [HH.out.2.1] at hca3 hs3 ⊢
      have HS3 := Lib.hid (hs3.mono (S' := old w3) (fun b hb => hb.2))
      clear hs3
      go_wp2_with fail
      refine (hct A3 c3 _ HS3.out).mono ?_; rintro e w4 ⟨rfl, hb4⟩; obtain ⟨hc4, hf4⟩ := bcell hb4; (try simp only [World.heap_drewN, World.cell?_drewN, World.frozen?_drewN] at hc4 hf4); have hz4 := hb4.size; (try simp at hz4); (try (have hy4 := Nat.lt_of_succ_le hz4)); (try (have hx4 := Nat.lt_of_succ_lt hy4)); (first | refine szz6 w4 w (by omega) ?_ | refine szz5 w4 w (by omega) ?_ | refine szz4 w4 w (by omega) ?_ | refine szz3 w4 w (by omega) ?_ | refine szz2 w4 w (by omega) ?_ | refine szz1 w4 w (by omega) ?_ | refine szz0 w4 w (by omega) ?_ | refine szzn w4 w (by omega) ?_ | skip); intros; (first | refine szz6 w4 w1 (by omega) ?_ | refine szz5 w4 w1 (by omega) ?_ | refine szz4 w4 w1 (by omega) ?_ | refine szz3 w4 w1 (by omega) ?_ | refine szz2 w4 w1 (by omega) ?_ | refine szz1 w4 w1 (by omega) ?_ | refine szz0 w4 w1 (by omega) ?_ | refine szzn w4 w1 (by omega) ?_ | skip); intros; (first | refine szz6 w4 w2 (by omega) ?_ | refine szz5 w4 w2 (by omega) ?_ | refine szz4 w4 w2 (by omega) ?_ | refine szz3 w4 w2 (by omega) ?_ | refine szz2 w4 w2 (by omega) ?_ | refine szz1 w4 w2 (by omega) ?_ | refine szz0 w4 w2 (by omega) ?_ | refine szzn w4 w2 (by omega) ?_ | skip); intros; (first | refine szz6 w4 w3 (by omega) ?_ | refine szz5 w4 w3 (by omega) ?_ | refine szz4 w4 w3 (by omega) ?_ | refine szz3 w4 w3 (by omega) ?_ | refine szz2 w4 w3 (by omega) ?_ | refine szz1 w4 w3 (by omega) ?_ | refine szz0 w4 w3 (by omega) ?_ | refine szzn w4 w3 (by omega) ?_ | skip); intros
      go_wp2_with fail
      have hb24 : Below w2.heap.size w2 w4 := below_chain hb3 hb4
      refine (hcy' A2 A3 c2 c3 _ (HS2.out.nowN keeps_RIs hb24) (HS3.out.now hb4)).mono ?_; rintro e w5 ⟨A5, c5, rfl, hca5, hs5, hb5⟩; obtain ⟨hc5, hf5⟩ := bcell hb5; (try simp only [World.heap_drewN, World.cell?_drewN, World.frozen?_drewN] at hc5 hf5); have hz5 := hb5.size; (try simp at hz5); (try (have hy5 := Nat.lt_of_succ_le hz5)); (try (have hx5 := Nat.lt_of_succ_lt hy5)); (first | refine szz6 w5 w (by omega) ?_ | refine szz5 w5 w (by omega) ?_ | refine szz4 w5 w (by omega) ?_ | refine szz3 w5 w (by omega) ?_ | refine szz2 w5 w (by omega) ?_ | refine szz1 w5 w (by omega) ?_ | refine szz0 w5 w (by omega) ?_ | refine szzn w5 w (by omega) ?_ | skip); intros; (first | refine szz6 w5 w1 (by omega) ?_ | refine szz5 w5 w1 (by omega) ?_ | refine szz4 w5 w1 (by omega) ?_ | refine szz3 w5 w1 (by omega) ?_ | refine szz2 w5 w1 (by omega) ?_ | refine szz1 w5 w1 (by omega) ?_ | refine szz0 w5 w1 (by omega) ?_ | refine szzn w5 w1 (by omega) ?_ | skip); intros; (first | refine szz6 w5 w2 (by omega) ?_ | refine szz5 w5 w2 (by omega) ?_ | refine szz4 w5 w2 (by omega) ?_ | refine szz3 w5 w2 (by omega) ?_ | refine szz2 w5 w2 (by omega) ?_ | refine szz1 w5 w2 (by omega) ?_ | refine szz0 w5 w2 (by omega) ?_ | refine szzn w5 w2 (by omega) ?_ | skip); intros; (first | refine szz6 w5 w3 (by omega) ?_ | refine szz5 w5 w3 (by omega) ?_ | refine szz4 w5 w3 (by omega) ?_ | refine szz3 w5 w3 (by omega) ?_ | refine szz2 w5 w3 (by omega) ?_ | refine szz1 w5 w3 (by omega) ?_ | refine szz0 w5 w3 (by omega) ?_ | refine szzn w5 w3 (by omega) ?_ | skip); intros; (first | refine szz6 w5 w4 (by omega) ?_ | refine szz5 w5 w4 (by omega) ?_ | refine szz4 w5 w4 (by omega) ?_ | refine szz3 w5 w4 (by omega) ?_ | refine szz2 w5 w4 (by omega) ?_ | refine szz1 w5 w4 (by omega) ?_ | refine szz0 w5 w4 (by omega) ?_ | refine szzn w5 w4 (by omega) ?_ | skip); intros
      have HS5 := Lib.hid (hs5.mono (S' := old w5) (fun b hb => hb.2))
      have hB5 : Below w.heap.size w w5 := bel
      have hcl : (toI cyc).length = cyc.length := by rw [List.length_map]
      rw [hcl] at hca5 HS5 ⊢
      clear hs5 hcl
      go_wp2_with fail
      generalize hwq : w5 = wq at *
      clear hwq
      go_loopw [8, 28] (fun v i wr => ∃ k : Nat, k ≤ cyc.length ∧ i = .int .i64 k ∧ Hid (wr.ownsRow wq.heap.size 9 1 v k ((cyc.take k).flatMap (fun i => strCs (nameAt l i)))) ∧ Below wq.heap.size wq wr) (fun _ i _ => cyc.length - (intOf i).toNat)
      case atStart => exact ⟨0, by omega, rfl, Lib.hid (by simpa using World.ownsRow_nil _ _ _ _), Below.refl _ _⟩
      case round =>
        obtain ⟨k, hk, rfl, hown, hbr⟩ := hrel
        by_cases hltk : k < cyc.length
        · obtain ⟨b, o, x, hAe, hbl, hlx, hxi, y0⟩ := Int_at (HS5.out.now hbr) (show k < cyc.length from hltk)
          subst hAe
          have hbl' : b < wr.heap.size := hbl
          obtain ⟨x', hx', hxe⟩ : ∃ x', cyc[k]? = some x' ∧ (x' : Int) = x := by
            rw [List.getElem?_map] at hlx
            cases hc : cyc[k]? with
            | none => rw [hc] at hlx; cases hlx
            | some x' => rw [hc] at hlx; exact ⟨x', rfl, Option.some.inj hlx⟩
          subst hxe
          have hxn := HH.out.2.2.1 x' (List.mem_of_getElem? hx')
          have hBr : Below w.heap.size w wr := below_step hB5 hbr hB5.size
          obtain ⟨b2, o2, f, X, C, hAe, hbl2, hlf, hrep, x0, _⟩ := Fld_at (HH.out.1.nowN keeps_Fld hBr) hxn
          subst hAe
          have hbl2' : b2 < wr.heap.size := hbl2
          have HT := Lib.hid (show cyc.take k ++ [x'] = cyc.take (k + 1) by rw [List.take_add_one, hx']; rfl)
          have HNM := Lib.hid (nameAt_at hlf)
          clear hbl hlx hxi hx' hbl2 hlf hrep
          go_wp2_with (at_builtin; refine wpList_append1 rfl _ _ 27 rfl wq.heap.size 9 i0 (.string ⟨#[]⟩) 1 16 Try.underlying27 ei ez0 ez1 ez2 rfl (by decide) _ k _ rfl hown.out [.string f.name] 9 rfl _ rfl rfl rfl (by simp [Value.oneCell']) (by omega) (by unfold maxLen; omega) (by have := hbr.size; omega) ?_; intro v6 w6 hown6 hb6 hz6 _)
          go_roundw
          case rel =>
            refine ⟨k + 1, by omega, by go_num, Lib.hid ?_, below_step hbr hb6 (Nat.le_refl _)⟩
            rw [← HT.out, List.flatMap_append, List.flatMap_cons, HNM.out]
            simpa using hown6
          case measure => simp [intOf]; omega
        · have hke : k = cyc.length := by omega
          subst hke
          have hm := hown.out
          rw [List.take_length] at hm
          have hm2 : wr.ownsRow wq.heap.size 9 1 u8 ((cyc.map (nameAt l)).length) ((cyc.map (nameAt l)).flatMap strCs) := by rw [List.length_map, List.flatMap_map]; exact hm
          obtain ⟨A6, c6, e6, hc6, hs6⟩ := own_slw9 hm2 rfl (by
            intro s hs
            obtain ⟨x, hx, rfl⟩ := List.mem_map.1 hs
            have hxn := HH.out.2.2.1 x hx
            rw [← HL.out] at hxn
            rw [nameAt_at (List.getElem?_eq_getElem hxn)]
            exact HH.out.2.2.2 _ (List.getElem_mem hxn))
          subst e6
          have HS6 := Lib.hid (And.intro hs6 hc6)
          clear hm hm2 hs6 hown hc6
          go_wp2_with fail
          go_ret3
          exact ⟨none, 0, A6, c6, rfl, Nat.le_refl _, HS6.out.2, Sl.nil, HS6.out.1.mono (fun b hb => ⟨by have := hb.1; have := hB5.size; omega, hb.2⟩), below_step hB5 hbr hB5.size⟩
  · have hr : rankR l = ([], [], fieldsErr l) := by rw [rankR, if_pos he]
    rw [hr]
    have he' : (fieldsErr l != 0) = true := by simpa using he
    generalize fieldsErr l = er at *
    have HH := Lib.hid hl
    clear hl he hr hn hN hst
    go_enter Try.func10, Try.ntmps10
    go_wp2_with (go_at_call 22; refine (hck _ (HH.out.nowN keeps_Fld bel)).mono ?_; rintro e w1 ⟨rfl, hb1⟩; obtain ⟨hc1, hf1⟩ := bcell hb1; (try simp only [World.heap_drewN, World.cell?_drewN, World.frozen?_drewN] at hc1 hf1); have hz1 := hb1.size; (try simp at hz1); (try (have hy1 := Nat.lt_of_succ_le hz1)); (try (have hx1 := Nat.lt_of_succ_lt hy1)); (first | refine szz6 w1 w (by omega) ?_ | refine szz5 w1 w (by omega) ?_ | refine szz4 w1 w (by omega) ?_ | refine szz3 w1 w (by omega) ?_ | refine szz2 w1 w (by omega) ?_ | refine szz1 w1 w (by omega) ?_ | refine szz0 w1 w (by omega) ?_ | refine szzn w1 w (by omega) ?_ | skip); intros)
    go_ret3
    exact ⟨none, 0, none, 0, rfl, Nat.le_refl _, Nat.le_refl _, Sl.nil, Sl.nil, bel⟩
end Go.Proofs.Ytgmcojnhpedpnaa
