/- Texts merged (mergeh.py): Frm LFormChecks. -/
import Derived.Test.YtgmcojnhpedpnaaGreatRnk7
import Derived.Test.YtgmcojnhpedpnaaGreatPCk
import Derived.Test.YtgmcojnhpedpnaaGreatCop3
import Derived.Test.YtgmcojnhpedpnaaGreatSam2
import Derived.Test.YtgmcojnhpedpnaaGreatSamf
import Derived.Test.YtgmcojnhpedpnaaGreatDecs
/- sheet.Check and the reference FormFault; sheet.Copy; sameForm. -/
namespace Go.Proofs.YtgmcojnhpedpnaaGreat
open Go.RowKit

/-- What is wrong with a form. -/
def formErr (F : List Fld) (P : List Pag) : Int := if (rankR F).2.2 ≠ 0 then (rankR F).2.2 else pagesErr P F
/-- A form whose formulas are no greater than what is reckoned with. -/
def FldsOk (F : List Fld) : Prop := (∀ f ∈ F, f.source.nodes ≤ 1048576) ∧ ∀ f ∈ F, inS f.name ∧ ∀ s ∈ askN f.source, inS s
/-- A form as it is handed in. -/
def RFo (w : World) (B : Option Addr) (m d : Nat) (F : List Fld) (A : Option Addr) (n c : Nat) (P : List Pag) : Prop :=
  inB 112 m ∧ m ≤ d ∧ inB 120 n ∧ n ≤ c ∧ Sl w (old w) 9 (RFld w (old w)) B m F ∧ Sl w (old w) 8 (RPag w (old w)) A n P
theorem RFo.now {w w' : World} {B A : Option Addr} {m d n c : Nat} {F : List Fld} {P : List Pag} (h : RFo w B m d F A n c P) (hb : Below w.heap.size w w') : RFo w' B m d F A n c P :=
  ⟨h.1, h.2.1, h.2.2.1, h.2.2.2.1, h.2.2.2.2.1.nowN keeps_Fld hb, h.2.2.2.2.2.nowN keeps_Pag hb⟩
theorem rank_Of3 {l : List Fld} {lo : List Int} {lc : List ByteArray} {er : Int} (hr : rankR l = (lo, lc, er)) {w : World} {e : Ending} {w' : World} (h : RetRk w (rankR l) e w') :
    ∃ A c B d, e = .returned (.tuple #[.slice A lo.length c, .slice B lc.length d, .int .i64 er]) ∧ lo.length ≤ c ∧ lc.length ≤ d ∧ Sl w' (fresh w w') 1 RInt A lo.length lo ∧ Sl w' (fresh w w') 1 RStr B lc.length lc ∧ Below w.heap.size w w' := by
  rw [hr] at h; exact h

set_option maxRecDepth 100000 in
set_option maxHeartbeats 2000000 in
theorem sheet_Check (B : Option Addr) (m d : Nat) (F : List Fld) (A : Option Addr) (n c : Nat) (P : List Pag) (w : World) (hX : RFo w B m d F A n c P) (hO : FldsOk F) :
    Calls Tryz.prog 19 #[.agg #[.slice B m d, .slice A n c]] w (RetI w (formErr F P)) := by
  obtain ⟨lo, lc, er, hr⟩ : ∃ lo lc er, rankR F = (lo, lc, er) := ⟨_, _, _, rfl⟩
  have h1 := fun w (h : RFo w B m d F A n c P) => rank_Of F B m d w h.1 h.2.1 h.2.2.2.2.1 hO.1 hO.2
  have h2 := fun w (h : RFo w B m d F A n c P) => page_Check P A n c F B m d w (h.2.2.1.l (by decide)) h.2.2.2.1 h.1 h.2.2.2.2.2 h.2.2.2.2.1
  have HX := Lib.hid hX
  have HR := Lib.hid hr
  have hfe : formErr F P = if er ≠ 0 then er else pagesErr P F := by unfold formErr; rw [hr]
  clear hX hO hr
  by_cases he : er = 0
  · rw [hfe, if_neg (by simpa using he)]
    subst he
    clear hfe
    go_enter Tryz.func19, Tryz.ntmps19
    go_wp2_with fail
    refine (h1 _ (HX.out.now bel)).mono ?_; intro e w1 q1; obtain ⟨A1, c1, B1, d1, rfl, _, _, _, _, hb1⟩ := rank_Of3 HR.out q1; clear q1; obtain ⟨hc1, hf1⟩ := bcell hb1; (try simp only [World.heap_drewN, World.cell?_drewN, World.frozen?_drewN] at hc1 hf1); have hz1 := hb1.size; (try simp at hz1); (try (have hy1 := Nat.lt_of_succ_le hz1)); (try (have hx1 := Nat.lt_of_succ_lt hy1)); (first | refine szz6 w1 w (by omega) ?_ | refine szz5 w1 w (by omega) ?_ | refine szz4 w1 w (by omega) ?_ | refine szz3 w1 w (by omega) ?_ | refine szz2 w1 w (by omega) ?_ | refine szz1 w1 w (by omega) ?_ | refine szz0 w1 w (by omega) ?_ | refine szzn w1 w (by omega) ?_ | skip); intros
    go_wp2_with fail
    refine (h2 _ (HX.out.now bel)).mono ?_; rintro e w2 ⟨rfl, hb2⟩; obtain ⟨hc2, hf2⟩ := bcell hb2; (try simp only [World.heap_drewN, World.cell?_drewN, World.frozen?_drewN] at hc2 hf2); have hz2 := hb2.size; (try simp at hz2); (try (have hy2 := Nat.lt_of_succ_le hz2)); (try (have hx2 := Nat.lt_of_succ_lt hy2)); (first | refine szz6 w2 w (by omega) ?_ | refine szz5 w2 w (by omega) ?_ | refine szz4 w2 w (by omega) ?_ | refine szz3 w2 w (by omega) ?_ | refine szz2 w2 w (by omega) ?_ | refine szz1 w2 w (by omega) ?_ | refine szz0 w2 w (by omega) ?_ | refine szzn w2 w (by omega) ?_ | skip); intros; (first | refine szz6 w2 w1 (by omega) ?_ | refine szz5 w2 w1 (by omega) ?_ | refine szz4 w2 w1 (by omega) ?_ | refine szz3 w2 w1 (by omega) ?_ | refine szz2 w2 w1 (by omega) ?_ | refine szz1 w2 w1 (by omega) ?_ | refine szz0 w2 w1 (by omega) ?_ | refine szzn w2 w1 (by omega) ?_ | skip); intros
    go_wp2_with fail
    go_ret
    exact ⟨rfl, bel⟩
  · rw [hfe, if_pos he]
    have g1 : (er != 0) = true := by simpa using he
    clear hfe
    go_enter Tryz.func19, Tryz.ntmps19
    go_wp2_with fail
    refine (h1 _ (HX.out.now bel)).mono ?_; intro e w1 q1; obtain ⟨A1, c1, B1, d1, rfl, _, _, _, _, hb1⟩ := rank_Of3 HR.out q1; clear q1; obtain ⟨hc1, hf1⟩ := bcell hb1; (try simp only [World.heap_drewN, World.cell?_drewN, World.frozen?_drewN] at hc1 hf1); have hz1 := hb1.size; (try simp at hz1); (try (have hy1 := Nat.lt_of_succ_le hz1)); (try (have hx1 := Nat.lt_of_succ_lt hy1)); (first | refine szz6 w1 w (by omega) ?_ | refine szz5 w1 w (by omega) ?_ | refine szz4 w1 w (by omega) ?_ | refine szz3 w1 w (by omega) ?_ | refine szz2 w1 w (by omega) ?_ | refine szz1 w1 w (by omega) ?_ | refine szz0 w1 w (by omega) ?_ | refine szzn w1 w (by omega) ?_ | skip); intros
    go_wp2_with fail
    go_ret
    exact ⟨rfl, bel⟩

set_option maxRecDepth 100000 in
set_option maxHeartbeats 2000000 in
theorem ref_FormFault (B : Option Addr) (m d : Nat) (F : List Fld) (A : Option Addr) (n c : Nat) (P : List Pag) (w : World) (hX : RFo w B m d F A n c P) (hO : FldsOk F) :
    Calls Tryz.prog 14 #[.agg #[.slice B m d, .slice A n c]] w (RetI w (formErr F P)) := by
  obtain ⟨lo, lc, er, hr⟩ : ∃ lo lc er, rankR F = (lo, lc, er) := ⟨_, _, _, rfl⟩
  have h1 := fun w (h : RFo w B m d F A n c P) => ref_FieldRanks F B m d w h.1 h.2.2.2.2.1 hO.1 hO.2
  have h2 := fun w (h : RFo w B m d F A n c P) => ref_PagesFault P A n c F B m d w (h.2.2.1.l (by decide)) h.2.2.2.1 h.1 h.2.2.2.2.2 h.2.2.2.2.1
  have HX := Lib.hid hX
  have HR := Lib.hid hr
  have hfe : formErr F P = if er ≠ 0 then er else pagesErr P F := by unfold formErr; rw [hr]
  clear hX hO hr
  by_cases he : er = 0
  · rw [hfe, if_neg (by simpa using he)]
    subst he
    clear hfe
    go_enter Tryz.func14, Tryz.ntmps14
    go_wp2_with fail
    refine (h1 _ (HX.out.now bel)).mono ?_; intro e w1 q1; obtain ⟨A1, c1, B1, d1, rfl, _, _, _, _, hb1⟩ := rank_Of3 HR.out q1; clear q1; obtain ⟨hc1, hf1⟩ := bcell hb1; (try simp only [World.heap_drewN, World.cell?_drewN, World.frozen?_drewN] at hc1 hf1); have hz1 := hb1.size; (try simp at hz1); (try (have hy1 := Nat.lt_of_succ_le hz1)); (try (have hx1 := Nat.lt_of_succ_lt hy1)); (first | refine szz6 w1 w (by omega) ?_ | refine szz5 w1 w (by omega) ?_ | refine szz4 w1 w (by omega) ?_ | refine szz3 w1 w (by omega) ?_ | refine szz2 w1 w (by omega) ?_ | refine szz1 w1 w (by omega) ?_ | refine szz0 w1 w (by omega) ?_ | refine szzn w1 w (by omega) ?_ | skip); intros
    go_wp2_with fail
    refine (h2 _ (HX.out.now bel)).mono ?_; rintro e w2 ⟨rfl, hb2⟩; obtain ⟨hc2, hf2⟩ := bcell hb2; (try simp only [World.heap_drewN, World.cell?_drewN, World.frozen?_drewN] at hc2 hf2); have hz2 := hb2.size; (try simp at hz2); (try (have hy2 := Nat.lt_of_succ_le hz2)); (try (have hx2 := Nat.lt_of_succ_lt hy2)); (first | refine szz6 w2 w (by omega) ?_ | refine szz5 w2 w (by omega) ?_ | refine szz4 w2 w (by omega) ?_ | refine szz3 w2 w (by omega) ?_ | refine szz2 w2 w (by omega) ?_ | refine szz1 w2 w (by omega) ?_ | refine szz0 w2 w (by omega) ?_ | refine szzn w2 w (by omega) ?_ | skip); intros; (first | refine szz6 w2 w1 (by omega) ?_ | refine szz5 w2 w1 (by omega) ?_ | refine szz4 w2 w1 (by omega) ?_ | refine szz3 w2 w1 (by omega) ?_ | refine szz2 w2 w1 (by omega) ?_ | refine szz1 w2 w1 (by omega) ?_ | refine szz0 w2 w1 (by omega) ?_ | refine szzn w2 w1 (by omega) ?_ | skip); intros
    go_wp2_with fail
    go_ret
    exact ⟨rfl, bel⟩
  · rw [hfe, if_pos he]
    have g1 : (er != 0) = true := by simpa using he
    clear hfe
    go_enter Tryz.func14, Tryz.ntmps14
    go_wp2_with fail
    refine (h1 _ (HX.out.now bel)).mono ?_; intro e w1 q1; obtain ⟨A1, c1, B1, d1, rfl, _, _, _, _, hb1⟩ := rank_Of3 HR.out q1; clear q1; obtain ⟨hc1, hf1⟩ := bcell hb1; (try simp only [World.heap_drewN, World.cell?_drewN, World.frozen?_drewN] at hc1 hf1); have hz1 := hb1.size; (try simp at hz1); (try (have hy1 := Nat.lt_of_succ_le hz1)); (try (have hx1 := Nat.lt_of_succ_lt hy1)); (first | refine szz6 w1 w (by omega) ?_ | refine szz5 w1 w (by omega) ?_ | refine szz4 w1 w (by omega) ?_ | refine szz3 w1 w (by omega) ?_ | refine szz2 w1 w (by omega) ?_ | refine szz1 w1 w (by omega) ?_ | refine szz0 w1 w (by omega) ?_ | refine szzn w1 w (by omega) ?_ | skip); intros
    go_wp2_with fail
    go_ret
    exact ⟨rfl, bel⟩

set_option maxRecDepth 100000 in
set_option maxHeartbeats 4000000 in
theorem sheet_Copy (B : Option Addr) (m d : Nat) (F : List Fld) (A : Option Addr) (n c : Nat) (P : List Pag) (w : World) (hX : RFo w B m d F A n c P) :
    Calls Tryz.prog 20 #[.agg #[.slice B m d, .slice A n c]] w (RetFrm w F P) := by
  have h1 := fun w (h : RFo w B m d F A n c P) => field_Copy B m d F w h.1 h.2.2.2.2.1
  have h2 := fun w (h : RFo w B m d F A n c P) => page_Copy A n c P w h.2.2.1 h.2.2.2.2.2
  have HX := Lib.hid hX
  have HL := Lib.hid (And.intro hX.2.2.2.2.1.len hX.2.2.2.2.2.len)
  clear hX
  go_enter Tryz.func20, Tryz.ntmps20
  go_wp2_with fail
  refine wp_world ?_; intro W0 hW0
  have hS0 : W0.drew.cell? ⟨w.heap.size, 0, none⟩ = some (.slice B m d) ∧ W0.drew.cell? ⟨w.heap.size, 1, none⟩ = some (.slice A n c) := by rw [hW0]; exact ⟨by go_simp, by go_simp⟩
  have hB0 : Below w.heap.size w W0.drew := by rw [hW0]; exact bel
  have hZ0 : W0.heap.size = w.heap.size + 2 := by rw [hW0]; simp
  have hc0 : W0.cell? ⟨w.heap.size + 1, 0, none⟩ = some (.slice none 0 0) ∧ W0.cell? ⟨w.heap.size + 1, 1, none⟩ = some (.slice none 0 0) := by rw [hW0]; exact ⟨by go_simp, by go_simp⟩
  have hf0 : W0.frozen? ⟨w.heap.size + 1, 0, none⟩ = false ∧ W0.frozen? ⟨w.heap.size + 1, 1, none⟩ = false := by rw [hW0]; exact ⟨by go_simp, by go_simp⟩
  clear hW0
  refine wp_region_T (fun w' => w'.cell? ⟨w.heap.size, 0, none⟩ = some (.slice B m d) ∧ w'.cell? ⟨w.heap.size, 1, none⟩ = some (.slice A n c)) 7 (by kernel_rfl) ?_
  refine wpAnyT_take (i := 0) (oi := _) (v := ?_) rfl (by kernel_rfl) (fun _ _ _ h => h) hS0 (by rfl) ?_ ?_
  rotate_left
  · intro w' hS'; (try dsimp only at hS'); (try go_split_ands); go_simp; (try rw [if_neg (by omega)]); try with_reducible rfl
  simp only [Act.put, List.setIfInBounds_toArray, List.set_cons_zero, List.set_cons_succ]
  refine wpAnyT_take (i := 1) (oi := _) (v := ?_) rfl (by kernel_rfl) (fun _ _ _ h => h) hS0 (by rfl) ?_ ?_
  rotate_left
  · intro w' hS'; (try dsimp only at hS'); (try go_split_ands); go_simp; (try rw [if_neg (by omega)]); try with_reducible rfl
  simp only [Act.put, List.setIfInBounds_toArray, List.set_cons_zero, List.set_cons_succ]
  refine wpAnyT_take (i := 3) (oi := _) (v := ?_) rfl (by kernel_rfl) (fun _ _ _ h => h) hS0 (by rfl) ?_ ?_
  rotate_left
  · intro w' hS'; (try dsimp only at hS'); (try go_split_ands); go_simp; (try rw [if_neg (by omega)]); try with_reducible rfl
  simp only [Act.put, List.setIfInBounds_toArray, List.set_cons_zero, List.set_cons_succ]
  refine wpAnyT_take (i := 4) (oi := _) (v := ?_) rfl (by kernel_rfl) (fun _ _ _ h => h) hS0 (by rfl) ?_ ?_
  rotate_left
  · intro w' hS'; (try dsimp only at hS'); (try go_split_ands); go_simp; (try rw [if_neg (by omega)]); try with_reducible rfl
  simp only [Act.put, List.setIfInBounds_toArray, List.set_cons_zero, List.set_cons_succ]
  refine wpAnyT_one (i := 2) (o := _) rfl (by kernel_rfl) (fun K hK => ?_)
  · go_simp
    go_at_call 45; refine (h1 _ (HX.out.now hB0)).mono ?_; rintro e w3 ⟨A1, c1, rfl, hq1, hs1', hb3⟩
    have hS3 := And.intro (cell_keep hS0.1 hb3) (cell_keep hS0.2 hb3)
    have hw3 : Below W0.drew.heap.size W0.drew w3 := hb3
    have hB3 : Below w.heap.size w w3 := below_step hB0 hb3 (by simp [heap_drew]; omega)
    have hz3 : W0.heap.size ≤ w3.heap.size := by have := hb3.size; simpa [heap_drew] using this
    refine hK.out _ _ (fun _ => hS3) ?_
    clear hK K
    try simp only [Act.put, List.setIfInBounds_toArray, List.set_cons_zero, List.set_cons_succ]
    refine wpAnyT_one (i := 5) (o := _) rfl (by kernel_rfl) (fun K hK => ?_)
    go_simp
    go_at_call 46; refine (h2 _ (HX.out.now hB3)).mono ?_; rintro e wE ⟨A2, c2, rfl, hq2, hs2', hbE⟩
    have hSE := And.intro (cell_keep hS3.1 hbE) (cell_keep hS3.2 hbE)
    have hBE : Below w.heap.size w wE := below_step hB3 hbE (by omega)
    have hZE : W0.heap.size ≤ wE.heap.size := Nat.le_trans hz3 hbE.size
    have hWE : Below W0.drew.heap.size W0.drew wE := below_step hw3 hbE (by simp [heap_drew]; omega)
    have hs1 := hs1'.keepN keeps_Fld (w' := wE) (S' := since W0.heap.size wE) (fun b hb => ⟨⟨by have h9 := hb.1; simp [heap_drew] at h9; omega, Nat.lt_of_lt_of_le hb.2 hbE.size⟩, hbE.block b hb.2⟩)
    have hs2 := hs2'.keepN keeps_Pag (w' := wE) (S' := since W0.heap.size wE) (fun b hb => ⟨⟨by have h9 := hb.1; omega, hb.2⟩, rfl⟩)
    clear hs1' hs2'
    refine hK.out _ _ (fun _ => hSE) ?_
    clear hK K
    try simp only [Act.put, List.setIfInBounds_toArray, List.set_cons_zero, List.set_cons_succ]
    refine wpAnyT_take (i := 6) (oi := _) (v := ?_) rfl (by kernel_rfl) (fun _ _ _ h => h) hSE (by rfl) ?_ ?_
    rotate_left
    · intro w' hS'; (try dsimp only at hS'); (try go_split_ands); go_simp; (try rw [if_neg (by omega)]); try with_reducible rfl
    simp only [Act.put, List.setIfInBounds_toArray, List.set_cons_zero, List.set_cons_succ]
    have ho1 : w.heap.size + 1 < W0.drew.heap.size := by simp [heap_drew]; omega
    have z0 := (hWE.cell (p := ⟨w.heap.size + 1, 0, none⟩) ho1).trans hc0.1
    have z1 := (hWE.cell (p := ⟨w.heap.size + 1, 1, none⟩) ho1).trans hc0.2
    have f0 := (hWE.frozen (p := ⟨w.heap.size + 1, 0, none⟩) ho1).trans hf0.1
    have f1 := (hWE.frozen (p := ⟨w.heap.size + 1, 1, none⟩) ho1).trans hf0.2
    have hlE : w.heap.size + 1 < wE.heap.size := by omega
    refine wpAnyT_one (i := 7) (o := _) rfl (by kernel_rfl) (fun K hK => ?_)
    go_simp
    refine hK.out _ _ (fun h => absurd h (by decide)) ?_
    clear hK K
    refine wpAnyT_done (by kernel_rfl) ?_ _
    try simp only [Act.put, List.setIfInBounds_toArray, List.set_cons_zero, List.set_cons_succ]
    go_wp2_with fail
    refine bodyPost_ret (v := .agg #[.slice A1 F.length c1, .slice A2 P.length c2]) (by first | (simp [results, Tryz.results20, go_sem, z0, z1]; done) | (simp [results, Tryz.results20, go_sem, *]; done)) rfl ?_
    have hset : ∀ b, w.heap.size + 2 ≤ b → ∀ u v, ((wE.setCell ⟨w.heap.size + 1, 0, none⟩ u).setCell ⟨w.heap.size + 1, 1, none⟩ v).heap[b]? = wE.heap[b]? := by
      intro b hb u v
      iterate 2 rw [heap_setCell_other _ _ _ _ (by simp; omega)]
    exact ⟨A1, c1, A2, c2, rfl, hq1, hq2, hs1.keepN keeps_Fld (fun b hb => ⟨⟨by have := hb.1; omega, by simpa using hb.2⟩, hset b (by have := hb.1; omega) _ _⟩), hs2.keepN keeps_Pag (fun b hb => ⟨⟨by have := hb.1; omega, by simpa using hb.2⟩, hset b (by have := hb.1; omega) _ _⟩), below_set (below_set hBE (by simp)) (by simp)⟩
set_option maxRecDepth 100000 in
set_option maxHeartbeats 1000000 in
theorem same_Form (F : List Fld) (P : List Pag) (A1 A2 A3 A4 : Option Addr) (c1 c2 c3 c4 : Nat) (w : World) (hF : inL F.length) (hP : inL P.length) (h1 : Sl w (old w) 9 (RFld w (old w)) A1 F.length F) (h2 : Sl w (old w) 8 (RPag w (old w)) A2 P.length P)
    (h3 : Sl w (old w) 9 (RFld w (old w)) A3 F.length F) (h4 : Sl w (old w) 8 (RPag w (old w)) A4 P.length P) :
    Calls Tryz.prog 22 #[.agg #[.slice A1 F.length c1, .slice A2 P.length c2], .agg #[.slice A3 F.length c3, .slice A4 P.length c4]] w (RetB w true) := by
  have HH := Lib.hid (And.intro h1 (And.intro h2 (And.intro h3 h4)))
  clear h1 h2 h3 h4
  go_enter Tryz.func22, Tryz.ntmps22
  go_wp2_with fail
  refine (same_Fields F A1 F.length c1 A3 c3 _ hF (HH.out.1.nowN keeps_Fld bel) (HH.out.2.2.1.nowN keeps_Fld bel)).mono ?_; rintro e w1 ⟨rfl, hb1⟩; obtain ⟨hc1, hf1⟩ := bcell hb1; (try simp only [World.heap_drewN, World.cell?_drewN, World.frozen?_drewN] at hc1 hf1); have hz1 := hb1.size; (try simp at hz1); (try (have hy1 := Nat.lt_of_succ_le hz1)); (try (have hx1 := Nat.lt_of_succ_lt hy1)); (first | refine szz6 w1 w (by omega) ?_ | refine szz5 w1 w (by omega) ?_ | refine szz4 w1 w (by omega) ?_ | refine szz3 w1 w (by omega) ?_ | refine szz2 w1 w (by omega) ?_ | refine szz1 w1 w (by omega) ?_ | refine szz0 w1 w (by omega) ?_ | refine szzn w1 w (by omega) ?_ | skip); intros
  go_wp2_with fail
  refine (same_Pages P A2 P.length c2 A4 c4 _ hP (HH.out.2.1.nowN keeps_Pag bel) (HH.out.2.2.2.nowN keeps_Pag bel)).mono ?_; rintro e w2 ⟨rfl, hb2⟩; obtain ⟨hc2, hf2⟩ := bcell hb2; (try simp only [World.heap_drewN, World.cell?_drewN, World.frozen?_drewN] at hc2 hf2); have hz2 := hb2.size; (try simp at hz2); (try (have hy2 := Nat.lt_of_succ_le hz2)); (try (have hx2 := Nat.lt_of_succ_lt hy2)); (first | refine szz6 w2 w (by omega) ?_ | refine szz5 w2 w (by omega) ?_ | refine szz4 w2 w (by omega) ?_ | refine szz3 w2 w (by omega) ?_ | refine szz2 w2 w (by omega) ?_ | refine szz1 w2 w (by omega) ?_ | refine szz0 w2 w (by omega) ?_ | refine szzn w2 w (by omega) ?_ | skip); intros; (first | refine szz6 w2 w1 (by omega) ?_ | refine szz5 w2 w1 (by omega) ?_ | refine szz4 w2 w1 (by omega) ?_ | refine szz3 w2 w1 (by omega) ?_ | refine szz2 w2 w1 (by omega) ?_ | refine szz1 w2 w1 (by omega) ?_ | refine szz0 w2 w1 (by omega) ?_ | refine szzn w2 w1 (by omega) ?_ | skip); intros
  go_wp2_with fail
  go_ret
  exact ⟨rfl, bel⟩
end Go.Proofs.YtgmcojnhpedpnaaGreat
/- The law FormChecks returns true for every input of bulk at most 1048576: sheet.Check and sheet.Copy agree with the references. -/
namespace Go.Proofs.YtgmcojnhpedpnaaGreat
open Go.ChangeShapes Go.WideShapes Go.ChangeAt Go.RowKit

mutual
theorem bulk_nodes : ∀ x : Exp, x.nodes ≤ x.bulk
  | .mk op v nm args => by
    have := bulks_nodes args
    simp only [Exp.bulk, Exp.nodes]
    omega
theorem bulks_nodes : ∀ l : List Exp, nodesL l ≤ Exp.bulk.bulks l
  | [] => by simp [nodesL]
  | a :: l => by
    have := bulk_nodes a
    have := bulks_nodes l
    simp only [Exp.bulk.bulks, nodesL]
    omega
end
theorem flds_nodes : ∀ l : List Fld, (l.map Fld.bulk).sum ≤ 1048576 → ∀ f ∈ l, f.source.nodes ≤ 1048576
  | [], _ => fun f hf => absurd hf List.not_mem_nil
  | a :: l, h => by
    simp only [List.map_cons, List.sum_cons] at h
    intro f hf
    rcases List.mem_cons.1 hf with rfl | hf
    · have := bulk_nodes f.source
      have e : f.bulk = f.name.size + f.source.bulk + 1 := rfl
      omega
    · exact flds_nodes l (by omega) f hf
theorem Sl_each {α : Type} {w : World} {S : Nat → Prop} {size : Nat} {R : List Value → α → Prop} {A : Option Addr} {n : Nat} {l : List α} (h : Sl w S size R A n l) : ∀ a ∈ l, ∃ cs, R cs a := by
  intro a ha
  obtain ⟨i, hi, rfl⟩ := List.mem_iff_getElem.1 ha
  have hn : 0 < n := by rw [← h.1]; omega
  obtain ⟨b, o, e, hs, hc⟩ := h.2 hn
  obtain ⟨cs, h1, _⟩ := hc i l[i] (List.getElem?_eq_getElem hi)
  exact ⟨cs, h1⟩
theorem flds_inS {w : World} {A : Option Addr} {n : Nat} {l : List Fld} (h : Sl w (old w) 9 (RFld w (old w)) A n l) : ∀ f ∈ l, inS f.name ∧ ∀ s ∈ askN f.source, inS s := by
  intro f hf
  obtain ⟨cs, hr⟩ := Sl_each h f hf
  exact ⟨hr.1, askN_inS hr.2.2.2.choose_spec.2⟩

set_option maxRecDepth 100000 in
set_option maxHeartbeats 4000000 in
theorem law_FormChecks (w : World) (cs : List Value) (f : Frm) (hf : RFrm w (old w) cs f) (hb : f.bulk ≤ 1048576) :
    Calls Tryz.prog 5 #[.agg cs.toArray] w fun e w' => e = .returned (.bool true) ∧ Below w.heap.size w w' := by
  obtain ⟨A, n, c, A2, n2, c2, rfl, hn, hnc, hn2, hnc2, hs, hs2⟩ := hf
  have hO : FldsOk f.fields := ⟨flds_nodes f.fields (by unfold Frm.bulk at hb; omega), flds_inS hs⟩
  have hX : RFo w A n c f.fields A2 n2 c2 f.pages := ⟨hn, hnc, hn2, hnc2, hs, hs2⟩
  have h1 := fun w h => sheet_Check A n c f.fields A2 n2 c2 f.pages w h hO
  have h2 := fun w (h : RFo w A n c f.fields A2 n2 c2 f.pages) => sheet_Copy A n c f.fields A2 n2 c2 f.pages w h
  have h3 := fun w h => ref_FormFault A n c f.fields A2 n2 c2 f.pages w h hO
  have h4 := fun w (h : RFo w A n c f.fields A2 n2 c2 f.pages) => ref_FormCopy A n c f.fields A2 n2 c2 f.pages w h.1 h.2.2.2.2.1 h.2.2.1 h.2.2.2.2.2
  have hFl : inL f.fields.length := by rw [hs.len]; exact hn.l (by decide)
  have hPl : inL f.pages.length := by rw [hs2.len]; exact hn2.l (by decide)
  have HX := Lib.hid hX
  clear hs hs2 hX hO hn hn2 hnc hnc2 hb
  generalize formErr f.fields f.pages = er at *
  generalize f.fields = F at *
  generalize f.pages = P at *
  go_enter Tryz.func5, Tryz.ntmps5
  go_wp2_with fail
  refine (h1 _ (HX.out.now bel)).mono ?_; rintro e w1 ⟨rfl, hb1⟩; obtain ⟨hc1, hf1⟩ := bcell hb1; (try simp only [World.heap_drewN, World.cell?_drewN, World.frozen?_drewN] at hc1 hf1); have hz1 := hb1.size; (try simp at hz1); (try (have hy1 := Nat.lt_of_succ_le hz1)); (try (have hx1 := Nat.lt_of_succ_lt hy1)); (first | refine szz6 w1 w (by omega) ?_ | refine szz5 w1 w (by omega) ?_ | refine szz4 w1 w (by omega) ?_ | refine szz3 w1 w (by omega) ?_ | refine szz2 w1 w (by omega) ?_ | refine szz1 w1 w (by omega) ?_ | refine szz0 w1 w (by omega) ?_ | refine szzn w1 w (by omega) ?_ | skip); intros
  go_wp2_with fail
  refine (h2 _ (HX.out.now bel)).mono ?_; rintro e w2 ⟨A3, c3, A4, c4, rfl, _, _, s3, s4, hb2⟩; obtain ⟨hc2, hf2⟩ := bcell hb2; (try simp only [World.heap_drewN, World.cell?_drewN, World.frozen?_drewN] at hc2 hf2); have hz2 := hb2.size; (try simp at hz2); (try (have hy2 := Nat.lt_of_succ_le hz2)); (try (have hx2 := Nat.lt_of_succ_lt hy2)); (first | refine szz6 w2 w (by omega) ?_ | refine szz5 w2 w (by omega) ?_ | refine szz4 w2 w (by omega) ?_ | refine szz3 w2 w (by omega) ?_ | refine szz2 w2 w (by omega) ?_ | refine szz1 w2 w (by omega) ?_ | refine szz0 w2 w (by omega) ?_ | refine szzn w2 w (by omega) ?_ | skip); intros; (first | refine szz6 w2 w1 (by omega) ?_ | refine szz5 w2 w1 (by omega) ?_ | refine szz4 w2 w1 (by omega) ?_ | refine szz3 w2 w1 (by omega) ?_ | refine szz2 w2 w1 (by omega) ?_ | refine szz1 w2 w1 (by omega) ?_ | refine szz0 w2 w1 (by omega) ?_ | refine szzn w2 w1 (by omega) ?_ | skip); intros
  have HS2 := Lib.hid (And.intro s3 s4)
  clear s3 s4
  go_wp2_with fail
  refine (h3 _ (HX.out.now bel)).mono ?_; rintro e w3 ⟨rfl, hb3⟩; obtain ⟨hc3, hf3⟩ := bcell hb3; (try simp only [World.heap_drewN, World.cell?_drewN, World.frozen?_drewN] at hc3 hf3); have hz3 := hb3.size; (try simp at hz3); (try (have hy3 := Nat.lt_of_succ_le hz3)); (try (have hx3 := Nat.lt_of_succ_lt hy3)); (first | refine szz6 w3 w (by omega) ?_ | refine szz5 w3 w (by omega) ?_ | refine szz4 w3 w (by omega) ?_ | refine szz3 w3 w (by omega) ?_ | refine szz2 w3 w (by omega) ?_ | refine szz1 w3 w (by omega) ?_ | refine szz0 w3 w (by omega) ?_ | refine szzn w3 w (by omega) ?_ | skip); intros; (first | refine szz6 w3 w1 (by omega) ?_ | refine szz5 w3 w1 (by omega) ?_ | refine szz4 w3 w1 (by omega) ?_ | refine szz3 w3 w1 (by omega) ?_ | refine szz2 w3 w1 (by omega) ?_ | refine szz1 w3 w1 (by omega) ?_ | refine szz0 w3 w1 (by omega) ?_ | refine szzn w3 w1 (by omega) ?_ | skip); intros; (first | refine szz6 w3 w2 (by omega) ?_ | refine szz5 w3 w2 (by omega) ?_ | refine szz4 w3 w2 (by omega) ?_ | refine szz3 w3 w2 (by omega) ?_ | refine szz2 w3 w2 (by omega) ?_ | refine szz1 w3 w2 (by omega) ?_ | refine szz0 w3 w2 (by omega) ?_ | refine szzn w3 w2 (by omega) ?_ | skip); intros
  go_wp2_with fail
  refine (h4 _ (HX.out.now bel)).mono ?_; rintro e w4 ⟨A5, c5, A6, c6, rfl, _, _, s5, s6, hb4⟩; obtain ⟨hc4, hf4⟩ := bcell hb4; (try simp only [World.heap_drewN, World.cell?_drewN, World.frozen?_drewN] at hc4 hf4); have hz4 := hb4.size; (try simp at hz4); (try (have hy4 := Nat.lt_of_succ_le hz4)); (try (have hx4 := Nat.lt_of_succ_lt hy4)); (first | refine szz6 w4 w (by omega) ?_ | refine szz5 w4 w (by omega) ?_ | refine szz4 w4 w (by omega) ?_ | refine szz3 w4 w (by omega) ?_ | refine szz2 w4 w (by omega) ?_ | refine szz1 w4 w (by omega) ?_ | refine szz0 w4 w (by omega) ?_ | refine szzn w4 w (by omega) ?_ | skip); intros; (first | refine szz6 w4 w1 (by omega) ?_ | refine szz5 w4 w1 (by omega) ?_ | refine szz4 w4 w1 (by omega) ?_ | refine szz3 w4 w1 (by omega) ?_ | refine szz2 w4 w1 (by omega) ?_ | refine szz1 w4 w1 (by omega) ?_ | refine szz0 w4 w1 (by omega) ?_ | refine szzn w4 w1 (by omega) ?_ | skip); intros; (first | refine szz6 w4 w2 (by omega) ?_ | refine szz5 w4 w2 (by omega) ?_ | refine szz4 w4 w2 (by omega) ?_ | refine szz3 w4 w2 (by omega) ?_ | refine szz2 w4 w2 (by omega) ?_ | refine szz1 w4 w2 (by omega) ?_ | refine szz0 w4 w2 (by omega) ?_ | refine szzn w4 w2 (by omega) ?_ | skip); intros; (first | refine szz6 w4 w3 (by omega) ?_ | refine szz5 w4 w3 (by omega) ?_ | refine szz4 w4 w3 (by omega) ?_ | refine szz3 w4 w3 (by omega) ?_ | refine szz2 w4 w3 (by omega) ?_ | refine szz1 w4 w3 (by omega) ?_ | refine szz0 w4 w3 (by omega) ?_ | refine szzn w4 w3 (by omega) ?_ | skip); intros
  have HS4 := Lib.hid (And.intro s5 s6)
  clear s5 s6
  go_wp2_with fail
  refine (same_Form F P A3 A4 A5 A6 c3 c4 c5 c6 _ hFl hPl (HS2.out.1.keepN keeps_Fld (fun b hb => ⟨Nat.lt_of_lt_of_le hb.2 (bel : Below w2.heap.size w2 _).size, (bel : Below w2.heap.size w2 _).block b hb.2⟩)) (HS2.out.2.keepN keeps_Pag (fun b hb => ⟨Nat.lt_of_lt_of_le hb.2 (bel : Below w2.heap.size w2 _).size, (bel : Below w2.heap.size w2 _).block b hb.2⟩)) (HS4.out.1.keepN keeps_Fld (fun b hb => ⟨Nat.lt_of_lt_of_le hb.2 (bel : Below w4.heap.size w4 _).size, (bel : Below w4.heap.size w4 _).block b hb.2⟩)) (HS4.out.2.keepN keeps_Pag (fun b hb => ⟨Nat.lt_of_lt_of_le hb.2 (bel : Below w4.heap.size w4 _).size, (bel : Below w4.heap.size w4 _).block b hb.2⟩))).mono ?_; rintro e w5 ⟨rfl, hb5⟩; obtain ⟨hc5, hf5⟩ := bcell hb5; (try simp only [World.heap_drewN, World.cell?_drewN, World.frozen?_drewN] at hc5 hf5); have hz5 := hb5.size; (try simp at hz5); (try (have hy5 := Nat.lt_of_succ_le hz5)); (try (have hx5 := Nat.lt_of_succ_lt hy5)); (first | refine szz6 w5 w (by omega) ?_ | refine szz5 w5 w (by omega) ?_ | refine szz4 w5 w (by omega) ?_ | refine szz3 w5 w (by omega) ?_ | refine szz2 w5 w (by omega) ?_ | refine szz1 w5 w (by omega) ?_ | refine szz0 w5 w (by omega) ?_ | refine szzn w5 w (by omega) ?_ | skip); intros; (first | refine szz6 w5 w1 (by omega) ?_ | refine szz5 w5 w1 (by omega) ?_ | refine szz4 w5 w1 (by omega) ?_ | refine szz3 w5 w1 (by omega) ?_ | refine szz2 w5 w1 (by omega) ?_ | refine szz1 w5 w1 (by omega) ?_ | refine szz0 w5 w1 (by omega) ?_ | refine szzn w5 w1 (by omega) ?_ | skip); intros; (first | refine szz6 w5 w2 (by omega) ?_ | refine szz5 w5 w2 (by omega) ?_ | refine szz4 w5 w2 (by omega) ?_ | refine szz3 w5 w2 (by omega) ?_ | refine szz2 w5 w2 (by omega) ?_ | refine szz1 w5 w2 (by omega) ?_ | refine szz0 w5 w2 (by omega) ?_ | refine szzn w5 w2 (by omega) ?_ | skip); intros; (first | refine szz6 w5 w3 (by omega) ?_ | refine szz5 w5 w3 (by omega) ?_ | refine szz4 w5 w3 (by omega) ?_ | refine szz3 w5 w3 (by omega) ?_ | refine szz2 w5 w3 (by omega) ?_ | refine szz1 w5 w3 (by omega) ?_ | refine szz0 w5 w3 (by omega) ?_ | refine szzn w5 w3 (by omega) ?_ | skip); intros; (first | refine szz6 w5 w4 (by omega) ?_ | refine szz5 w5 w4 (by omega) ?_ | refine szz4 w5 w4 (by omega) ?_ | refine szz3 w5 w4 (by omega) ?_ | refine szz2 w5 w4 (by omega) ?_ | refine szz1 w5 w4 (by omega) ?_ | refine szz0 w5 w4 (by omega) ?_ | refine szzn w5 w4 (by omega) ?_ | skip); intros
  go_wp2_with fail
  go_ret
  exact ⟨rfl, bel⟩
set_option maxRecDepth 100000 in
theorem FormChecksUpto_lifted (os : Os) (started : os.Started) (H : Type) (enc : TypeId × Value → H) (FS : Stop.Interp) :
    ReturnsInHanded {} Tryz.checked os 5 .any ((Rows.OpenSpec.upto Rows.formChecksSpec).pre6 enc Tryz.checked.prog Tryz.f5 Rows.formChecksUptoRow.domain false) (((Rows.OpenSpec.upto Rows.formChecksSpec).at FS).post enc Tryz.checked.prog Tryz.f5 false true false false) := by
  refine law_lifted_upto (s := Rows.formChecksSpec) (FS := FS) started (by kernel_rfl) Tryz.func5 (by rw [Tryz.params5]; exact of_decide_eq_true (by kernel_rfl)) rfl rfl
    (fun ds hl => by rw [show Tryz.f5.params.size = 1 from rfl] at hl; match ds, hl with | [d0], _ => rfl)
    (OpenSpec.witness (enc := enc) (C := Tryz.checked) (s := Rows.OpenSpec.upto Rows.formChecksSpec) (k := Rows.uptoSmall) rfl false ⟨#[], #[.agg #[.slice none 0 0, .slice none 0 0]], []⟩ 8 (by kernel_rfl) (by kernel_rfl) (by kernel_rfl) (x := ([.agg [.nil, .nil]], [], [])) (by kernel_rfl) rfl (by kernel_rfl)) ?_
  intro W b args ds p hA hval hsz hbulk
  rw [Tryz.params5] at hA hval hsz
  obtain ⟨v0, vs0, d0, ds0, p0, q0, hargs, rfl, rfl, h0, r0⟩ := trodAll_cons hA
  obtain ⟨rfl, rfl, rfl⟩ := trodAll_nil r0
  have hargs' : args = #[v0] := by apply Array.toList_inj.1; simpa using hargs
  subst hargs'
  have w0 := weightsEach_at _ _ hsz 0 _ _ rfl rfl
  obtain ⟨cs0, a0, rfl, s0, m0⟩ := arg_struct dec_Frm Tryz.underlying40 (hval 0 40 _ rfl rfl) h0 w0
  simp only [Rows.uptoBulkAll] at hbulk
  exact law_FormChecks W cs0 a0 s0 (Nat.le_trans m0 (by omega))
theorem FormChecksUpto_holds : Rows.FormChecksUptoSaid :=
  OpenClaim.holds_of_cond 5 Tryz.f5 rfl rfl rfl rfl rfl rfl rfl ⟨rfl, rfl, rfl, rfl, rfl⟩ rfl rfl rfl rfl rfl (by kernel_rfl) Tryz.func5 (by kernel_rfl)
    (of_decide_eq_true (by kernel_rfl)) (by unfold Func.isWrapper; rw [if_neg (of_decide_eq_false (by kernel_rfl))]; exact ⟨rfl, rfl⟩)
    (fun os started H enc _ FS => FormChecksUpto_lifted os started H enc FS)
end Go.Proofs.YtgmcojnhpedpnaaGreat
