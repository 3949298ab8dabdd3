/- Texts merged (mergeh.py): Frm FrmT LFormTells. -/
import Derived.Test.YtgmcojnhpedpnaaGreatRnk7
import Derived.Test.YtgmcojnhpedpnaaGreatPCk
import Derived.Test.YtgmcojnhpedpnaaGreatCop3
import Derived.Test.YtgmcojnhpedpnaaGreatSam2
import Derived.Test.YtgmcojnhpedpnaaGreatSamf
import Derived.Test.YtgmcojnhpedpnaaGreatPag1
import Derived.Test.YtgmcojnhpedpnaaGreatDecs
import Derived.Test.YtgmcojnhpedpnaaGreatSame1
/- sheet.Check and the reference FormFault; sheet.Copy; sameForm. -/
namespace Go.Proofs.YtgmcojnhpedpnaaGreat
open Go.RowKit

/-- What is wrong with a form. -/
def formErr (F : List Fld) (P : List Pag) : Int := if (rankR F).2.2 ≠ 0 then (rankR F).2.2 else pagesErr P F
/-- A form whose formulas are no greater than what is reckoned with. -/
def FldsOk (F : List Fld) : Prop := (∀ f ∈ F, f.source.nodes ≤ 1048576) ∧ ∀ f ∈ F, inS f.name ∧ ∀ s ∈ askN f.source, inS s
/-- A form as it is handed in. -/
def RFo (w : World) (B : Option Addr) (m d : Nat) (F : List Fld) (A : Option Addr) (n c : Nat) (P : List Pag) : Prop :=
  inB 112 m ∧ m ≤ d ∧ inB 120 n ∧ n ≤ c ∧ Sl w (old w) 9 (RFld w (old w)) B m F ∧ Sl w (old w) 8 (RPag w (old w)) A n P
theorem RFo.now {w w' : World} {B A : Option Addr} {m d n c : Nat} {F : List Fld} {P : List Pag} (h : RFo w B m d F A n c P) (hb : Below w.heap.size w w') : RFo w' B m d F A n c P :=
  ⟨h.1, h.2.1, h.2.2.1, h.2.2.2.1, h.2.2.2.2.1.nowN keeps_Fld hb, h.2.2.2.2.2.nowN keeps_Pag hb⟩
theorem rank_Of3 {l : List Fld} {lo : List Int} {lc : List ByteArray} {er : Int} (hr : rankR l = (lo, lc, er)) {w : World} {e : Ending} {w' : World} (h : RetRk w (rankR l) e w') :
    ∃ A c B d, e = .returned (.tuple #[.slice A lo.length c, .slice B lc.length d, .int .i64 er]) ∧ lo.length ≤ c ∧ lc.length ≤ d ∧ Sl w' (fresh w w') 1 RInt A lo.length lo ∧ Sl w' (fresh w w') 1 RStr B lc.length lc ∧ Below w.heap.size w w' := by
  rw [hr] at h; exact h

set_option maxRecDepth 100000 in
set_option maxHeartbeats 2000000 in
theorem sheet_Check (B : Option Addr) (m d : Nat) (F : List Fld) (A : Option Addr) (n c : Nat) (P : List Pag) (w : World) (hX : RFo w B m d F A n c P) (hO : FldsOk F) :
    Calls Tryz.prog 19 #[.agg #[.slice B m d, .slice A n c]] w (RetI w (formErr F P)) := by
  obtain ⟨lo, lc, er, hr⟩ : ∃ lo lc er, rankR F = (lo, lc, er) := ⟨_, _, _, rfl⟩
  have h1 := fun w (h : RFo w B m d F A n c P) => rank_Of F B m d w h.1 h.2.1 h.2.2.2.2.1 hO.1 hO.2
  have h2 := fun w (h : RFo w B m d F A n c P) => page_Check P A n c F B m d w (h.2.2.1.l (by decide)) h.2.2.2.1 h.1 h.2.2.2.2.2 h.2.2.2.2.1
  have HX := Lib.hid hX
  have HR := Lib.hid hr
  have hfe : formErr F P = if er ≠ 0 then er else pagesErr P F := by unfold formErr; rw [hr]
  clear hX hO hr
  by_cases he : er = 0
  · rw [hfe, if_neg (by simpa using he)]
    subst he
    clear hfe
    go_enter Tryz.func19, Tryz.ntmps19
    go_wp2_with fail
    refine (h1 _ (HX.out.now bel)).mono ?_; intro e w1 q1; obtain ⟨A1, c1, B1, d1, rfl, _, _, _, _, hb1⟩ := rank_Of3 HR.out q1; clear q1; obtain ⟨hc1, hf1⟩ := bcell hb1; (try simp only [World.heap_drewN, World.cell?_drewN, World.frozen?_drewN] at hc1 hf1); have hz1 := hb1.size; (try simp at hz1); (try (have hy1 := Nat.lt_of_succ_le hz1)); (try (have hx1 := Nat.lt_of_succ_lt hy1)); (first | refine szz6 w1 w (by omega) ?_ | refine szz5 w1 w (by omega) ?_ | refine szz4 w1 w (by omega) ?_ | refine szz3 w1 w (by omega) ?_ | refine szz2 w1 w (by omega) ?_ | refine szz1 w1 w (by omega) ?_ | refine szz0 w1 w (by omega) ?_ | refine szzn w1 w (by omega) ?_ | skip); intros
    go_wp2_with fail
    refine (h2 _ (HX.out.now bel)).mono ?_; rintro e w2 ⟨rfl, hb2⟩; obtain ⟨hc2, hf2⟩ := bcell hb2; (try simp only [World.heap_drewN, World.cell?_drewN, World.frozen?_drewN] at hc2 hf2); have hz2 := hb2.size; (try simp at hz2); (try (have hy2 := Nat.lt_of_succ_le hz2)); (try (have hx2 := Nat.lt_of_succ_lt hy2)); (first | refine szz6 w2 w (by omega) ?_ | refine szz5 w2 w (by omega) ?_ | refine szz4 w2 w (by omega) ?_ | refine szz3 w2 w (by omega) ?_ | refine szz2 w2 w (by omega) ?_ | refine szz1 w2 w (by omega) ?_ | refine szz0 w2 w (by omega) ?_ | refine szzn w2 w (by omega) ?_ | skip); intros; (first | refine szz6 w2 w1 (by omega) ?_ | refine szz5 w2 w1 (by omega) ?_ | refine szz4 w2 w1 (by omega) ?_ | refine szz3 w2 w1 (by omega) ?_ | refine szz2 w2 w1 (by omega) ?_ | refine szz1 w2 w1 (by omega) ?_ | refine szz0 w2 w1 (by omega) ?_ | refine szzn w2 w1 (by omega) ?_ | skip); intros
    go_wp2_with fail
    go_ret
    exact ⟨rfl, bel⟩
  · rw [hfe, if_pos he]
    have g1 : (er != 0) = true := by simpa using he
    clear hfe
    go_enter Tryz.func19, Tryz.ntmps19
    go_wp2_with fail
    refine (h1 _ (HX.out.now bel)).mono ?_; intro e w1 q1; obtain ⟨A1, c1, B1, d1, rfl, _, _, _, _, hb1⟩ := rank_Of3 HR.out q1; clear q1; obtain ⟨hc1, hf1⟩ := bcell hb1; (try simp only [World.heap_drewN, World.cell?_drewN, World.frozen?_drewN] at hc1 hf1); have hz1 := hb1.size; (try simp at hz1); (try (have hy1 := Nat.lt_of_succ_le hz1)); (try (have hx1 := Nat.lt_of_succ_lt hy1)); (first | refine szz6 w1 w (by omega) ?_ | refine szz5 w1 w (by omega) ?_ | refine szz4 w1 w (by omega) ?_ | refine szz3 w1 w (by omega) ?_ | refine szz2 w1 w (by omega) ?_ | refine szz1 w1 w (by omega) ?_ | refine szz0 w1 w (by omega) ?_ | refine szzn w1 w (by omega) ?_ | skip); intros
    go_wp2_with fail
    go_ret
    exact ⟨rfl, bel⟩

set_option maxRecDepth 100000 in
set_option maxHeartbeats 2000000 in
theorem ref_FormFault (B : Option Addr) (m d : Nat) (F : List Fld) (A : Option Addr) (n c : Nat) (P : List Pag) (w : World) (hX : RFo w B m d F A n c P) (hO : FldsOk F) :
    Calls Tryz.prog 14 #[.agg #[.slice B m d, .slice A n c]] w (RetI w (formErr F P)) := by
  obtain ⟨lo, lc, er, hr⟩ : ∃ lo lc er, rankR F = (lo, lc, er) := ⟨_, _, _, rfl⟩
  have h1 := fun w (h : RFo w B m d F A n c P) => ref_FieldRanks F B m d w h.1 h.2.2.2.2.1 hO.1 hO.2
  have h2 := fun w (h : RFo w B m d F A n c P) => ref_PagesFault P A n c F B m d w (h.2.2.1.l (by decide)) h.2.2.2.1 h.1 h.2.2.2.2.2 h.2.2.2.2.1
  have HX := Lib.hid hX
  have HR := Lib.hid hr
  have hfe : formErr F P = if er ≠ 0 then er else pagesErr P F := by unfold formErr; rw [hr]
  clear hX hO hr
  by_cases he : er = 0
  · rw [hfe, if_neg (by simpa using he)]
    subst he
    clear hfe
    go_enter Tryz.func14, Tryz.ntmps14
    go_wp2_with fail
    refine (h1 _ (HX.out.now bel)).mono ?_; intro e w1 q1; obtain ⟨A1, c1, B1, d1, rfl, _, _, _, _, hb1⟩ := rank_Of3 HR.out q1; clear q1; obtain ⟨hc1, hf1⟩ := bcell hb1; (try simp only [World.heap_drewN, World.cell?_drewN, World.frozen?_drewN] at hc1 hf1); have hz1 := hb1.size; (try simp at hz1); (try (have hy1 := Nat.lt_of_succ_le hz1)); (try (have hx1 := Nat.lt_of_succ_lt hy1)); (first | refine szz6 w1 w (by omega) ?_ | refine szz5 w1 w (by omega) ?_ | refine szz4 w1 w (by omega) ?_ | refine szz3 w1 w (by omega) ?_ | refine szz2 w1 w (by omega) ?_ | refine szz1 w1 w (by omega) ?_ | refine szz0 w1 w (by omega) ?_ | refine szzn w1 w (by omega) ?_ | skip); intros
    go_wp2_with fail
    refine (h2 _ (HX.out.now bel)).mono ?_; rintro e w2 ⟨rfl, hb2⟩; obtain ⟨hc2, hf2⟩ := bcell hb2; (try simp only [World.heap_drewN, World.cell?_drewN, World.frozen?_drewN] at hc2 hf2); have hz2 := hb2.size; (try simp at hz2); (try (have hy2 := Nat.lt_of_succ_le hz2)); (try (have hx2 := Nat.lt_of_succ_lt hy2)); (first | refine szz6 w2 w (by omega) ?_ | refine szz5 w2 w (by omega) ?_ | refine szz4 w2 w (by omega) ?_ | refine szz3 w2 w (by omega) ?_ | refine szz2 w2 w (by omega) ?_ | refine szz1 w2 w (by omega) ?_ | refine szz0 w2 w (by omega) ?_ | refine szzn w2 w (by omega) ?_ | skip); intros; (first | refine szz6 w2 w1 (by omega) ?_ | refine szz5 w2 w1 (by omega) ?_ | refine szz4 w2 w1 (by omega) ?_ | refine szz3 w2 w1 (by omega) ?_ | refine szz2 w2 w1 (by omega) ?_ | refine szz1 w2 w1 (by omega) ?_ | refine szz0 w2 w1 (by omega) ?_ | refine szzn w2 w1 (by omega) ?_ | skip); intros
    go_wp2_with fail
    go_ret
    exact ⟨rfl, bel⟩
  · rw [hfe, if_pos he]
    have g1 : (er != 0) = true := by simpa using he
    clear hfe
    go_enter Tryz.func14, Tryz.ntmps14
    go_wp2_with fail
    refine (h1 _ (HX.out.now bel)).mono ?_; intro e w1 q1; obtain ⟨A1, c1, B1, d1, rfl, _, _, _, _, hb1⟩ := rank_Of3 HR.out q1; clear q1; obtain ⟨hc1, hf1⟩ := bcell hb1; (try simp only [World.heap_drewN, World.cell?_drewN, World.frozen?_drewN] at hc1 hf1); have hz1 := hb1.size; (try simp at hz1); (try (have hy1 := Nat.lt_of_succ_le hz1)); (try (have hx1 := Nat.lt_of_succ_lt hy1)); (first | refine szz6 w1 w (by omega) ?_ | refine szz5 w1 w (by omega) ?_ | refine szz4 w1 w (by omega) ?_ | refine szz3 w1 w (by omega) ?_ | refine szz2 w1 w (by omega) ?_ | refine szz1 w1 w (by omega) ?_ | refine szz0 w1 w (by omega) ?_ | refine szzn w1 w (by omega) ?_ | skip); intros
    go_wp2_with fail
    go_ret
    exact ⟨rfl, bel⟩

set_option maxRecDepth 100000 in
set_option maxHeartbeats 4000000 in
theorem sheet_Copy (B : Option Addr) (m d : Nat) (F : List Fld) (A : Option Addr) (n c : Nat) (P : List Pag) (w : World) (hX : RFo w B m d F A n c P) :
    Calls Tryz.prog 20 #[.agg #[.slice B m d, .slice A n c]] w (RetFrm w F P) := by
  have h1 := fun w (h : RFo w B m d F A n c P) => field_Copy B m d F w h.1 h.2.2.2.2.1
  have h2 := fun w (h : RFo w B m d F A n c P) => page_Copy A n c P w h.2.2.1 h.2.2.2.2.2
  have HX := Lib.hid hX
  have HL := Lib.hid (And.intro hX.2.2.2.2.1.len hX.2.2.2.2.2.len)
  clear hX
  go_enter Tryz.func20, Tryz.ntmps20
  go_wp2_with fail
  refine wp_world ?_; intro W0 hW0
  have hS0 : W0.drew.cell? ⟨w.heap.size, 0, none⟩ = some (.slice B m d) ∧ W0.drew.cell? ⟨w.heap.size, 1, none⟩ = some (.slice A n c) := by rw [hW0]; exact ⟨by go_simp, by go_simp⟩
  have hB0 : Below w.heap.size w W0.drew := by rw [hW0]; exact bel
  have hZ0 : W0.heap.size = w.heap.size + 2 := by rw [hW0]; simp
  have hc0 : W0.cell? ⟨w.heap.size + 1, 0, none⟩ = some (.slice none 0 0) ∧ W0.cell? ⟨w.heap.size + 1, 1, none⟩ = some (.slice none 0 0) := by rw [hW0]; exact ⟨by go_simp, by go_simp⟩
  have hf0 : W0.frozen? ⟨w.heap.size + 1, 0, none⟩ = false ∧ W0.frozen? ⟨w.heap.size + 1, 1, none⟩ = false := by rw [hW0]; exact ⟨by go_simp, by go_simp⟩
  clear hW0
  refine wp_region_T (fun w' => w'.cell? ⟨w.heap.size, 0, none⟩ = some (.slice B m d) ∧ w'.cell? ⟨w.heap.size, 1, none⟩ = some (.slice A n c)) 7 (by kernel_rfl) ?_
  refine wpAnyT_take (i := 0) (oi := _) (v := ?_) rfl (by kernel_rfl) (fun _ _ _ h => h) hS0 (by rfl) ?_ ?_
  rotate_left
  · intro w' hS'; (try dsimp only at hS'); (try go_split_ands); go_simp; (try rw [if_neg (by omega)]); try with_reducible rfl
  simp only [Act.put, List.setIfInBounds_toArray, List.set_cons_zero, List.set_cons_succ]
  refine wpAnyT_take (i := 1) (oi := _) (v := ?_) rfl (by kernel_rfl) (fun _ _ _ h => h) hS0 (by rfl) ?_ ?_
  rotate_left
  · intro w' hS'; (try dsimp only at hS'); (try go_split_ands); go_simp; (try rw [if_neg (by omega)]); try with_reducible rfl
  simp only [Act.put, List.setIfInBounds_toArray, List.set_cons_zero, List.set_cons_succ]
  refine wpAnyT_take (i := 3) (oi := _) (v := ?_) rfl (by kernel_rfl) (fun _ _ _ h => h) hS0 (by rfl) ?_ ?_
  rotate_left
  · intro w' hS'; (try dsimp only at hS'); (try go_split_ands); go_simp; (try rw [if_neg (by omega)]); try with_reducible rfl
  simp only [Act.put, List.setIfInBounds_toArray, List.set_cons_zero, List.set_cons_succ]
  refine wpAnyT_take (i := 4) (oi := _) (v := ?_) rfl (by kernel_rfl) (fun _ _ _ h => h) hS0 (by rfl) ?_ ?_
  rotate_left
  · intro w' hS'; (try dsimp only at hS'); (try go_split_ands); go_simp; (try rw [if_neg (by omega)]); try with_reducible rfl
  simp only [Act.put, List.setIfInBounds_toArray, List.set_cons_zero, List.set_cons_succ]
  refine wpAnyT_one (i := 2) (o := _) rfl (by kernel_rfl) (fun K hK => ?_)
  · go_simp
    go_at_call 45; refine (h1 _ (HX.out.now hB0)).mono ?_; rintro e w3 ⟨A1, c1, rfl, hq1, hs1', hb3⟩
    have hS3 := And.intro (cell_keep hS0.1 hb3) (cell_keep hS0.2 hb3)
    have hw3 : Below W0.drew.heap.size W0.drew w3 := hb3
    have hB3 : Below w.heap.size w w3 := below_step hB0 hb3 (by simp [heap_drew]; omega)
    have hz3 : W0.heap.size ≤ w3.heap.size := by have := hb3.size; simpa [heap_drew] using this
    refine hK.out _ _ (fun _ => hS3) ?_
    clear hK K
    try simp only [Act.put, List.setIfInBounds_toArray, List.set_cons_zero, List.set_cons_succ]
    refine wpAnyT_one (i := 5) (o := _) rfl (by kernel_rfl) (fun K hK => ?_)
    go_simp
    go_at_call 46; refine (h2 _ (HX.out.now hB3)).mono ?_; rintro e wE ⟨A2, c2, rfl, hq2, hs2', hbE⟩
    have hSE := And.intro (cell_keep hS3.1 hbE) (cell_keep hS3.2 hbE)
    have hBE : Below w.heap.size w wE := below_step hB3 hbE (by omega)
    have hZE : W0.heap.size ≤ wE.heap.size := Nat.le_trans hz3 hbE.size
    have hWE : Below W0.drew.heap.size W0.drew wE := below_step hw3 hbE (by simp [heap_drew]; omega)
    have hs1 := hs1'.keepN keeps_Fld (w' := wE) (S' := since W0.heap.size wE) (fun b hb => ⟨⟨by have h9 := hb.1; simp [heap_drew] at h9; omega, Nat.lt_of_lt_of_le hb.2 hbE.size⟩, hbE.block b hb.2⟩)
    have hs2 := hs2'.keepN keeps_Pag (w' := wE) (S' := since W0.heap.size wE) (fun b hb => ⟨⟨by have h9 := hb.1; omega, hb.2⟩, rfl⟩)
    clear hs1' hs2'
    refine hK.out _ _ (fun _ => hSE) ?_
    clear hK K
    try simp only [Act.put, List.setIfInBounds_toArray, List.set_cons_zero, List.set_cons_succ]
    refine wpAnyT_take (i := 6) (oi := _) (v := ?_) rfl (by kernel_rfl) (fun _ _ _ h => h) hSE (by rfl) ?_ ?_
    rotate_left
    · intro w' hS'; (try dsimp only at hS'); (try go_split_ands); go_simp; (try rw [if_neg (by omega)]); try with_reducible rfl
    simp only [Act.put, List.setIfInBounds_toArray, List.set_cons_zero, List.set_cons_succ]
    have ho1 : w.heap.size + 1 < W0.drew.heap.size := by simp [heap_drew]; omega
    have z0 := (hWE.cell (p := ⟨w.heap.size + 1, 0, none⟩) ho1).trans hc0.1
    have z1 := (hWE.cell (p := ⟨w.heap.size + 1, 1, none⟩) ho1).trans hc0.2
    have f0 := (hWE.frozen (p := ⟨w.heap.size + 1, 0, none⟩) ho1).trans hf0.1
    have f1 := (hWE.frozen (p := ⟨w.heap.size + 1, 1, none⟩) ho1).trans hf0.2
    have hlE : w.heap.size + 1 < wE.heap.size := by omega
    refine wpAnyT_one (i := 7) (o := _) rfl (by kernel_rfl) (fun K hK => ?_)
    go_simp
    refine hK.out _ _ (fun h => absurd h (by decide)) ?_
    clear hK K
    refine wpAnyT_done (by kernel_rfl) ?_ _
    try simp only [Act.put, List.setIfInBounds_toArray, List.set_cons_zero, List.set_cons_succ]
    go_wp2_with fail
    refine bodyPost_ret (v := .agg #[.slice A1 F.length c1, .slice A2 P.length c2]) (by first | (simp [results, Tryz.results20, go_sem, z0, z1]; done) | (simp [results, Tryz.results20, go_sem, *]; done)) rfl ?_
    have hset : ∀ b, w.heap.size + 2 ≤ b → ∀ u v, ((wE.setCell ⟨w.heap.size + 1, 0, none⟩ u).setCell ⟨w.heap.size + 1, 1, none⟩ v).heap[b]? = wE.heap[b]? := by
      intro b hb u v
      iterate 2 rw [heap_setCell_other _ _ _ _ (by simp; omega)]
    exact ⟨A1, c1, A2, c2, rfl, hq1, hq2, hs1.keepN keeps_Fld (fun b hb => ⟨⟨by have := hb.1; omega, by simpa using hb.2⟩, hset b (by have := hb.1; omega) _ _⟩), hs2.keepN keeps_Pag (fun b hb => ⟨⟨by have := hb.1; omega, by simpa using hb.2⟩, hset b (by have := hb.1; omega) _ _⟩), below_set (below_set hBE (by simp)) (by simp)⟩
set_option maxRecDepth 100000 in
set_option maxHeartbeats 1000000 in
theorem same_Form (F : List Fld) (P : List Pag) (A1 A2 A3 A4 : Option Addr) (c1 c2 c3 c4 : Nat) (w : World) (hF : inL F.length) (hP : inL P.length) (h1 : Sl w (old w) 9 (RFld w (old w)) A1 F.length F) (h2 : Sl w (old w) 8 (RPag w (old w)) A2 P.length P)
    (h3 : Sl w (old w) 9 (RFld w (old w)) A3 F.length F) (h4 : Sl w (old w) 8 (RPag w (old w)) A4 P.length P) :
    Calls Tryz.prog 22 #[.agg #[.slice A1 F.length c1, .slice A2 P.length c2], .agg #[.slice A3 F.length c3, .slice A4 P.length c4]] w (RetB w true) := by
  have HH := Lib.hid (And.intro h1 (And.intro h2 (And.intro h3 h4)))
  clear h1 h2 h3 h4
  go_enter Tryz.func22, Tryz.ntmps22
  go_wp2_with fail
  refine (same_Fields F A1 F.length c1 A3 c3 _ hF (HH.out.1.nowN keeps_Fld bel) (HH.out.2.2.1.nowN keeps_Fld bel)).mono ?_; rintro e w1 ⟨rfl, hb1⟩; obtain ⟨hc1, hf1⟩ := bcell hb1; (try simp only [World.heap_drewN, World.cell?_drewN, World.frozen?_drewN] at hc1 hf1); have hz1 := hb1.size; (try simp at hz1); (try (have hy1 := Nat.lt_of_succ_le hz1)); (try (have hx1 := Nat.lt_of_succ_lt hy1)); (first | refine szz6 w1 w (by omega) ?_ | refine szz5 w1 w (by omega) ?_ | refine szz4 w1 w (by omega) ?_ | refine szz3 w1 w (by omega) ?_ | refine szz2 w1 w (by omega) ?_ | refine szz1 w1 w (by omega) ?_ | refine szz0 w1 w (by omega) ?_ | refine szzn w1 w (by omega) ?_ | skip); intros
  go_wp2_with fail
  refine (same_Pages P A2 P.length c2 A4 c4 _ hP (HH.out.2.1.nowN keeps_Pag bel) (HH.out.2.2.2.nowN keeps_Pag bel)).mono ?_; rintro e w2 ⟨rfl, hb2⟩; obtain ⟨hc2, hf2⟩ := bcell hb2; (try simp only [World.heap_drewN, World.cell?_drewN, World.frozen?_drewN] at hc2 hf2); have hz2 := hb2.size; (try simp at hz2); (try (have hy2 := Nat.lt_of_succ_le hz2)); (try (have hx2 := Nat.lt_of_succ_lt hy2)); (first | refine szz6 w2 w (by omega) ?_ | refine szz5 w2 w (by omega) ?_ | refine szz4 w2 w (by omega) ?_ | refine szz3 w2 w (by omega) ?_ | refine szz2 w2 w (by omega) ?_ | refine szz1 w2 w (by omega) ?_ | refine szz0 w2 w (by omega) ?_ | refine szzn w2 w (by omega) ?_ | skip); intros; (first | refine szz6 w2 w1 (by omega) ?_ | refine szz5 w2 w1 (by omega) ?_ | refine szz4 w2 w1 (by omega) ?_ | refine szz3 w2 w1 (by omega) ?_ | refine szz2 w2 w1 (by omega) ?_ | refine szz1 w2 w1 (by omega) ?_ | refine szz0 w2 w1 (by omega) ?_ | refine szzn w2 w1 (by omega) ?_ | skip); intros
  go_wp2_with fail
  go_ret
  exact ⟨rfl, bel⟩
end Go.Proofs.YtgmcojnhpedpnaaGreat
/- sheet.Inputs, sheet.Free and what the law holds them against. (printed by mkfrmt.py) -/
namespace Go.Proofs.YtgmcojnhpedpnaaGreat
open Go.RowKit

/-- The places of the inputs among the first k fields; the names of those among them that no page has. -/
def inpTo (F : List Fld) : Nat → List Int
  | 0 => []
  | k + 1 => inpTo F k ++ (match (F)[k]? with | some f => if f.kind = 1 then [(k : Int)] else [] | none => [])
def freeTo (F : List Fld) (P : List Pag) : Nat → List ByteArray
  | 0 => []
  | k + 1 => freeTo F P k ++ (match (F)[k]? with | some f => if P.any (hasField f.name) then [] else [f.name] | none => [])
theorem inpTo_len (F : List Fld) : ∀ k, (inpTo F k).length ≤ k
  | 0 => Nat.le_refl _
  | k + 1 => by
    have := inpTo_len F k
    simp only [inpTo, List.length_append]
    cases (F)[k]? with
    | none => simp; omega
    | some f => dsimp only; split <;> simp <;> omega
theorem freeTo_len (F : List Fld) (P : List Pag) : ∀ k, (freeTo F P k).length ≤ k
  | 0 => Nat.le_refl _
  | k + 1 => by
    have := freeTo_len F P k
    simp only [freeTo, List.length_append]
    cases (F)[k]? with
    | none => simp; omega
    | some f => dsimp only; split <;> simp <;> omega
theorem inpTo_yes {F : List Fld} {k : Nat} {f : Fld} (h : (F)[k]? = some f) (hk : f.kind = 1) : inpTo F (k + 1) = inpTo F k ++ [(k : Int)] := by rw [inpTo, h]; dsimp only; rw [if_pos hk]
theorem inpTo_no {F : List Fld} {k : Nat} {f : Fld} (h : (F)[k]? = some f) (hk : ¬ f.kind = 1) : inpTo F (k + 1) = inpTo F k := by rw [inpTo, h]; dsimp only; rw [if_neg hk, List.append_nil]
theorem freeTo_yes {F : List Fld} {P : List Pag} {k : Nat} {f : Fld} (h : (F)[k]? = some f) (hk : P.any (hasField f.name) = false) : freeTo F P (k + 1) = freeTo F P k ++ [f.name] := by rw [freeTo, h]; dsimp only; rw [if_neg (by rw [hk]; decide)]
theorem freeTo_no {F : List Fld} {P : List Pag} {k : Nat} {f : Fld} (h : (F)[k]? = some f) (hk : P.any (hasField f.name) = true) : freeTo F P (k + 1) = freeTo F P k := by rw [freeTo, h]; dsimp only; rw [if_pos hk, List.append_nil]
theorem formErr_flds {F : List Fld} {P : List Pag} (h : formErr F P = 0) : fieldsErr F = 0 := by
  unfold formErr at h
  by_cases he : fieldsErr F = 0
  · exact he
  · have e : (rankR F).2.2 = fieldsErr F := by rw [rankR, if_pos he]
    rw [e, if_pos he] at h
    exact h
def inpR (F : List Fld) (P : List Pag) : List Int × Int := if formErr F P = 0 then (inpTo F F.length, 0) else ([], formErr F P)
def freeR (F : List Fld) (P : List Pag) : List ByteArray × Int := if formErr F P = 0 then (freeTo F P F.length, 0) else ([], formErr F P)

set_option maxRecDepth 100000 in
set_option maxHeartbeats 2000000 in
theorem sheet_Inputs (B : Option Addr) (m d : Nat) (F : List Fld) (A : Option Addr) (n c : Nat) (P : List Pag) (w : World) (hX : RFo w B m d F A n c P) (hO : FldsOk F) :
    Calls Tryz.prog 12 #[.agg #[.slice B m d, .slice A n c]] w (OwnRowC intCs 3 1 w (inpR F P).1 (inpR F P).2) := by
  have h1 := fun w h => sheet_Check B m d F A n c P w h hO
  have hml := hX.2.2.2.2.1.len
  have HX := Lib.hid hX
  by_cases he : formErr F P = 0
  · have h14 : m ≤ 14 := by rw [← hml]; exact (fieldsErr_all (formErr_flds he)).1
    have hr : inpR F P = (inpTo F F.length, 0) := by rw [inpR, if_pos he]
    rw [hr]
    rw [he] at h1
    obtain ⟨i0, ei, ez0, ez1, ez2⟩ := info_parts Tryz.infoIn9
    have HL := Lib.hid hml
    clear hX hO he hr hml
    go_enter Tryz.func12, Tryz.ntmps12
    go_wp2_with (go_at_call 19; refine (h1 _ (HX.out.now bel)).mono ?_; rintro e w1 ⟨rfl, hb1⟩; obtain ⟨hc1, hf1⟩ := bcell hb1; (try simp only [World.heap_drewN, World.cell?_drewN, World.frozen?_drewN] at hc1 hf1); have hz1 := hb1.size; (try simp at hz1); (try (have hy1 := Nat.lt_of_succ_le hz1)); (try (have hx1 := Nat.lt_of_succ_lt hy1)); (first | refine szz6 w1 w (by omega) ?_ | refine szz5 w1 w (by omega) ?_ | refine szz4 w1 w (by omega) ?_ | refine szz3 w1 w (by omega) ?_ | refine szz2 w1 w (by omega) ?_ | refine szz1 w1 w (by omega) ?_ | refine szz0 w1 w (by omega) ?_ | refine szzn w1 w (by omega) ?_ | skip); intros; have q0 : w1.cell? ⟨w.heap.size, 0, none⟩ = some (.slice B m d) := (hb1.cell (p := ⟨w.heap.size, 0, none⟩) (by simp)).trans (by go_simp); have q1 : w1.cell? ⟨w.heap.size, 1, none⟩ = some (.slice A n c) := (hb1.cell (p := ⟨w.heap.size, 1, none⟩) (by simp)).trans (by go_simp))
    have hB1 : Below w.heap.size w w1 := bel
    have hlw : w.heap.size < w1.heap.size := by have := hb1.size; simp at this; omega
    go_loopw [5, 16] (fun v i wr => ∃ k : Nat, k ≤ m ∧ i = .int .i64 k ∧ Hid (wr.ownsRow w1.heap.size 3 1 v (inpTo F k).length ((inpTo F k).flatMap intCs)) ∧ Below w1.heap.size w1 wr) (fun _ i _ => m - (intOf i).toNat)
    case atStart => exact ⟨0, by omega, rfl, Lib.hid (by simpa [inpTo] using World.ownsRow_nil _ _ _ _), Below.refl _ _⟩
    case round =>
      obtain ⟨k, hk, rfl, hown, hbr⟩ := hrel
      have hBr : Below w.heap.size w wr := below_step hB1 hbr hB1.size
      have r1 := cell_keep q1 hbr
      have hlr : w.heap.size < wr.heap.size := Nat.lt_of_lt_of_le hlw hbr.size
      by_cases hlt : k < m
      · obtain ⟨b, o, f, X, C, hAe, hbl, hlf, hrep, x0, x1, x2, x3, x4, x5, x6, x7, x8⟩ := Fld_at (HX.out.2.2.2.2.1.nowN keeps_Fld hBr) hlt
        subst hAe
        have hbl' : b < wr.heap.size := hbl
        have htl := inpTo_len F k
        clear hrep hbl
        by_cases hkd : f.kind = 1
        · have g1 : (f.kind == 1) = true := by rw [hkd]; rfl
          have HT := Lib.hid (inpTo_yes hlf hkd)
          clear hlf hkd
          go_wp2_with (at_builtin; refine wpList_append1 rfl _ _ 41 rfl w1.heap.size 3 i0 (.int .i64 0) 1 8 Tryz.underlying41 ei ez0 ez1 ez2 rfl (by decide) _ (inpTo F k).length _ rfl (ownsRow_keep hown.out ((Below.refl _ _).alloc (Nat.le_refl _) _)) [.int .i64 (k : Int)] 3 rfl _ rfl (by first | rfl | simp) rfl (by simp [Value.oneCell']) (by omega) (by unfold maxLen; omega) (by have := hbr.size; first | omega | (simp; omega)) ?_; intro v6 w6 hown6 hb6 hz6 _)
          go_roundw
          case rel => exact ⟨k + 1, by omega, by go_num, Lib.hid (by rw [HT.out]; rw [List.flatMap_append, List.length_append]; simpa using hown6), below_step (below_step hbr ((Below.refl _ _).alloc (Nat.le_refl _) _) hbr.size) hb6 (Nat.le_refl _)⟩
          case measure => simp [intOf]; omega
        · have g1 : (f.kind == 1) = false := by simpa using hkd
          have HT := Lib.hid (inpTo_no hlf hkd)
          clear hlf hkd
          go_wp2_with fail
          go_roundw
          case rel => exact ⟨k + 1, by omega, by go_num, Lib.hid (by rw [HT.out]; exact ownsRow_keep hown.out ((Below.refl _ _).alloc (Nat.le_refl _) _)), below_step hbr (show Below wr.heap.size wr _ from bel) hbr.size⟩
          case measure => simp [intOf]; omega
      · have hke : k = m := by omega
        subst hke
        have ho := hown.out
        rw [← HL.out] at ho
        have HO := Lib.hid ho
        clear hown ho
        go_wp2_with fail
        go_ret2
        exact ⟨_, rfl, ownsRow_base HO.out hB1.size, hBr⟩
  · have hr : inpR F P = ([], formErr F P) := by rw [inpR, if_neg he]
    rw [hr]
    have he' : (formErr F P != 0) = true := by simpa using he
    generalize formErr F P = er at *
    clear hX hO he hr
    go_enter Tryz.func12, Tryz.ntmps12
    go_wp2_with (go_at_call 19; refine (h1 _ (HX.out.now bel)).mono ?_; rintro e w1 ⟨rfl, hb1⟩; obtain ⟨hc1, hf1⟩ := bcell hb1; (try simp only [World.heap_drewN, World.cell?_drewN, World.frozen?_drewN] at hc1 hf1); have hz1 := hb1.size; (try simp at hz1); (try (have hy1 := Nat.lt_of_succ_le hz1)); (try (have hx1 := Nat.lt_of_succ_lt hy1)); (first | refine szz6 w1 w (by omega) ?_ | refine szz5 w1 w (by omega) ?_ | refine szz4 w1 w (by omega) ?_ | refine szz3 w1 w (by omega) ?_ | refine szz2 w1 w (by omega) ?_ | refine szz1 w1 w (by omega) ?_ | refine szz0 w1 w (by omega) ?_ | refine szzn w1 w (by omega) ?_ | skip); intros)
    go_ret2
    exact NilC.own _ _ _ ⟨rfl, bel⟩
set_option maxRecDepth 100000 in
set_option maxHeartbeats 2000000 in
theorem sheet_Free (B : Option Addr) (m d : Nat) (F : List Fld) (A : Option Addr) (n c : Nat) (P : List Pag) (w : World) (hX : RFo w B m d F A n c P) (hO : FldsOk F) :
    Calls Tryz.prog 13 #[.agg #[.slice B m d, .slice A n c]] w (OwnRowC strCs 9 1 w (freeR F P).1 (freeR F P).2) := by
  have h1 := fun w h => sheet_Check B m d F A n c P w h hO
  have hml := hX.2.2.2.2.1.len
  have HX := Lib.hid hX
  by_cases he : formErr F P = 0
  · have h14 : m ≤ 14 := by rw [← hml]; exact (fieldsErr_all (formErr_flds he)).1
    have hr : freeR F P = (freeTo F P F.length, 0) := by rw [freeR, if_pos he]
    rw [hr]
    rw [he] at h1
    obtain ⟨i0, ei, ez0, ez1, ez2⟩ := info_parts Tryz.infoStr'
    have HL := Lib.hid hml
    clear hX hO he hr hml
    go_enter Tryz.func13, Tryz.ntmps13
    go_wp2_with (go_at_call 19; refine (h1 _ (HX.out.now bel)).mono ?_; rintro e w1 ⟨rfl, hb1⟩; obtain ⟨hc1, hf1⟩ := bcell hb1; (try simp only [World.heap_drewN, World.cell?_drewN, World.frozen?_drewN] at hc1 hf1); have hz1 := hb1.size; (try simp at hz1); (try (have hy1 := Nat.lt_of_succ_le hz1)); (try (have hx1 := Nat.lt_of_succ_lt hy1)); (first | refine szz6 w1 w (by omega) ?_ | refine szz5 w1 w (by omega) ?_ | refine szz4 w1 w (by omega) ?_ | refine szz3 w1 w (by omega) ?_ | refine szz2 w1 w (by omega) ?_ | refine szz1 w1 w (by omega) ?_ | refine szz0 w1 w (by omega) ?_ | refine szzn w1 w (by omega) ?_ | skip); intros; have q0 : w1.cell? ⟨w.heap.size, 0, none⟩ = some (.slice B m d) := (hb1.cell (p := ⟨w.heap.size, 0, none⟩) (by simp)).trans (by go_simp); have q1 : w1.cell? ⟨w.heap.size, 1, none⟩ = some (.slice A n c) := (hb1.cell (p := ⟨w.heap.size, 1, none⟩) (by simp)).trans (by go_simp))
    have hB1 : Below w.heap.size w w1 := bel
    have hlw : w.heap.size < w1.heap.size := by have := hb1.size; simp at this; omega
    go_loopw [5, 18] (fun v i wr => ∃ k : Nat, k ≤ m ∧ i = .int .i64 k ∧ Hid (wr.ownsRow w1.heap.size 9 1 v (freeTo F P k).length ((freeTo F P k).flatMap strCs)) ∧ Below w1.heap.size w1 wr) (fun _ i _ => m - (intOf i).toNat)
    case atStart => exact ⟨0, by omega, rfl, Lib.hid (by simpa [freeTo] using World.ownsRow_nil _ _ _ _), Below.refl _ _⟩
    case round =>
      obtain ⟨k, hk, rfl, hown, hbr⟩ := hrel
      have hBr : Below w.heap.size w wr := below_step hB1 hbr hB1.size
      have r1 := cell_keep q1 hbr
      have hlr : w.heap.size < wr.heap.size := Nat.lt_of_lt_of_le hlw hbr.size
      by_cases hlt : k < m
      · obtain ⟨b, o, f, X, C, hAe, hbl, hlf, hrep, x0, x1, x2, x3, x4, x5, x6, x7, x8⟩ := Fld_at (HX.out.2.2.2.2.1.nowN keeps_Fld hBr) hlt
        subst hAe
        have hbl' : b < wr.heap.size := hbl
        have htl := freeTo_len F P k
        clear hrep hbl
        have hpo := fun w h => page_Of A n c P f.name w (HX.out.2.2.1.l (by decide)) h
        cases hany : P.any (hasField f.name)
        · rw [hany] at hpo
          simp only [Bool.false_eq_true, if_false] at hpo
          have HT := Lib.hid (freeTo_yes hlf hany)
          clear hlf hany
          go_wp2_with (first
            | (go_at_call 35; refine (hpo _ (HX.out.2.2.2.2.2.nowN keeps_Pag (show Below w.heap.size w _ from bel))).mono ?_; rintro e w4 ⟨rfl, hb4⟩; obtain ⟨hc4, hf4⟩ := bcell hb4; (try simp only [World.heap_drewN, World.cell?_drewN, World.frozen?_drewN] at hc4 hf4); have hz4 := hb4.size; (try simp at hz4); (try (have hy4 := Nat.lt_of_succ_le hz4)); (try (have hx4 := Nat.lt_of_succ_lt hy4)); (first | refine szz6 w4 wr (by omega) ?_ | refine szz5 w4 wr (by omega) ?_ | refine szz4 w4 wr (by omega) ?_ | refine szz3 w4 wr (by omega) ?_ | refine szz2 w4 wr (by omega) ?_ | refine szz1 w4 wr (by omega) ?_ | refine szz0 w4 wr (by omega) ?_ | refine szzn w4 wr (by omega) ?_ | skip); intros)
            | (at_builtin; refine wpList_append1 rfl _ _ 32 rfl w1.heap.size 9 i0 (.string ⟨#[]⟩) 1 16 Tryz.underlying32 ei ez0 ez1 ez2 rfl (by decide) _ (freeTo F P k).length _ rfl (ownsRow_keep hown.out (show Below wr.heap.size wr w4 from bel)) [.string f.name] 9 rfl _ rfl (by first | rfl | simp) rfl (by simp [Value.oneCell']) (by omega) (by unfold maxLen; omega) (by have := hbr.size; first | omega | (simp; omega)) ?_; intro v6 w6 hown6 hb6 hz6 _))
          go_roundw
          case rel => exact ⟨k + 1, by omega, by go_num, Lib.hid (by rw [HT.out]; rw [List.flatMap_append, List.length_append]; simpa using hown6), below_step (below_step hbr (show Below wr.heap.size wr w4 from bel) hbr.size) hb6 (Nat.le_refl _)⟩
          case measure => simp [intOf]; omega
        · rw [hany] at hpo
          simp only [if_true] at hpo
          have HT := Lib.hid (freeTo_no hlf hany)
          clear hlf hany
          go_wp2_with (go_at_call 35; refine (hpo _ (HX.out.2.2.2.2.2.nowN keeps_Pag (show Below w.heap.size w _ from bel))).mono ?_; rintro e w4 ⟨rfl, hb4⟩; obtain ⟨hc4, hf4⟩ := bcell hb4; (try simp only [World.heap_drewN, World.cell?_drewN, World.frozen?_drewN] at hc4 hf4); have hz4 := hb4.size; (try simp at hz4); (try (have hy4 := Nat.lt_of_succ_le hz4)); (try (have hx4 := Nat.lt_of_succ_lt hy4)); (first | refine szz6 w4 wr (by omega) ?_ | refine szz5 w4 wr (by omega) ?_ | refine szz4 w4 wr (by omega) ?_ | refine szz3 w4 wr (by omega) ?_ | refine szz2 w4 wr (by omega) ?_ | refine szz1 w4 wr (by omega) ?_ | refine szz0 w4 wr (by omega) ?_ | refine szzn w4 wr (by omega) ?_ | skip); intros)
          go_roundw
          case rel => exact ⟨k + 1, by omega, by go_num, Lib.hid (by rw [HT.out]; exact ownsRow_keep hown.out (show Below wr.heap.size wr w4 from bel)), below_step hbr (show Below wr.heap.size wr w4 from bel) hbr.size⟩
          case measure => simp [intOf]; omega
      · have hke : k = m := by omega
        subst hke
        have ho := hown.out
        rw [← HL.out] at ho
        have HO := Lib.hid ho
        clear hown ho
        go_wp2_with fail
        go_ret2
        exact ⟨_, rfl, ownsRow_base HO.out hB1.size, hBr⟩
  · have hr : freeR F P = ([], formErr F P) := by rw [freeR, if_neg he]
    rw [hr]
    have he' : (formErr F P != 0) = true := by simpa using he
    generalize formErr F P = er at *
    clear hX hO he hr
    go_enter Tryz.func13, Tryz.ntmps13
    go_wp2_with (go_at_call 19; refine (h1 _ (HX.out.now bel)).mono ?_; rintro e w1 ⟨rfl, hb1⟩; obtain ⟨hc1, hf1⟩ := bcell hb1; (try simp only [World.heap_drewN, World.cell?_drewN, World.frozen?_drewN] at hc1 hf1); have hz1 := hb1.size; (try simp at hz1); (try (have hy1 := Nat.lt_of_succ_le hz1)); (try (have hx1 := Nat.lt_of_succ_lt hy1)); (first | refine szz6 w1 w (by omega) ?_ | refine szz5 w1 w (by omega) ?_ | refine szz4 w1 w (by omega) ?_ | refine szz3 w1 w (by omega) ?_ | refine szz2 w1 w (by omega) ?_ | refine szz1 w1 w (by omega) ?_ | refine szz0 w1 w (by omega) ?_ | refine szzn w1 w (by omega) ?_ | skip); intros)
    go_ret2
    exact NilC.own _ _ _ ⟨rfl, bel⟩
set_option maxRecDepth 100000 in
set_option maxHeartbeats 2000000 in
theorem law_inputs (B : Option Addr) (m d : Nat) (F : List Fld) (A : Option Addr) (n c : Nat) (P : List Pag) (er : Int) (w : World) (hX : RFo w B m d F A n c P) (h14 : er = 0 → F.length ≤ 14) :
    Calls Tryz.prog 15 #[.agg #[.slice B m d, .slice A n c], .int .i64 er] w (OwnRow intCs 3 1 w (if er = 0 then inpTo F F.length else [])) := by
  have hml := hX.2.2.2.2.1.len
  have HX := Lib.hid hX
  have hmb : m ≤ 140737488351232 := hX.1.l (by decide)
  have HL := Lib.hid hml
  clear hX
  by_cases he : er = 0
  · have h14' : m ≤ 14 := by rw [← hml]; exact h14 he
    rw [if_pos he]
    subst he
    obtain ⟨i0, ei, ez0, ez1, ez2⟩ := info_parts Tryz.infoIn9
    clear hml h14
    go_enter Tryz.func15, Tryz.ntmps15
    go_wp2_with fail
    go_loopw [5, 11] (fun v i wr => ∃ k : Nat, k ≤ m ∧ i = .int .i64 k ∧ Hid (wr.ownsRow (w.heap.size + 1) 3 1 v (inpTo F k).length ((inpTo F k).flatMap intCs)) ∧ wr.cell? ⟨w.heap.size, 1, none⟩ = some (.slice A n c) ∧ w.heap.size + 1 ≤ wr.heap.size ∧ Below w.heap.size w wr) (fun _ i _ => m - (intOf i).toNat)
    case atStart => exact ⟨0, by omega, rfl, Lib.hid (by simpa [inpTo] using World.ownsRow_nil _ _ _ _), by go_simp, by simp, bel⟩
    case round =>
      obtain ⟨k, hk, rfl, hown, r1, hlr, hBr⟩ := hrel
      have hbr := hBr
      have hlr' : w.heap.size < wr.heap.size := hlr
      by_cases hlt : k < m
      · obtain ⟨b, o, f, X, C, hAe, hbl, hlf, hrep, x0, x1, x2, x3, x4, x5, x6, x7, x8⟩ := Fld_at (HX.out.2.2.2.2.1.nowN keeps_Fld hBr) hlt
        subst hAe
        have hbl' : b < wr.heap.size := hbl
        have htl := inpTo_len F k
        clear hrep hbl
        by_cases hkd : f.kind = 1
        · have g1 : (f.kind == 1) = true := by rw [hkd]; rfl
          have HT := Lib.hid (inpTo_yes hlf hkd)
          clear hlf hkd
          go_wp2_with (at_builtin; refine wpList_append1 rfl _ _ 41 rfl (w.heap.size + 1) 3 i0 (.int .i64 0) 1 8 Tryz.underlying41 ei ez0 ez1 ez2 rfl (by decide) _ (inpTo F k).length _ rfl (ownsRow_keep hown.out ((Below.refl _ _).alloc (Nat.le_refl _) _)) [.int .i64 (k : Int)] 3 rfl _ rfl (by first | rfl | simp) rfl (by simp [Value.oneCell']) (by omega) (by unfold maxLen; omega) (by have := hbr.size; first | omega | (simp; omega)) ?_; intro v6 w6 hown6 hb6 hz6 _)
          go_roundw
          case rel => exact ⟨k + 1, by omega, by go_num, Lib.hid (by rw [HT.out]; rw [List.flatMap_append, List.length_append]; simpa using hown6), (hb6.cell (p := ⟨w.heap.size, 1, none⟩) (by simp)).trans (by go_simp), by first | omega | (simp at hz6; omega), below_step (below_step hBr ((Below.refl _ _).alloc (Nat.le_refl _) _) hBr.size) hb6 (by omega)⟩
          case measure => simp [intOf]; omega
        · have g1 : (f.kind == 1) = false := by simpa using hkd
          have HT := Lib.hid (inpTo_no hlf hkd)
          clear hlf hkd
          go_wp2_with fail
          go_roundw
          case rel => exact ⟨k + 1, by omega, by go_num, Lib.hid (by rw [HT.out]; exact ownsRow_keep hown.out ((Below.refl _ _).alloc (Nat.le_refl _) _)), by go_simp, by first | omega | (simp; omega), bel⟩
          case measure => simp [intOf]; omega
      · have hke : k = m := by omega
        subst hke
        have ho := hown.out
        rw [← HL.out] at ho
        have HO := Lib.hid ho
        clear hown ho
        go_wp2_with fail
        go_ret
        exact ⟨_, rfl, ownsRow_base HO.out (by omega), hBr⟩
  · rw [if_neg he]
    have he' : (er == 0) = false := by simpa using he
    clear h14 he hml
    go_enter Tryz.func15, Tryz.ntmps15
    go_wp2_with fail
    go_loopw [5, 11] (fun v i wr => ∃ k : Nat, k ≤ m ∧ i = .int .i64 k ∧ v = .slice none 0 0 ∧ Below w.heap.size w wr) (fun _ i _ => m - (intOf i).toNat)
    case atStart => exact ⟨0, by omega, rfl, rfl, bel⟩
    case round =>
      obtain ⟨k, hk, rfl, rfl, hBr⟩ := hrel
      by_cases hlt : k < m
      · obtain ⟨b, o, f, X, C, hAe, hbl, hlf, hrep, x0, x1, x2, x3, x4, x5, x6, x7, x8⟩ := Fld_at (HX.out.2.2.2.2.1.nowN keeps_Fld hBr) hlt
        subst hAe
        have hbl' : b < wr.heap.size := hbl
        clear hrep hbl hlf
        go_wp2_with fail
        go_roundw
        case rel => exact ⟨k + 1, by omega, by go_num, rfl, bel⟩
        case measure => simp [intOf]; omega
      · have hke : k = m := by omega
        subst hke
        go_wp2_with fail
        go_ret
        exact ⟨_, rfl, by simpa using World.ownsRow_nil _ _ _ _, hBr⟩
set_option maxRecDepth 100000 in
set_option maxHeartbeats 1000000 in
theorem law_free1 (name : ByteArray) (g : Nat) (f : Pag) (Y : Option Addr) (D : Nat) (X : Option Addr) (C : Nat) (w : World) (h : w.cell? ⟨g, 0, none⟩ = some (.string name))
    (hf : RPag w (old w) [.string f.name, .slice Y f.fields.length D, .int .i64 f.skip.op, .int .i64 f.skip.v.k, .int .i64 f.skip.v.n, .string f.skip.v.s, .string f.skip.name, .slice X f.skip.args.length C] f) :
    Calls Tryz.prog 39 #[.agg #[.string f.name, .slice Y f.fields.length D, .int .i64 f.skip.op, .int .i64 f.skip.v.k, .int .i64 f.skip.v.n, .string f.skip.v.s, .string f.skip.name, .slice X f.skip.args.length C], .pointer (some ⟨g, 0, none⟩)] w
      fun e w' => e = .returned (.bool (hasField name f)) ∧ Below w.heap.size w w' := by
  obtain ⟨_, r2, _, r4, _⟩ := hf.open_
  have hg := block_lt_of_cell h
  simp only at hg
  have hn := r2.l (by decide)
  have HH := Lib.hid r4
  clear hf r4
  go_enter Tryz.func39, Tryz.ntmps39
  go_wp2_with (go_at_call 40; refine (strs_Contains name Y _ D f.fields _ hn (HH.out.now bel)).mono ?_; rintro e w1 ⟨rfl, hb1⟩)
  go_ret
  exact ⟨rfl, bel⟩
theorem cf_free1 (args : Array Value) (w : World) : (callFunc 39 args).run Tryz.prog w = .ok (.enter 39 args) w :=
  cf _ _ Tryz.func39 (by kernel_rfl) (by kernel_rfl) args w
set_option maxHeartbeats 1000000 in
theorem pages_Free (A : Option Addr) (n c : Nat) (l : List Pag) (name : ByteArray) (g : Nat) (w : World) (hn : inL n) (h : Sl w (old w) 8 (RPag w (old w)) A n l) (hg : w.cell? ⟨g, 0, none⟩ = some (.string name)) :
    Calls Tryz.prog 38 #[.slice A n c, .func (.func 39) #[] #[.pointer (some ⟨g, 0, none⟩)]] w (RetB w (l.any (hasField name))) := by
  have hcl := pages_IndexFunc (hasField name) 39 (.pointer (some ⟨g, 0, none⟩)) A n c l w hn h cf_free1 (fun wr k x Y D X C hb _ hx => law_free1 name g x Y D X C wr (cell_keep hg hb) hx)
  cases hany : l.any (hasField name)
  · have h1 : idxOf (hasField name) l = -1 := by rw [idxOf, hany]; rfl
    rw [h1] at hcl
    clear hany h1 h
    go_enter Tryz.func38, Tryz.ntmps38
    go_wp2_with (go_at_call 70; refine hcl.mono ?_; rintro e w1 ⟨rfl, hb1⟩)
    go_ret
    exact ⟨rfl, bel⟩
  · have h1 : idxOf (hasField name) l = (firstAt (hasField name) l : Int) := by rw [idxOf, hany]; rfl
    rw [h1] at hcl
    have hlt := firstAt_le (hasField name) l
    rw [h.len] at hlt
    unfold inL at hn
    clear hany h1 h
    go_enter Tryz.func38, Tryz.ntmps38
    go_wp2_with (go_at_call 70; refine hcl.mono ?_; rintro e w1 ⟨rfl, hb1⟩)
    go_ret
    exact ⟨rfl, bel⟩
set_option maxRecDepth 100000 in
set_option maxHeartbeats 2000000 in
theorem law_free (B : Option Addr) (m d : Nat) (F : List Fld) (A : Option Addr) (n c : Nat) (P : List Pag) (er : Int) (w : World) (hX : RFo w B m d F A n c P) (h14 : er = 0 → F.length ≤ 14) :
    Calls Tryz.prog 16 #[.agg #[.slice B m d, .slice A n c], .int .i64 er] w (OwnRow strCs 9 1 w (if er = 0 then freeTo F P F.length else [])) := by
  have hml := hX.2.2.2.2.1.len
  have HX := Lib.hid hX
  have hmb : m ≤ 140737488351232 := hX.1.l (by decide)
  have HL := Lib.hid hml
  clear hX
  by_cases he : er = 0
  · have h14' : m ≤ 14 := by rw [← hml]; exact h14 he
    rw [if_pos he]
    subst he
    obtain ⟨i0, ei, ez0, ez1, ez2⟩ := info_parts Tryz.infoStr'
    clear hml h14
    go_enter Tryz.func16, Tryz.ntmps16
    go_wp2_with fail
    go_loopw [5, 11] (fun v i wr => ∃ k : Nat, k ≤ m ∧ i = .int .i64 k ∧ Hid (wr.ownsRow (w.heap.size + 1) 9 1 v (freeTo F P k).length ((freeTo F P k).flatMap strCs)) ∧ wr.cell? ⟨w.heap.size, 1, none⟩ = some (.slice A n c) ∧ w.heap.size + 1 ≤ wr.heap.size ∧ Below w.heap.size w wr) (fun _ i _ => m - (intOf i).toNat)
    case atStart => exact ⟨0, by omega, rfl, Lib.hid (by simpa [freeTo] using World.ownsRow_nil _ _ _ _), by go_simp, by simp, bel⟩
    case round =>
      obtain ⟨k, hk, rfl, hown, r1, hlr, hBr⟩ := hrel
      have hbr := hBr
      have hlr' : w.heap.size < wr.heap.size := hlr
      by_cases hlt : k < m
      · obtain ⟨b, o, f, X, C, hAe, hbl, hlf, hrep, x0, x1, x2, x3, x4, x5, x6, x7, x8⟩ := Fld_at (HX.out.2.2.2.2.1.nowN keeps_Fld hBr) hlt
        subst hAe
        have hbl' : b < wr.heap.size := hbl
        have htl := freeTo_len F P k
        clear hrep hbl
        have hpo := fun g w h hg => pages_Free A n c P f.name g w (HX.out.2.2.1.l (by decide)) h hg
        cases hany : P.any (hasField f.name)
        · rw [hany] at hpo
          have HT := Lib.hid (freeTo_yes hlf hany)
          clear hlf hany
          go_wp2_with (first
            | (go_at_call 38; refine (hpo _ _ (HX.out.2.2.2.2.2.nowN keeps_Pag (show Below w.heap.size w _ from bel)) (by first | (go_simp; done) | (go_simp; exact World.cell?_setCell_same' _ _ _ (by go_simp)))).mono ?_; rintro e w4 ⟨rfl, hb4⟩; obtain ⟨hc4, hf4⟩ := bcell hb4; (try simp only [World.heap_drewN, World.cell?_drewN, World.frozen?_drewN] at hc4 hf4); have hz4 := hb4.size; (try simp at hz4); (try (have hy4 := Nat.lt_of_succ_le hz4)); (try (have hx4 := Nat.lt_of_succ_lt hy4)); (first | refine szz6 w4 wr (by omega) ?_ | refine szz5 w4 wr (by omega) ?_ | refine szz4 w4 wr (by omega) ?_ | refine szz3 w4 wr (by omega) ?_ | refine szz2 w4 wr (by omega) ?_ | refine szz1 w4 wr (by omega) ?_ | refine szz0 w4 wr (by omega) ?_ | refine szzn w4 wr (by omega) ?_ | skip); intros)
            | (at_builtin; refine wpList_append1 rfl _ _ 32 rfl (w.heap.size + 1) 9 i0 (.string ⟨#[]⟩) 1 16 Tryz.underlying32 ei ez0 ez1 ez2 rfl (by decide) _ (freeTo F P k).length _ rfl (ownsRow_keep hown.out (show Below wr.heap.size wr w4 from bel)) [.string f.name] 9 rfl _ rfl (by first | rfl | simp) rfl (by simp [Value.oneCell']) (by omega) (by unfold maxLen; omega) (by have := hbr.size; first | omega | (simp; omega)) ?_; intro v6 w6 hown6 hb6 hz6 _))
          go_roundw
          case rel => exact ⟨k + 1, by omega, by go_num, Lib.hid (by rw [HT.out]; rw [List.flatMap_append, List.length_append]; simpa using hown6), (hb6.cell (p := ⟨w.heap.size, 1, none⟩) (by simp)).trans (by go_simp), by have := hz6; first | omega | (simp at this; omega), below_step (below_step hBr (show Below wr.heap.size wr w4 from bel) hBr.size) hb6 (by omega)⟩
          case measure => simp [intOf]; omega
        · rw [hany] at hpo
          have HT := Lib.hid (freeTo_no hlf hany)
          clear hlf hany
          go_wp2_with (go_at_call 38; refine (hpo _ _ (HX.out.2.2.2.2.2.nowN keeps_Pag (show Below w.heap.size w _ from bel)) (by first | (go_simp; done) | (go_simp; exact World.cell?_setCell_same' _ _ _ (by go_simp)))).mono ?_; rintro e w4 ⟨rfl, hb4⟩; obtain ⟨hc4, hf4⟩ := bcell hb4; (try simp only [World.heap_drewN, World.cell?_drewN, World.frozen?_drewN] at hc4 hf4); have hz4 := hb4.size; (try simp at hz4); (try (have hy4 := Nat.lt_of_succ_le hz4)); (try (have hx4 := Nat.lt_of_succ_lt hy4)); (first | refine szz6 w4 wr (by omega) ?_ | refine szz5 w4 wr (by omega) ?_ | refine szz4 w4 wr (by omega) ?_ | refine szz3 w4 wr (by omega) ?_ | refine szz2 w4 wr (by omega) ?_ | refine szz1 w4 wr (by omega) ?_ | refine szz0 w4 wr (by omega) ?_ | refine szzn w4 wr (by omega) ?_ | skip); intros)
          go_roundw
          case rel => exact ⟨k + 1, by omega, by go_num, Lib.hid (by rw [HT.out]; exact ownsRow_keep hown.out (show Below wr.heap.size wr w4 from bel)), by go_simp, by omega, below_step hBr (show Below wr.heap.size wr w4 from bel) hBr.size⟩
          case measure => simp [intOf]; omega
      · have hke : k = m := by omega
        subst hke
        have ho := hown.out
        rw [← HL.out] at ho
        have HO := Lib.hid ho
        clear hown ho
        go_wp2_with fail
        go_ret
        exact ⟨_, rfl, ownsRow_base HO.out (by omega), hBr⟩
  · rw [if_neg he]
    have he' : (er == 0) = false := by simpa using he
    clear h14 he hml
    go_enter Tryz.func16, Tryz.ntmps16
    go_wp2_with fail
    go_loopw [5, 11] (fun v i wr => ∃ k : Nat, k ≤ m ∧ i = .int .i64 k ∧ v = .slice none 0 0 ∧ Below w.heap.size w wr) (fun _ i _ => m - (intOf i).toNat)
    case atStart => exact ⟨0, by omega, rfl, rfl, bel⟩
    case round =>
      obtain ⟨k, hk, rfl, rfl, hBr⟩ := hrel
      by_cases hlt : k < m
      · obtain ⟨b, o, f, X, C, hAe, hbl, hlf, hrep, x0, x1, x2, x3, x4, x5, x6, x7, x8⟩ := Fld_at (HX.out.2.2.2.2.1.nowN keeps_Fld hBr) hlt
        subst hAe
        have hbl' : b < wr.heap.size := hbl
        clear hrep hbl hlf
        go_wp2_with fail
        go_roundw
        case rel => exact ⟨k + 1, by omega, by go_num, rfl, bel⟩
        case measure => simp [intOf]; omega
      · have hke : k = m := by omega
        subst hke
        go_wp2_with fail
        go_ret
        exact ⟨_, rfl, by simpa using World.ownsRow_nil _ _ _ _, hBr⟩
end Go.Proofs.YtgmcojnhpedpnaaGreat
/- The law FormTells returns true for every input of bulk at most 1048576: sheet.Inputs and sheet.Free agree with the references. -/
namespace Go.Proofs.YtgmcojnhpedpnaaGreat
open Go.ChangeShapes Go.WideShapes Go.ChangeAt Go.RowKit

mutual
theorem bulk_nodes : ∀ x : Exp, x.nodes ≤ x.bulk
  | .mk op v nm args => by
    have := bulks_nodes args
    simp only [Exp.bulk, Exp.nodes]
    omega
theorem bulks_nodes : ∀ l : List Exp, nodesL l ≤ Exp.bulk.bulks l
  | [] => by simp [nodesL]
  | a :: l => by
    have := bulk_nodes a
    have := bulks_nodes l
    simp only [Exp.bulk.bulks, nodesL]
    omega
end
theorem flds_nodes : ∀ l : List Fld, (l.map Fld.bulk).sum ≤ 1048576 → ∀ f ∈ l, f.source.nodes ≤ 1048576
  | [], _ => fun f hf => absurd hf List.not_mem_nil
  | a :: l, h => by
    simp only [List.map_cons, List.sum_cons] at h
    intro f hf
    rcases List.mem_cons.1 hf with rfl | hf
    · have := bulk_nodes f.source
      have e : f.bulk = f.name.size + f.source.bulk + 1 := rfl
      omega
    · exact flds_nodes l (by omega) f hf
theorem Sl_each {α : Type} {w : World} {S : Nat → Prop} {size : Nat} {R : List Value → α → Prop} {A : Option Addr} {n : Nat} {l : List α} (h : Sl w S size R A n l) : ∀ a ∈ l, ∃ cs, R cs a := by
  intro a ha
  obtain ⟨i, hi, rfl⟩ := List.mem_iff_getElem.1 ha
  have hn : 0 < n := by rw [← h.1]; omega
  obtain ⟨b, o, e, hs, hc⟩ := h.2 hn
  obtain ⟨cs, h1, _⟩ := hc i l[i] (List.getElem?_eq_getElem hi)
  exact ⟨cs, h1⟩
theorem flds_inS {w : World} {A : Option Addr} {n : Nat} {l : List Fld} (h : Sl w (old w) 9 (RFld w (old w)) A n l) : ∀ f ∈ l, inS f.name ∧ ∀ s ∈ askN f.source, inS s := by
  intro f hf
  obtain ⟨cs, hr⟩ := Sl_each h f hf
  exact ⟨hr.1, askN_inS hr.2.2.2.choose_spec.2⟩

theorem inpTo_in (F : List Fld) : ∀ k, ∀ a ∈ inpTo F k, ∃ i : Nat, i < k ∧ a = i
  | 0 => fun a h => absurd h List.not_mem_nil
  | k + 1 => fun a h => by
    rw [inpTo, List.mem_append] at h
    rcases h with h | h
    · obtain ⟨i, h1, h2⟩ := inpTo_in F k a h
      exact ⟨i, by omega, h2⟩
    · cases hf : (F)[k]? with
      | none => rw [hf] at h; cases h
      | some f =>
        rw [hf] at h
        dsimp only at h
        split at h
        · simp at h; exact ⟨k, by omega, h⟩
        · cases h
theorem freeTo_in (F : List Fld) (P : List Pag) (hs : ∀ f ∈ F, inS f.name) : ∀ k, ∀ a ∈ freeTo F P k, inS a
  | 0 => fun a h => absurd h List.not_mem_nil
  | k + 1 => fun a h => by
    rw [freeTo, List.mem_append] at h
    rcases h with h | h
    · exact freeTo_in F P hs k a h
    · cases hf : (F)[k]? with
      | none => rw [hf] at h; cases h
      | some f =>
        rw [hf] at h
        dsimp only at h
        split at h
        · cases h
        · simp at h; rw [h]; exact hs f (List.mem_of_getElem? hf)
set_option maxRecDepth 100000 in
set_option maxHeartbeats 4000000 in
theorem law_FormTells (w : World) (cs : List Value) (f : Frm) (hf : RFrm w (old w) cs f) (hb : f.bulk ≤ 1048576) :
    Calls Tryz.prog 4 #[.agg cs.toArray] w fun e w' => e = .returned (.bool true) ∧ Below w.heap.size w w' := by
  obtain ⟨A, n, c, A2, n2, c2, rfl, hn, hnc, hn2, hnc2, hs, hs2⟩ := hf
  have hO : FldsOk f.fields := ⟨flds_nodes f.fields (by unfold Frm.bulk at hb; omega), flds_inS hs⟩
  have hX : RFo w A n c f.fields A2 n2 c2 f.pages := ⟨hn, hnc, hn2, hnc2, hs, hs2⟩
  have h14 : formErr f.fields f.pages = 0 → f.fields.length ≤ 14 := fun h => (fieldsErr_all (formErr_flds h)).1
  have h1 := fun w h => sheet_Inputs A n c f.fields A2 n2 c2 f.pages w h hO
  have h2 := fun w h => sheet_Free A n c f.fields A2 n2 c2 f.pages w h hO
  have h3 := fun w h => ref_FormFault A n c f.fields A2 n2 c2 f.pages w h hO
  have h4 := fun w h => law_inputs A n c f.fields A2 n2 c2 f.pages (formErr f.fields f.pages) w h h14
  have h5 := fun w h => law_free A n c f.fields A2 n2 c2 f.pages (formErr f.fields f.pages) w h h14
  obtain ⟨lo, hlo⟩ : ∃ lo, lo = if formErr f.fields f.pages = 0 then inpTo f.fields f.fields.length else [] := ⟨_, rfl⟩
  obtain ⟨lc, hlc⟩ : ∃ lc, lc = if formErr f.fields f.pages = 0 then freeTo f.fields f.pages f.fields.length else [] := ⟨_, rfl⟩
  have hr1 : inpR f.fields f.pages = (lo, formErr f.fields f.pages) := by
    rw [inpR, hlo]
    by_cases he : formErr f.fields f.pages = 0
    · rw [if_pos he, if_pos he, he]
    · rw [if_neg he, if_neg he]
  have hr2 : freeR f.fields f.pages = (lc, formErr f.fields f.pages) := by
    rw [freeR, hlc]
    by_cases he : formErr f.fields f.pages = 0
    · rw [if_pos he, if_pos he, he]
    · rw [if_neg he, if_neg he]
  have hio : ∀ a ∈ lo, inI a := by
    rw [hlo]
    split
    · rename_i he
      intro a ha
      obtain ⟨i, h1, h2⟩ := inpTo_in _ _ a ha
      have := h14 he
      exact inI_small (by omega) (by omega)
    · intro a ha; cases ha
  have hic : ∀ a ∈ lc, inS a := by
    rw [hlc]
    split
    · exact freeTo_in _ _ (fun g hg => (hO.2 g hg).1) _
    · intro a ha; cases ha
  have hlen : lo.length ≤ 14 ∧ lc.length ≤ 14 := by
    rw [hlo, hlc]
    by_cases he : formErr f.fields f.pages = 0
    · have := h14 he
      have q1 := inpTo_len f.fields f.fields.length
      have q2 := freeTo_len f.fields f.pages f.fields.length
      rw [if_pos he, if_pos he]; omega
    · rw [if_neg he, if_neg he]; simp
  rw [hr1] at h1
  rw [hr2] at h2
  rw [← hlo] at h4
  rw [← hlc] at h5
  have HX := Lib.hid (And.intro hX (And.intro hio hic))
  obtain ⟨hl1, hl2⟩ := hlen
  clear hs hs2 hX hO hn hn2 hnc hnc2 hb h14 hr1 hr2 hlo hlc hio hic
  generalize formErr f.fields f.pages = er at *
  generalize f.fields = F at *
  generalize f.pages = P at *
  dsimp only at h1 h2
  go_enter Tryz.func4, Tryz.ntmps4
  go_wp2_with fail
  refine (h1 _ (HX.out.1.now bel)).mono ?_; rintro e w1 ⟨v1, rfl, ho1, hb1⟩; obtain ⟨B1, d1, rfl, hd1, hs1⟩ := ownInt ho1 rfl HX.out.2.1; obtain ⟨hc1, hf1⟩ := bcell hb1; (try simp only [World.heap_drewN, World.cell?_drewN, World.frozen?_drewN] at hc1 hf1); have hz1 := hb1.size; (try simp at hz1); (try (have hy1 := Nat.lt_of_succ_le hz1)); (try (have hx1 := Nat.lt_of_succ_lt hy1)); (first | refine szz6 w1 w (by omega) ?_ | refine szz5 w1 w (by omega) ?_ | refine szz4 w1 w (by omega) ?_ | refine szz3 w1 w (by omega) ?_ | refine szz2 w1 w (by omega) ?_ | refine szz1 w1 w (by omega) ?_ | refine szz0 w1 w (by omega) ?_ | refine szzn w1 w (by omega) ?_ | skip); intros
  have HS1 := Lib.hid hs1
  clear ho1 hs1
  go_wp2_with fail
  refine (h2 _ (HX.out.1.now bel)).mono ?_; rintro e w2 ⟨v2, rfl, ho2, hb2⟩; obtain ⟨B2, d2, rfl, hd2, hs2⟩ := ownStr ho2 rfl HX.out.2.2; obtain ⟨hc2, hf2⟩ := bcell hb2; (try simp only [World.heap_drewN, World.cell?_drewN, World.frozen?_drewN] at hc2 hf2); have hz2 := hb2.size; (try simp at hz2); (try (have hy2 := Nat.lt_of_succ_le hz2)); (try (have hx2 := Nat.lt_of_succ_lt hy2)); (first | refine szz6 w2 w (by omega) ?_ | refine szz5 w2 w (by omega) ?_ | refine szz4 w2 w (by omega) ?_ | refine szz3 w2 w (by omega) ?_ | refine szz2 w2 w (by omega) ?_ | refine szz1 w2 w (by omega) ?_ | refine szz0 w2 w (by omega) ?_ | refine szzn w2 w (by omega) ?_ | skip); intros; (first | refine szz6 w2 w1 (by omega) ?_ | refine szz5 w2 w1 (by omega) ?_ | refine szz4 w2 w1 (by omega) ?_ | refine szz3 w2 w1 (by omega) ?_ | refine szz2 w2 w1 (by omega) ?_ | refine szz1 w2 w1 (by omega) ?_ | refine szz0 w2 w1 (by omega) ?_ | refine szzn w2 w1 (by omega) ?_ | skip); intros
  have HS2 := Lib.hid hs2
  clear ho2 hs2
  go_wp2_with fail
  refine (h3 _ (HX.out.1.now bel)).mono ?_; rintro e w3 ⟨rfl, hb3⟩; obtain ⟨hc3, hf3⟩ := bcell hb3; (try simp only [World.heap_drewN, World.cell?_drewN, World.frozen?_drewN] at hc3 hf3); have hz3 := hb3.size; (try simp at hz3); (try (have hy3 := Nat.lt_of_succ_le hz3)); (try (have hx3 := Nat.lt_of_succ_lt hy3)); (first | refine szz6 w3 w (by omega) ?_ | refine szz5 w3 w (by omega) ?_ | refine szz4 w3 w (by omega) ?_ | refine szz3 w3 w (by omega) ?_ | refine szz2 w3 w (by omega) ?_ | refine szz1 w3 w (by omega) ?_ | refine szz0 w3 w (by omega) ?_ | refine szzn w3 w (by omega) ?_ | skip); intros; (first | refine szz6 w3 w1 (by omega) ?_ | refine szz5 w3 w1 (by omega) ?_ | refine szz4 w3 w1 (by omega) ?_ | refine szz3 w3 w1 (by omega) ?_ | refine szz2 w3 w1 (by omega) ?_ | refine szz1 w3 w1 (by omega) ?_ | refine szz0 w3 w1 (by omega) ?_ | refine szzn w3 w1 (by omega) ?_ | skip); intros; (first | refine szz6 w3 w2 (by omega) ?_ | refine szz5 w3 w2 (by omega) ?_ | refine szz4 w3 w2 (by omega) ?_ | refine szz3 w3 w2 (by omega) ?_ | refine szz2 w3 w2 (by omega) ?_ | refine szz1 w3 w2 (by omega) ?_ | refine szz0 w3 w2 (by omega) ?_ | refine szzn w3 w2 (by omega) ?_ | skip); intros
  go_wp2_with fail
  refine wp_world ?_; intro W0 hW0
  have hS0 : W0.drew.cell? ⟨w.heap.size, 0, none⟩ = some (.slice A n c) ∧ W0.drew.cell? ⟨w.heap.size, 1, none⟩ = some (.slice A2 n2 c2) := by rw [hW0]; exact ⟨by go_simp, by go_simp⟩
  have hB0 : Below w.heap.size w W0.drew := by rw [hW0]; exact bel
  have hB30 : Below w3.heap.size w3 W0.drew := by rw [hW0]; exact bel
  have hZ0 : W0.heap.size = w3.heap.size := by rw [hW0]
  clear hW0
  refine wp_region_T (fun w' => w'.cell? ⟨w.heap.size, 0, none⟩ = some (.slice A n c) ∧ w'.cell? ⟨w.heap.size, 1, none⟩ = some (.slice A2 n2 c2)) 7 (by kernel_rfl) ?_
  refine wpAnyT_take (i := 0) (oi := _) (v := ?_) rfl (by kernel_rfl) (fun _ _ _ h => h) hS0 (by rfl) ?_ ?_
  rotate_left
  · intro w' hS'; (try dsimp only at hS'); (try go_split_ands); go_simp; (try rw [if_neg (by omega)]); try with_reducible rfl
  simp only [Act.put, List.setIfInBounds_toArray, List.set_cons_zero, List.set_cons_succ]
  refine wpAnyT_take (i := 1) (oi := _) (v := ?_) rfl (by kernel_rfl) (fun _ _ _ h => h) hS0 (by rfl) ?_ ?_
  rotate_left
  · intro w' hS'; (try dsimp only at hS'); (try go_split_ands); go_simp; (try rw [if_neg (by omega)]); try with_reducible rfl
  simp only [Act.put, List.setIfInBounds_toArray, List.set_cons_zero, List.set_cons_succ]
  refine wpAnyT_take (i := 3) (oi := _) (v := ?_) rfl (by kernel_rfl) (fun _ _ _ h => h) hS0 (by rfl) ?_ ?_
  rotate_left
  · intro w' hS'; (try dsimp only at hS'); (try go_split_ands); go_simp; (try rw [if_neg (by omega)]); try with_reducible rfl
  simp only [Act.put, List.setIfInBounds_toArray, List.set_cons_zero, List.set_cons_succ]
  refine wpAnyT_take (i := 4) (oi := _) (v := ?_) rfl (by kernel_rfl) (fun _ _ _ h => h) hS0 (by rfl) ?_ ?_
  rotate_left
  · intro w' hS'; (try dsimp only at hS'); (try go_split_ands); go_simp; (try rw [if_neg (by omega)]); try with_reducible rfl
  simp only [Act.put, List.setIfInBounds_toArray, List.set_cons_zero, List.set_cons_succ]
  refine wpAnyT_one (i := 2) (o := _) rfl (by kernel_rfl) (fun K hK => ?_)
  go_simp
  go_at_call 15; refine (h4 _ (HX.out.1.now hB0)).mono ?_; rintro e w4 ⟨v4, rfl, ho4, hb4⟩; obtain ⟨B4, d4, rfl, hd4, hs4⟩ := ownInt ho4 rfl HX.out.2.1
  have hS4 := And.intro (cell_keep hS0.1 hb4) (cell_keep hS0.2 hb4)
  have hB4 : Below w.heap.size w w4 := below_step hB0 hb4 (by simp [heap_drew]; omega)
  have hB34 : Below w3.heap.size w3 w4 := below_step hB30 hb4 (by simp [heap_drew]; omega)
  have HS4 := Lib.hid hs4
  clear ho4 hs4
  refine hK.out _ _ (fun _ => hS4) ?_
  clear hK K
  try simp only [Act.put, List.setIfInBounds_toArray, List.set_cons_zero, List.set_cons_succ]
  refine wpAnyT_one (i := 5) (o := _) rfl (by kernel_rfl) (fun K hK => ?_)
  go_simp
  go_at_call 16; refine (h5 _ (HX.out.1.now hB4)).mono ?_; rintro e w5 ⟨v5, rfl, ho5, hb5⟩; obtain ⟨B5, d5, rfl, hd5, hs5⟩ := ownStr ho5 rfl HX.out.2.2
  have hS5 := And.intro (cell_keep hS4.1 hb5) (cell_keep hS4.2 hb5)
  have hB5 : Below w.heap.size w w5 := below_step hB4 hb5 (by have := hB4.size; omega)
  have hB35 : Below w3.heap.size w3 w5 := below_step hB34 hb5 (by have := hB34.size; omega)
  have HS5 := Lib.hid hs5
  clear ho5 hs5
  refine hK.out _ _ (fun _ => hS5) ?_
  clear hK K
  try simp only [Act.put, List.setIfInBounds_toArray, List.set_cons_zero, List.set_cons_succ]
  refine wpAnyT_take (i := 6) (oi := _) (v := ?_) rfl (by kernel_rfl) (fun _ _ _ h => h) hS5 (by rfl) ?_ ?_
  rotate_left
  · intro w' hS'; (try dsimp only at hS'); (try go_split_ands); go_simp; (try rw [if_neg (by omega)]); try with_reducible rfl
  simp only [Act.put, List.setIfInBounds_toArray, List.set_cons_zero, List.set_cons_succ]
  refine wpAnyT_one (i := 7) (o := _) rfl (by kernel_rfl) (fun K hK => ?_)
  go_simp
  refine hK.out _ _ (fun h => absurd h (by decide)) ?_
  clear hK K
  refine wpAnyT_done (by kernel_rfl) ?_ _
  try simp only [Act.put, List.setIfInBounds_toArray, List.set_cons_zero, List.set_cons_succ]
  have k1 : Below w1.heap.size w1 w5 := below_step (bel : Below w1.heap.size w1 w3) hB35 (by omega)
  have k2 : Below w2.heap.size w2 w5 := below_step (bel : Below w2.heap.size w2 w3) hB35 (by omega)
  go_wp2_with fail
  refine (same_Ints B1 B4 _ d1 _ d4 lo _ _ _ (by omega) (HS1.out.keep (w' := w5) (fun b hq => k1.block b hq) (fun _ _ h => h.1)) (HS4.out.keep (w' := w5) (fun b hq => hb5.block b hq) (fun _ _ h => h.1))).mono ?_; rintro e w6 ⟨rfl, k6, rfl⟩
  go_wp2_with fail
  refine (same_Texts B2 B5 _ d2 _ d5 lc _ _ _ (by omega) (HS2.out.keep (w' := w5.drewN k6) (fun b hq => k2.block b hq) (fun _ _ h => h.1)) (HS5.out.keep (w' := w5.drewN k6) (fun b hq => rfl) (fun _ _ h => h.1))).mono ?_; rintro e w7 ⟨rfl, k7, rfl⟩
  go_wp2_with fail
  go_ret
  exact ⟨rfl, bel⟩
set_option maxRecDepth 100000 in
theorem FormTellsUpto_lifted (os : Os) (started : os.Started) (H : Type) (enc : TypeId × Value → H) (FS : Stop.Interp) :
    ReturnsInHanded {} Tryz.checked os 4 .any ((Rows.OpenSpec.upto Rows.formTellsSpec).pre6 enc Tryz.checked.prog Tryz.f4 Rows.formTellsUptoRow.domain false) (((Rows.OpenSpec.upto Rows.formTellsSpec).at FS).post enc Tryz.checked.prog Tryz.f4 false true false false) := by
  refine law_lifted_upto (s := Rows.formTellsSpec) (FS := FS) started (by kernel_rfl) Tryz.func4 (by rw [Tryz.params4]; exact of_decide_eq_true (by kernel_rfl)) rfl rfl
    (fun ds hl => by rw [show Tryz.f4.params.size = 1 from rfl] at hl; match ds, hl with | [d0], _ => rfl)
    (OpenSpec.witness (enc := enc) (C := Tryz.checked) (s := Rows.OpenSpec.upto Rows.formTellsSpec) (k := Rows.uptoSmall) rfl false ⟨#[], #[.agg #[.slice none 0 0, .slice none 0 0]], []⟩ 8 (by kernel_rfl) (by kernel_rfl) (by kernel_rfl) (x := ([.agg [.nil, .nil]], [], [])) (by kernel_rfl) rfl (by kernel_rfl)) ?_
  intro W b args ds p hA hval hsz hbulk
  rw [Tryz.params4] at hA hval hsz
  obtain ⟨v0, vs0, d0, ds0, p0, q0, hargs, rfl, rfl, h0, r0⟩ := trodAll_cons hA
  obtain ⟨rfl, rfl, rfl⟩ := trodAll_nil r0
  have hargs' : args = #[v0] := by apply Array.toList_inj.1; simpa using hargs
  subst hargs'
  have w0 := weightsEach_at _ _ hsz 0 _ _ rfl rfl
  obtain ⟨cs0, a0, rfl, s0, m0⟩ := arg_struct dec_Frm Tryz.underlying40 (hval 0 40 _ rfl rfl) h0 w0
  simp only [Rows.uptoBulkAll] at hbulk
  exact law_FormTells W cs0 a0 s0 (Nat.le_trans m0 (by omega))
theorem FormTellsUpto_holds : Rows.FormTellsUptoSaid :=
  OpenClaim.holds_of_cond 4 Tryz.f4 rfl rfl rfl rfl rfl rfl rfl ⟨rfl, rfl, rfl, rfl, rfl⟩ rfl rfl rfl rfl rfl (by kernel_rfl) Tryz.func4 (by kernel_rfl)
    (of_decide_eq_true (by kernel_rfl)) (by unfold Func.isWrapper; rw [if_neg (of_decide_eq_false (by kernel_rfl))]; exact ⟨rfl, rfl⟩)
    (fun os started H enc _ FS => FormTellsUpto_lifted os started H enc FS)
end Go.Proofs.YtgmcojnhpedpnaaGreat
