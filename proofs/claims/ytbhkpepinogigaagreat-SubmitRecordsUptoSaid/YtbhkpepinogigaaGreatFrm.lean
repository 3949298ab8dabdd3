/- sheet.Check and the reference FormFault; sheet.Copy; sameForm. -/
import Derived.Test.YtbhkpepinogigaaGreatRnk7
import Derived.Test.YtbhkpepinogigaaGreatPCk
import Derived.Test.YtbhkpepinogigaaGreatCop3
import Derived.Test.YtbhkpepinogigaaGreatSamf
namespace Go.Proofs.YtbhkpepinogigaaGreat
open Go.RowKit

/-- What is wrong with a form. -/
def formErr (F : List Fld) (P : List Pag) : Int := if (rankR F).2.2 ≠ 0 then (rankR F).2.2 else pagesErr P F
/-- A form whose formulas are no greater than what is reckoned with. -/
def FldsOk (F : List Fld) : Prop := (∀ f ∈ F, f.source.nodes ≤ 1048576) ∧ ∀ f ∈ F, inS f.name ∧ ∀ s ∈ askN f.source, inS s
/-- A form as it is handed in. -/
def RFo (w : World) (B : Option Addr) (m d : Nat) (F : List Fld) (A : Option Addr) (n c : Nat) (P : List Pag) : Prop :=
  inB 112 m ∧ m ≤ d ∧ inB 120 n ∧ n ≤ c ∧ Sl w (old w) 9 (RFld w (old w)) B m F ∧ Sl w (old w) 8 (RPag w (old w)) A n P
theorem RFo.now {w w' : World} {B A : Option Addr} {m d n c : Nat} {F : List Fld} {P : List Pag} (h : RFo w B m d F A n c P) (hb : Below w.heap.size w w') : RFo w' B m d F A n c P :=
  ⟨h.1, h.2.1, h.2.2.1, h.2.2.2.1, h.2.2.2.2.1.nowN keeps_Fld hb, h.2.2.2.2.2.nowN keeps_Pag hb⟩
theorem rank_Of3 {l : List Fld} {lo : List Int} {lc : List ByteArray} {er : Int} (hr : rankR l = (lo, lc, er)) {w : World} {e : Ending} {w' : World} (h : RetRk w (rankR l) e w') :
    ∃ A c B d, e = .returned (.tuple #[.slice A lo.length c, .slice B lc.length d, .int .i64 er]) ∧ lo.length ≤ c ∧ lc.length ≤ d ∧ Sl w' (fresh w w') 1 RInt A lo.length lo ∧ Sl w' (fresh w w') 1 RStr B lc.length lc ∧ Below w.heap.size w w' := by
  rw [hr] at h; exact h

set_option maxRecDepth 100000 in
set_option maxHeartbeats 2000000 in
theorem sheet_Check (B : Option Addr) (m d : Nat) (F : List Fld) (A : Option Addr) (n c : Nat) (P : List Pag) (w : World) (hX : RFo w B m d F A n c P) (hO : FldsOk F) :
    Calls Tryz.prog 66 #[.agg #[.slice B m d, .slice A n c]] w (RetI w (formErr F P)) := by
  obtain ⟨lo, lc, er, hr⟩ : ∃ lo lc er, rankR F = (lo, lc, er) := ⟨_, _, _, rfl⟩
  have h1 := fun w (h : RFo w B m d F A n c P) => rank_Of F B m d w h.1 h.2.1 h.2.2.2.2.1 hO.1 hO.2
  have h2 := fun w (h : RFo w B m d F A n c P) => page_Check P A n c F B m d w (h.2.2.1.l (by decide)) h.2.2.2.1 h.1 h.2.2.2.2.2 h.2.2.2.2.1
  have HX := Lib.hid hX
  have HR := Lib.hid hr
  have hfe : formErr F P = if er ≠ 0 then er else pagesErr P F := by unfold formErr; rw [hr]
  clear hX hO hr
  by_cases he : er = 0
  · rw [hfe, if_neg (by simpa using he)]
    subst he
    clear hfe
    go_enter Tryz.func66, Tryz.ntmps66
    go_wp2_with fail
    refine (h1 _ (HX.out.now bel)).mono ?_; intro e w1 q1; obtain ⟨A1, c1, B1, d1, rfl, _, _, _, _, hb1⟩ := rank_Of3 HR.out q1; clear q1; obtain ⟨hc1, hf1⟩ := bcell hb1; (try simp only [World.heap_drewN, World.cell?_drewN, World.frozen?_drewN] at hc1 hf1); have hz1 := hb1.size; (try simp at hz1); (try (have hy1 := Nat.lt_of_succ_le hz1)); (try (have hx1 := Nat.lt_of_succ_lt hy1)); refine szz w1 w ?_; intros
    go_wp2_with fail
    refine (h2 _ (HX.out.now bel)).mono ?_; rintro e w2 ⟨rfl, hb2⟩; obtain ⟨hc2, hf2⟩ := bcell hb2; (try simp only [World.heap_drewN, World.cell?_drewN, World.frozen?_drewN] at hc2 hf2); have hz2 := hb2.size; (try simp at hz2); (try (have hy2 := Nat.lt_of_succ_le hz2)); (try (have hx2 := Nat.lt_of_succ_lt hy2)); refine szz w2 w ?_; intros; refine szz w2 w1 ?_; intros
    go_wp2_with fail
    go_ret
    exact ⟨rfl, bel⟩
  · rw [hfe, if_pos he]
    have g1 : (er != 0) = true := by simpa using he
    clear hfe
    go_enter Tryz.func66, Tryz.ntmps66
    go_wp2_with fail
    refine (h1 _ (HX.out.now bel)).mono ?_; intro e w1 q1; obtain ⟨A1, c1, B1, d1, rfl, _, _, _, _, hb1⟩ := rank_Of3 HR.out q1; clear q1; obtain ⟨hc1, hf1⟩ := bcell hb1; (try simp only [World.heap_drewN, World.cell?_drewN, World.frozen?_drewN] at hc1 hf1); have hz1 := hb1.size; (try simp at hz1); (try (have hy1 := Nat.lt_of_succ_le hz1)); (try (have hx1 := Nat.lt_of_succ_lt hy1)); refine szz w1 w ?_; intros
    go_wp2_with fail
    go_ret
    exact ⟨rfl, bel⟩

set_option maxRecDepth 100000 in
set_option maxHeartbeats 2000000 in
theorem ref_FormFault (B : Option Addr) (m d : Nat) (F : List Fld) (A : Option Addr) (n c : Nat) (P : List Pag) (w : World) (hX : RFo w B m d F A n c P) (hO : FldsOk F) :
    Calls Tryz.prog 70 #[.agg #[.slice B m d, .slice A n c]] w (RetI w (formErr F P)) := by
  obtain ⟨lo, lc, er, hr⟩ : ∃ lo lc er, rankR F = (lo, lc, er) := ⟨_, _, _, rfl⟩
  have h1 := fun w (h : RFo w B m d F A n c P) => ref_FieldRanks F B m d w h.1 h.2.2.2.2.1 hO.1 hO.2
  have h2 := fun w (h : RFo w B m d F A n c P) => ref_PagesFault P A n c F B m d w (h.2.2.1.l (by decide)) h.2.2.2.1 h.1 h.2.2.2.2.2 h.2.2.2.2.1
  have HX := Lib.hid hX
  have HR := Lib.hid hr
  have hfe : formErr F P = if er ≠ 0 then er else pagesErr P F := by unfold formErr; rw [hr]
  clear hX hO hr
  by_cases he : er = 0
  · rw [hfe, if_neg (by simpa using he)]
    subst he
    clear hfe
    go_enter Tryz.func70, Tryz.ntmps70
    go_wp2_with fail
    refine (h1 _ (HX.out.now bel)).mono ?_; intro e w1 q1; obtain ⟨A1, c1, B1, d1, rfl, _, _, _, _, hb1⟩ := rank_Of3 HR.out q1; clear q1; obtain ⟨hc1, hf1⟩ := bcell hb1; (try simp only [World.heap_drewN, World.cell?_drewN, World.frozen?_drewN] at hc1 hf1); have hz1 := hb1.size; (try simp at hz1); (try (have hy1 := Nat.lt_of_succ_le hz1)); (try (have hx1 := Nat.lt_of_succ_lt hy1)); refine szz w1 w ?_; intros
    go_wp2_with fail
    refine (h2 _ (HX.out.now bel)).mono ?_; rintro e w2 ⟨rfl, hb2⟩; obtain ⟨hc2, hf2⟩ := bcell hb2; (try simp only [World.heap_drewN, World.cell?_drewN, World.frozen?_drewN] at hc2 hf2); have hz2 := hb2.size; (try simp at hz2); (try (have hy2 := Nat.lt_of_succ_le hz2)); (try (have hx2 := Nat.lt_of_succ_lt hy2)); refine szz w2 w ?_; intros; refine szz w2 w1 ?_; intros
    go_wp2_with fail
    go_ret
    exact ⟨rfl, bel⟩
  · rw [hfe, if_pos he]
    have g1 : (er != 0) = true := by simpa using he
    clear hfe
    go_enter Tryz.func70, Tryz.ntmps70
    go_wp2_with fail
    refine (h1 _ (HX.out.now bel)).mono ?_; intro e w1 q1; obtain ⟨A1, c1, B1, d1, rfl, _, _, _, _, hb1⟩ := rank_Of3 HR.out q1; clear q1; obtain ⟨hc1, hf1⟩ := bcell hb1; (try simp only [World.heap_drewN, World.cell?_drewN, World.frozen?_drewN] at hc1 hf1); have hz1 := hb1.size; (try simp at hz1); (try (have hy1 := Nat.lt_of_succ_le hz1)); (try (have hx1 := Nat.lt_of_succ_lt hy1)); refine szz w1 w ?_; intros
    go_wp2_with fail
    go_ret
    exact ⟨rfl, bel⟩

set_option maxRecDepth 100000 in
set_option maxHeartbeats 4000000 in
theorem sheet_Copy (B : Option Addr) (m d : Nat) (F : List Fld) (A : Option Addr) (n c : Nat) (P : List Pag) (w : World) (hX : RFo w B m d F A n c P) :
    Calls Tryz.prog 92 #[.agg #[.slice B m d, .slice A n c]] w (RetFrm w F P) := by
  have h1 := fun w (h : RFo w B m d F A n c P) => field_Copy B m d F w h.1 h.2.2.2.2.1
  have h2 := fun w (h : RFo w B m d F A n c P) => page_Copy A n c P w h.2.2.1 h.2.2.2.2.2
  have HX := Lib.hid hX
  have HL := Lib.hid (And.intro hX.2.2.2.2.1.len hX.2.2.2.2.2.len)
  clear hX
  go_enter Tryz.func92, Tryz.ntmps92
  go_wp2_with fail
  refine wp_world ?_; intro W0 hW0
  have hS0 : W0.drew.cell? ⟨w.heap.size, 0, none⟩ = some (.slice B m d) ∧ W0.drew.cell? ⟨w.heap.size, 1, none⟩ = some (.slice A n c) := by rw [hW0]; exact ⟨by go_simp, by go_simp⟩
  have hB0 : Below w.heap.size w W0.drew := by rw [hW0]; exact bel
  have hZ0 : W0.heap.size = w.heap.size + 2 := by rw [hW0]; simp
  have hc0 : W0.cell? ⟨w.heap.size + 1, 0, none⟩ = some (.slice none 0 0) ∧ W0.cell? ⟨w.heap.size + 1, 1, none⟩ = some (.slice none 0 0) := by rw [hW0]; exact ⟨by go_simp, by go_simp⟩
  have hf0 : W0.frozen? ⟨w.heap.size + 1, 0, none⟩ = false ∧ W0.frozen? ⟨w.heap.size + 1, 1, none⟩ = false := by rw [hW0]; exact ⟨by go_simp, by go_simp⟩
  clear hW0
  refine wp_region_T (fun w' => w'.cell? ⟨w.heap.size, 0, none⟩ = some (.slice B m d) ∧ w'.cell? ⟨w.heap.size, 1, none⟩ = some (.slice A n c)) 7 (by kernel_rfl) ?_
  refine wpAnyT_take (i := 0) (oi := _) (v := ?_) rfl (by kernel_rfl) (fun _ _ _ h => h) hS0 (by rfl) ?_ ?_
  rotate_left
  · intro w' hS'; (try dsimp only at hS'); (try go_split_ands); go_simp; (try rw [if_neg (by omega)]); try with_reducible rfl
  simp only [Act.put, List.setIfInBounds_toArray, List.set_cons_zero, List.set_cons_succ]
  refine wpAnyT_take (i := 1) (oi := _) (v := ?_) rfl (by kernel_rfl) (fun _ _ _ h => h) hS0 (by rfl) ?_ ?_
  rotate_left
  · intro w' hS'; (try dsimp only at hS'); (try go_split_ands); go_simp; (try rw [if_neg (by omega)]); try with_reducible rfl
  simp only [Act.put, List.setIfInBounds_toArray, List.set_cons_zero, List.set_cons_succ]
  refine wpAnyT_take (i := 3) (oi := _) (v := ?_) rfl (by kernel_rfl) (fun _ _ _ h => h) hS0 (by rfl) ?_ ?_
  rotate_left
  · intro w' hS'; (try dsimp only at hS'); (try go_split_ands); go_simp; (try rw [if_neg (by omega)]); try with_reducible rfl
  simp only [Act.put, List.setIfInBounds_toArray, List.set_cons_zero, List.set_cons_succ]
  refine wpAnyT_take (i := 4) (oi := _) (v := ?_) rfl (by kernel_rfl) (fun _ _ _ h => h) hS0 (by rfl) ?_ ?_
  rotate_left
  · intro w' hS'; (try dsimp only at hS'); (try go_split_ands); go_simp; (try rw [if_neg (by omega)]); try with_reducible rfl
  simp only [Act.put, List.setIfInBounds_toArray, List.set_cons_zero, List.set_cons_succ]
  refine wpAnyT_one (i := 2) (o := _) rfl (by kernel_rfl) (fun K hK => ?_)
  · go_simp
    go_at_call 151; refine (h1 _ (HX.out.now hB0)).mono ?_; rintro e w3 ⟨A1, c1, rfl, hq1, hs1', hb3⟩
    have hS3 := And.intro (cell_keep hS0.1 hb3) (cell_keep hS0.2 hb3)
    have hw3 : Below W0.drew.heap.size W0.drew w3 := hb3
    have hB3 : Below w.heap.size w w3 := below_step hB0 hb3 (by simp [heap_drew]; omega)
    have hz3 : W0.heap.size ≤ w3.heap.size := by have := hb3.size; simpa [heap_drew] using this
    refine hK.out _ _ (fun _ => hS3) ?_
    clear hK K
    try simp only [Act.put, List.setIfInBounds_toArray, List.set_cons_zero, List.set_cons_succ]
    refine wpAnyT_one (i := 5) (o := _) rfl (by kernel_rfl) (fun K hK => ?_)
    go_simp
    go_at_call 152; refine (h2 _ (HX.out.now hB3)).mono ?_; rintro e wE ⟨A2, c2, rfl, hq2, hs2', hbE⟩
    have hSE := And.intro (cell_keep hS3.1 hbE) (cell_keep hS3.2 hbE)
    have hBE : Below w.heap.size w wE := below_step hB3 hbE (by omega)
    have hZE : W0.heap.size ≤ wE.heap.size := Nat.le_trans hz3 hbE.size
    have hWE : Below W0.drew.heap.size W0.drew wE := below_step hw3 hbE (by simp [heap_drew]; omega)
    have hs1 := hs1'.keepN keeps_Fld (w' := wE) (S' := since W0.heap.size wE) (fun b hb => ⟨⟨by have h9 := hb.1; simp [heap_drew] at h9; omega, Nat.lt_of_lt_of_le hb.2 hbE.size⟩, hbE.block b hb.2⟩)
    have hs2 := hs2'.keepN keeps_Pag (w' := wE) (S' := since W0.heap.size wE) (fun b hb => ⟨⟨by have h9 := hb.1; omega, hb.2⟩, rfl⟩)
    clear hs1' hs2'
    refine hK.out _ _ (fun _ => hSE) ?_
    clear hK K
    try simp only [Act.put, List.setIfInBounds_toArray, List.set_cons_zero, List.set_cons_succ]
    refine wpAnyT_take (i := 6) (oi := _) (v := ?_) rfl (by kernel_rfl) (fun _ _ _ h => h) hSE (by rfl) ?_ ?_
    rotate_left
    · intro w' hS'; (try dsimp only at hS'); (try go_split_ands); go_simp; (try rw [if_neg (by omega)]); try with_reducible rfl
    simp only [Act.put, List.setIfInBounds_toArray, List.set_cons_zero, List.set_cons_succ]
    have ho1 : w.heap.size + 1 < W0.drew.heap.size := by simp [heap_drew]; omega
    have z0 := (hWE.cell (p := ⟨w.heap.size + 1, 0, none⟩) ho1).trans hc0.1
    have z1 := (hWE.cell (p := ⟨w.heap.size + 1, 1, none⟩) ho1).trans hc0.2
    have f0 := (hWE.frozen (p := ⟨w.heap.size + 1, 0, none⟩) ho1).trans hf0.1
    have f1 := (hWE.frozen (p := ⟨w.heap.size + 1, 1, none⟩) ho1).trans hf0.2
    have hlE : w.heap.size + 1 < wE.heap.size := by omega
    refine wpAnyT_one (i := 7) (o := _) rfl (by kernel_rfl) (fun K hK => ?_)
    go_simp
    refine hK.out _ _ (fun h => absurd h (by decide)) ?_
    clear hK K
    refine wpAnyT_done (by kernel_rfl) ?_ _
    try simp only [Act.put, List.setIfInBounds_toArray, List.set_cons_zero, List.set_cons_succ]
    go_wp2_with fail
    refine bodyPost_ret (v := .agg #[.slice A1 F.length c1, .slice A2 P.length c2]) (by first | (simp [results, Tryz.results92, go_sem, z0, z1]; done) | (simp [results, Tryz.results92, go_sem, *]; done)) rfl ?_
    have hset : ∀ b, w.heap.size + 2 ≤ b → ∀ u v, ((wE.setCell ⟨w.heap.size + 1, 0, none⟩ u).setCell ⟨w.heap.size + 1, 1, none⟩ v).heap[b]? = wE.heap[b]? := by
      intro b hb u v
      iterate 2 rw [heap_setCell_other _ _ _ _ (by simp; omega)]
    exact ⟨A1, c1, A2, c2, rfl, hq1, hq2, hs1.keepN keeps_Fld (fun b hb => ⟨⟨by have := hb.1; omega, by simpa using hb.2⟩, hset b (by have := hb.1; omega) _ _⟩), hs2.keepN keeps_Pag (fun b hb => ⟨⟨by have := hb.1; omega, by simpa using hb.2⟩, hset b (by have := hb.1; omega) _ _⟩), below_set (below_set hBE (by simp)) (by simp)⟩
set_option maxRecDepth 100000 in
set_option maxHeartbeats 1000000 in
theorem same_Form (F : List Fld) (P : List Pag) (A1 A2 A3 A4 : Option Addr) (c1 c2 c3 c4 : Nat) (w : World) (hF : inL F.length) (hP : inL P.length) (h1 : Sl w (old w) 9 (RFld w (old w)) A1 F.length F) (h2 : Sl w (old w) 8 (RPag w (old w)) A2 P.length P)
    (h3 : Sl w (old w) 9 (RFld w (old w)) A3 F.length F) (h4 : Sl w (old w) 8 (RPag w (old w)) A4 P.length P) :
    Calls Tryz.prog 96 #[.agg #[.slice A1 F.length c1, .slice A2 P.length c2], .agg #[.slice A3 F.length c3, .slice A4 P.length c4]] w (RetB w true) := by
  have HH := Lib.hid (And.intro h1 (And.intro h2 (And.intro h3 h4)))
  clear h1 h2 h3 h4
  go_enter Tryz.func96, Tryz.ntmps96
  go_wp2_with fail
  refine (same_Fields F A1 F.length c1 A3 c3 _ hF (HH.out.1.nowN keeps_Fld bel) (HH.out.2.2.1.nowN keeps_Fld bel)).mono ?_; rintro e w1 ⟨rfl, hb1⟩; obtain ⟨hc1, hf1⟩ := bcell hb1; (try simp only [World.heap_drewN, World.cell?_drewN, World.frozen?_drewN] at hc1 hf1); have hz1 := hb1.size; (try simp at hz1); (try (have hy1 := Nat.lt_of_succ_le hz1)); (try (have hx1 := Nat.lt_of_succ_lt hy1)); refine szz w1 w ?_; intros
  go_wp2_with fail
  refine (same_Pages P A2 P.length c2 A4 c4 _ hP (HH.out.2.1.nowN keeps_Pag bel) (HH.out.2.2.2.nowN keeps_Pag bel)).mono ?_; rintro e w2 ⟨rfl, hb2⟩; obtain ⟨hc2, hf2⟩ := bcell hb2; (try simp only [World.heap_drewN, World.cell?_drewN, World.frozen?_drewN] at hc2 hf2); have hz2 := hb2.size; (try simp at hz2); (try (have hy2 := Nat.lt_of_succ_le hz2)); (try (have hx2 := Nat.lt_of_succ_lt hy2)); refine szz w2 w ?_; intros; refine szz w2 w1 ?_; intros
  go_wp2_with fail
  go_ret
  exact ⟨rfl, bel⟩
end Go.Proofs.YtbhkpepinogigaaGreat
