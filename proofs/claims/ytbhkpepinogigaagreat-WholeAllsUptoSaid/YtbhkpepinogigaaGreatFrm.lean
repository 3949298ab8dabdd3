/- sheet.Check and the reference FormFault. -/
import Derived.Test.YtbhkpepinogigaaGreatRnk7
import Derived.Test.YtbhkpepinogigaaGreatPCk
namespace Go.Proofs.YtbhkpepinogigaaGreat
open Go.RowKit

/-- What is wrong with a form. -/
def formErr (F : List Fld) (P : List Pag) : Int := if (rankR F).2.2 ≠ 0 then (rankR F).2.2 else pagesErr P F
/-- A form whose formulas are no greater than what is reckoned with. -/
def FldsOk (F : List Fld) : Prop := (∀ f ∈ F, f.source.nodes ≤ 1048576) ∧ ∀ f ∈ F, inS f.name ∧ ∀ s ∈ askN f.source, inS s
/-- A form as it is handed in. -/
def RFo (w : World) (B : Option Addr) (m d : Nat) (F : List Fld) (A : Option Addr) (n c : Nat) (P : List Pag) : Prop :=
  inB 112 m ∧ m ≤ d ∧ inB 120 n ∧ n ≤ c ∧ Sl w (old w) 9 (RFld w (old w)) B m F ∧ Sl w (old w) 8 (RPag w (old w)) A n P
theorem RFo.now {w w' : World} {B A : Option Addr} {m d n c : Nat} {F : List Fld} {P : List Pag} (h : RFo w B m d F A n c P) (hb : Below w.heap.size w w') : RFo w' B m d F A n c P :=
  ⟨h.1, h.2.1, h.2.2.1, h.2.2.2.1, h.2.2.2.2.1.nowN keeps_Fld hb, h.2.2.2.2.2.nowN keeps_Pag hb⟩
theorem rank_Of3 {l : List Fld} {lo : List Int} {lc : List ByteArray} {er : Int} (hr : rankR l = (lo, lc, er)) {w : World} {e : Ending} {w' : World} (h : RetRk w (rankR l) e w') :
    ∃ A c B d, e = .returned (.tuple #[.slice A lo.length c, .slice B lc.length d, .int .i64 er]) ∧ lo.length ≤ c ∧ lc.length ≤ d ∧ Sl w' (fresh w w') 1 RInt A lo.length lo ∧ Sl w' (fresh w w') 1 RStr B lc.length lc ∧ Below w.heap.size w w' := by
  rw [hr] at h; exact h

set_option maxRecDepth 100000 in
set_option maxHeartbeats 2000000 in
theorem sheet_Check (B : Option Addr) (m d : Nat) (F : List Fld) (A : Option Addr) (n c : Nat) (P : List Pag) (w : World) (hX : RFo w B m d F A n c P) (hO : FldsOk F) :
    Calls Tryz.prog 66 #[.agg #[.slice B m d, .slice A n c]] w (RetI w (formErr F P)) := by
  obtain ⟨lo, lc, er, hr⟩ : ∃ lo lc er, rankR F = (lo, lc, er) := ⟨_, _, _, rfl⟩
  have h1 := fun w (h : RFo w B m d F A n c P) => rank_Of F B m d w h.1 h.2.1 h.2.2.2.2.1 hO.1 hO.2
  have h2 := fun w (h : RFo w B m d F A n c P) => page_Check P A n c F B m d w (h.2.2.1.l (by decide)) h.2.2.2.1 h.1 h.2.2.2.2.2 h.2.2.2.2.1
  have HX := Lib.hid hX
  have HR := Lib.hid hr
  have hfe : formErr F P = if er ≠ 0 then er else pagesErr P F := by unfold formErr; rw [hr]
  clear hX hO hr
  by_cases he : er = 0
  · rw [hfe, if_neg (by simpa using he)]
    subst he
    clear hfe
    go_enter Tryz.func66, Tryz.ntmps66
    go_wp2_with fail
    refine (h1 _ (HX.out.now bel)).mono ?_; intro e w1 q1; obtain ⟨A1, c1, B1, d1, rfl, _, _, _, _, hb1⟩ := rank_Of3 HR.out q1; clear q1; obtain ⟨hc1, hf1⟩ := bcell hb1; (try simp only [bqh, bqc, bqf] at hc1 hf1); have hz1 := hb1.size; (try simp at hz1); (try have hy1 := nl1 hz1); (try have hx1 := nl2 hy1); refine szz w1 w ?_; intros
    go_wp2_with fail
    refine (h2 _ (HX.out.now bel)).mono ?_; rintro e w2 ⟨rfl, hb2⟩; obtain ⟨hc2, hf2⟩ := bcell hb2; (try simp only [bqh, bqc, bqf] at hc2 hf2); have hz2 := hb2.size; (try simp at hz2); (try have hy2 := nl1 hz2); (try have hx2 := nl2 hy2); refine szz w2 w ?_; intros; refine szz w2 w1 ?_; intros
    go_wp2_with fail
    go_ret
    exact ⟨rfl, bel⟩
  · rw [hfe, if_pos he]
    have g1 : (er != 0) = true := by simpa using he
    clear hfe
    go_enter Tryz.func66, Tryz.ntmps66
    go_wp2_with fail
    refine (h1 _ (HX.out.now bel)).mono ?_; intro e w1 q1; obtain ⟨A1, c1, B1, d1, rfl, _, _, _, _, hb1⟩ := rank_Of3 HR.out q1; clear q1; obtain ⟨hc1, hf1⟩ := bcell hb1; (try simp only [bqh, bqc, bqf] at hc1 hf1); have hz1 := hb1.size; (try simp at hz1); (try have hy1 := nl1 hz1); (try have hx1 := nl2 hy1); refine szz w1 w ?_; intros
    go_wp2_with fail
    go_ret
    exact ⟨rfl, bel⟩

set_option maxRecDepth 100000 in
set_option maxHeartbeats 2000000 in
theorem ref_FormFault (B : Option Addr) (m d : Nat) (F : List Fld) (A : Option Addr) (n c : Nat) (P : List Pag) (w : World) (hX : RFo w B m d F A n c P) (hO : FldsOk F) :
    Calls Tryz.prog 70 #[.agg #[.slice B m d, .slice A n c]] w (RetI w (formErr F P)) := by
  obtain ⟨lo, lc, er, hr⟩ : ∃ lo lc er, rankR F = (lo, lc, er) := ⟨_, _, _, rfl⟩
  have h1 := fun w (h : RFo w B m d F A n c P) => ref_FieldRanks F B m d w h.1 h.2.2.2.2.1 hO.1 hO.2
  have h2 := fun w (h : RFo w B m d F A n c P) => ref_PagesFault P A n c F B m d w (h.2.2.1.l (by decide)) h.2.2.2.1 h.1 h.2.2.2.2.2 h.2.2.2.2.1
  have HX := Lib.hid hX
  have HR := Lib.hid hr
  have hfe : formErr F P = if er ≠ 0 then er else pagesErr P F := by unfold formErr; rw [hr]
  clear hX hO hr
  by_cases he : er = 0
  · rw [hfe, if_neg (by simpa using he)]
    subst he
    clear hfe
    go_enter Tryz.func70, Tryz.ntmps70
    go_wp2_with fail
    refine (h1 _ (HX.out.now bel)).mono ?_; intro e w1 q1; obtain ⟨A1, c1, B1, d1, rfl, _, _, _, _, hb1⟩ := rank_Of3 HR.out q1; clear q1; obtain ⟨hc1, hf1⟩ := bcell hb1; (try simp only [bqh, bqc, bqf] at hc1 hf1); have hz1 := hb1.size; (try simp at hz1); (try have hy1 := nl1 hz1); (try have hx1 := nl2 hy1); refine szz w1 w ?_; intros
    go_wp2_with fail
    refine (h2 _ (HX.out.now bel)).mono ?_; rintro e w2 ⟨rfl, hb2⟩; obtain ⟨hc2, hf2⟩ := bcell hb2; (try simp only [bqh, bqc, bqf] at hc2 hf2); have hz2 := hb2.size; (try simp at hz2); (try have hy2 := nl1 hz2); (try have hx2 := nl2 hy2); refine szz w2 w ?_; intros; refine szz w2 w1 ?_; intros
    go_wp2_with fail
    go_ret
    exact ⟨rfl, bel⟩
  · rw [hfe, if_pos he]
    have g1 : (er != 0) = true := by simpa using he
    clear hfe
    go_enter Tryz.func70, Tryz.ntmps70
    go_wp2_with fail
    refine (h1 _ (HX.out.now bel)).mono ?_; intro e w1 q1; obtain ⟨A1, c1, B1, d1, rfl, _, _, _, _, hb1⟩ := rank_Of3 HR.out q1; clear q1; obtain ⟨hc1, hf1⟩ := bcell hb1; (try simp only [bqh, bqc, bqf] at hc1 hf1); have hz1 := hb1.size; (try simp at hz1); (try have hy1 := nl1 hz1); (try have hx1 := nl2 hy1); refine szz w1 w ?_; intros
    go_wp2_with fail
    go_ret
    exact ⟨rfl, bel⟩
end Go.Proofs.YtbhkpepinogigaaGreat
