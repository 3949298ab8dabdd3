/- eval.Of. -/
import Derived.Test.YtbhkpepinogigaaGreatMacP
import Derived.Test.YtbhkpepinogigaaGreatPrt3
namespace Go.Proofs.YtbhkpepinogigaaGreat
open Go.RowKit Go.Maps

def evalRes (l:List Fct) (x:Exp):Val × Int:=if exprErr x ≠ 0 then (noVal,exprErr x) else if factsErr l ≠ 0 then (noVal,factsErr l) else (evX l x,0)
def RetVE (w:World) (r:Val × Int) (e:Ending) (w':World):Prop:=e = .returned (.tuple #[r.1.ag,.int .i64 r.2]) ∧ Below w.heap.size w w'
theorem prt_of_exprErr {x:Exp} (h:exprErr x = 0):prtN x = 0:=by
 unfold exprErr at h
 split at h
 ·cases h
 split at h
 ·cases h
 ·exact h
theorem evalRes_bad {l:List Fct} {x:Exp} {e:Int} (h:exprErr x = e) (h0:e ≠ 0):evalRes l x = (noVal,e):=by
 unfold evalRes;rw [if_pos (by rw [h];exact h0),h]
theorem evalRes_fct {l:List Fct} {x:Exp} {e:Int} (h:exprErr x = 0) (h1:factsErr l = e) (h0:e ≠ 0):evalRes l x = (noVal,e):=by
 unfold evalRes;rw [if_neg (by simpa using h),if_pos (by rw [h1];exact h0),h1]
theorem evalRes_ok {l:List Fct} {x:Exp} (h:exprErr x = 0) (h1:factsErr l = 0):evalRes l x = (evX l x,0):=by
 unfold evalRes;rw [if_neg (by simpa using h),if_neg (by simpa using h1)]
set_option maxRecDepth 100000 in
set_option maxHeartbeats 8000000 in
theorem eval_Of (l:List Fct) (L:Option Addr) (n d:Nat) (x:Exp) (A:Option Addr) (c:Nat) (w:World) (hn:inL n) (hx:XRep w (old w) (x.cs A c) x) (hl:Sl w (old w) 7 RFct L n l) :
  Calls Tryz.prog 135 #[.agg (x.cs A c).toArray,.slice L n d] w (RetVE w (evalRes l x)):=by
 have hck:=fun w h => expr_Check x A c w h
 have hft:=fun w h => eval_facts L n d l w hn h
 have HX:=Lib.hid (And.intro hx hl)
 clear hx hl
 by_cases he:exprErr x = 0
 ·have HP:=Lib.hid (prt_of_exprErr he)
  by_cases hf:factsErr l = 0
  ·have hof:=fun fb w h h' => machine_all_N l (factsErr_ok hf) fb n x.nodes x A c w (Nat.le_refl _) HP.out h h'
   rw [evalRes_ok he hf]
   have HF:=Lib.hid hf
   simp only [he] at hck
   generalize evX l x = u at hof
   clear he hf
   go_enter Tryz.func135,Tryz.ntmps135
   go_wp2_with (first
    | (go_at_call 146;refine (hck _ (HX.out.1.keep (old_keep bel))).mono ?_;rintro e w1 ⟨rfl,hb1⟩;obtain ⟨hc1,hf1⟩:=bcell hb1;(try simp only [bqh,bqc,bqf] at hc1 hf1);have hz1:=hb1.size;(try simp at hz1);(try have hy1:=nl1 hz1);(try have hx1:=nl2 hy1);refine szz w1 w ?_;intros)
    | (go_at_call 179;refine (hft _ (HX.out.2.now bel)).mono ?_;rintro e w2 hq2;unfold RetF at hq2;rw [if_pos HF.out] at hq2;obtain ⟨⟨rfl,hM2⟩,hb2⟩:=hq2;obtain ⟨hc2,hf2⟩:=bcell hb2;(try simp only [bqh,bqc,bqf] at hc2 hf2);have hz2:=hb2.size;(try simp at hz2);(try have hy2:=nl1 hz2);(try have hx2:=nl2 hy2);refine szz w2 w ?_;intros;refine szz w2 w1 ?_;intros;dsimp only)
    | (go_at_call 180;refine (hof _ _ (HX.out.1.keep (old_keep bel)) hM2).mono ?_;rintro e w3 ⟨rfl,hb3⟩;obtain ⟨hc3,hf3⟩:=bcell hb3;(try simp only [bqh,bqc,bqf] at hc3 hf3);have hz3:=hb3.size;(try simp at hz3);(try have hy3:=nl1 hz3);(try have hx3:=nl2 hy3);refine szz w3 w ?_;intros;refine szz w3 w1 ?_;intros;refine szz w3 w2 ?_;intros;dsimp only))
   exact bodyPost_ret (v:=.tuple #[.agg #[.int .i64 u.k,.int .i64 u.n,.string u.s],.int .i64 0]) (by first | (simp [results,Tryz.results135,go_sem];done) | (simp [results,Tryz.results135,go_sem, *];done)) rfl ⟨rfl,bel⟩
  ·obtain ⟨fe,hfe⟩:∃ e,factsErr l = e:=⟨_,rfl⟩
   rw [evalRes_fct he hfe (by rw [← hfe];exact hf)]
   have hfb:(fe != 0) = true:=by rw [← hfe];simpa using hf
   have HF:=Lib.hid (And.intro hf hfe)
   simp only [he] at hck
   clear he hf hfe
   go_enter Tryz.func135,Tryz.ntmps135
   go_wp2_with (first
    | (go_at_call 146;refine (hck _ (HX.out.1.keep (old_keep bel))).mono ?_;rintro e w1 ⟨rfl,hb1⟩;obtain ⟨hc1,hf1⟩:=bcell hb1;(try simp only [bqh,bqc,bqf] at hc1 hf1);have hz1:=hb1.size;(try simp at hz1);(try have hy1:=nl1 hz1);(try have hx1:=nl2 hy1);refine szz w1 w ?_;intros)
    | (go_at_call 179;refine (hft _ (HX.out.2.now bel)).mono ?_;rintro e w2 hq2;unfold RetF at hq2;rw [if_neg HF.out.1,HF.out.2] at hq2;obtain ⟨rfl,hb2⟩:=hq2;obtain ⟨hc2,hf2⟩:=bcell hb2;(try simp only [bqh,bqc,bqf] at hc2 hf2);have hz2:=hb2.size;(try simp at hz2);(try have hy2:=nl1 hz2);(try have hx2:=nl2 hy2);refine szz w2 w ?_;intros;refine szz w2 w1 ?_;intros;dsimp only))
   exact bodyPost_ret (v:=.tuple #[.agg #[.int .i64 0,.int .i64 0,.string ⟨#[]⟩],.int .i64 fe]) (by first | (simp [results,Tryz.results135,go_sem];done) | (simp [results,Tryz.results135,go_sem, *];done)) rfl ⟨rfl,bel⟩
 ·obtain ⟨ee,hee⟩:∃ e,exprErr x = e:=⟨_,rfl⟩
  rw [evalRes_bad hee (by rw [← hee];exact he)]
  have heb:(ee != 0) = true:=by rw [← hee];simpa using he
  simp only [hee] at hck
  clear he hee
  go_enter Tryz.func135,Tryz.ntmps135
  go_wp2_with (go_at_call 146;refine (hck _ (HX.out.1.keep (old_keep bel))).mono ?_;rintro e w1 ⟨rfl,hb1⟩;obtain ⟨hc1,hf1⟩:=bcell hb1;(try simp only [bqh,bqc,bqf] at hc1 hf1);have hz1:=hb1.size;(try simp at hz1);(try have hy1:=nl1 hz1);(try have hx1:=nl2 hy1);refine szz w1 w ?_;intros)
  exact bodyPost_ret (v:=.tuple #[.agg #[.int .i64 0,.int .i64 0,.string ⟨#[]⟩],.int .i64 ee]) (by first | (simp [results,Tryz.results135,go_sem];done) | (simp [results,Tryz.results135,go_sem, *];done)) rfl ⟨rfl,bel⟩
end Go.Proofs.YtbhkpepinogigaaGreat
