/- The reader of formulas: what is whole, by itself; one; any level. (printed by mkrd5.py) -/
import Derived.Test.YtldbpmlgbbomcaaGreatDoorRd4
namespace Go.Proofs.YtldbpmlgbbomcaaGreatDoor
open Go.RowKit

set_option maxRecDepth 100000 in
set_option maxHeartbeats 4000000 in
theorem whole_leaf (T0 R:Nat) (en:Int) (n:Nat) (ih:LevN T0 R en n) (ts:List Tkn) (w:World) (hts:ts.length ≤ n) (hok:TokOk ts) (hgR:GlobR R) (hg:GdA w) (hs:RdS T0 w R ts en) (h3:isTk (sgnN 3) ts = false) (h4:isTk (sgnN 4) ts = false) (ho:isTk tOpen ts = false) (ht:isTk tTrue ts = false) (hf:isTk tFalse ts = false) (hi:isTk (sgnN 17) ts = false) (hl:isTk (sgnN 18) ts = false) :
  Calls Tryz.prog 88 #[.pointer (some ⟨R,0,none⟩)] w (PPost T0 R en w (rdOne ts)):=by
 have hRlt:=hs.lt
 have n0:¬ w.heap.size = R:=by omega
 have n1:¬ w.heap.size + 1 = R:=by omega
 rw [rdOne_leaf h3 h4 ho ht hf hi hl]
 have HGR:=Lib.hid hgR
 clear h3 h4 ih hg hgR
 have f0:isTk ⟨#[40]⟩ ts = false:=ho
 have f1:isTk ⟨#[116,114,117,101]⟩ ts = false:=ht
 have f2:isTk ⟨#[102,97,108,115,101]⟩ ts = false:=hf
 have f3:isTk ⟨#[105,102]⟩ ts = false:=hi
 have f4:isTk ⟨#[108,101,110]⟩ ts = false:=hl
 clear ho ht hf hi hl
 have hi:=fun g w h => reader_is T0 R ts en g w h
 have hfl:=fun w h => reader_fail T0 R ts en w h
 have HI:=Lib.hid hi
 clear hi
 have tf2:=Tryz.tkf2
 have tf3:=Tryz.tkf3
 obtain ⟨A,c,⟨q0,q1,q2,q3⟩,hc,hsl⟩:=id hs
 clear q1 q2 q3
 cases ts with
 | nil =>
  have HH:=Lib.hid (And.intro hs (And.intro True.intro hfl))
  clear hs hfl hts hok hsl
  show Calls _ _ _ _ (RetBad R en w [])
  rw [List.length_nil] at q0 hc
  go_enter Tryz.func88,Tryz.ntmps88
  go_wp2_with (first
   | (go_at_call 87;refine (HI.out _ _ (HH.out.1.keep bel)).mono ?_;rintro e w9 ⟨rfl,rfl⟩)
   | (go_at_call 18;refine (HH.out.2.2 _ (HH.out.1.keep bel)).mono ?_;rintro e w3 ⟨he,rfl⟩;unfold lostE at he;subst he))
  exact ⟨rfl,rfl,bes⟩
 | cons t r =>
  obtain ⟨b,o,x,rfl,hb,hl0,hwf,x0,x1,x2,x3,x4,x5⟩:=Tkn_at hsl (k:=0) (by simp)
  obtain rfl:t = x:=by simpa using hl0
  rw [List.length_cons] at q0 hc
  simp only [Nat.zero_mul,Nat.add_zero] at x0 x1 x2 x3 x4 x5
  have hbl:b < w.heap.size:=by omega
  have hbr:¬ b = R:=by omega
  have htk:=fun w h => reader_take T0 R t r en w h
  have htw:=hok t List.mem_cons_self
  have HTW:=Lib.hid htw
  have HH:=Lib.hid (And.intro hs (And.intro htk hfl))
  clear hs htk hfl hts hok hsl hl0 htw
  by_cases hk:t.kind = 2
  ·have g2:(t.kind == 2) = true:=by simpa using hk
   have g1:(t.kind == 1) = false:=by rw [hk];rfl
   have g3:(t.kind == 3) = false:=by rw [hk];rfl
   cases hky:isKey t.s with
   | false =>
    have HP:Hid (leafP (t :: r) = .ok (refX t.s) r):=Lib.hid (by unfold leafP;simp only;rw [if_pos ⟨hk,hky⟩])
    rw [HP.out]
    show Calls _ _ _ _ (RetX T0 R en w (refX t.s) r)
    clear hk HP
    go_enter Tryz.func88,Tryz.ntmps88
    go_wp2_with (first
     | (go_at_call 87;refine (HI.out _ _ (HH.out.1.keep bel)).mono ?_;rintro e w9 ⟨rfl,rfl⟩)
     | (go_at_call 122;refine (lex_Key _ _).mono ?_;rintro e w9 ⟨rfl,rfl⟩)
     | (go_at_call 41;refine (HH.out.2.1 _ (HH.out.1.keep bel)).mono ?_;rintro e w1 ⟨rfl,hs1,hb1⟩;obtain ⟨hc1,hf1⟩:=bcells hb1;(try simp only [bqh,bqc,bqf] at hc1 hf1);have hz1:=hb1.size;(try simp at hz1);(try have hy1:=nl1 hz1);(try have hx1:=nl2 hy1);refine szz w1 w ?_;intros;have m1:¬ w1.heap.size = R:=(by omega);have HB1:=Lib.hid (show Bes R w w1 from bes);have yc0:w1.cell? ⟨w.heap.size,0,none⟩ = some (.int .i64 0):=(by go_simp);have yc1:w1.cell? ⟨w.heap.size,1,none⟩ = some (.int .i64 0):=(by go_simp);have yc2:w1.cell? ⟨w.heap.size,2,none⟩ = some (.int .i64 0):=(by go_simp);have yc3:w1.cell? ⟨w.heap.size,3,none⟩ = some (.string ⟨#[]⟩):=(by go_simp);have yc4:w1.cell? ⟨w.heap.size,4,none⟩ = some (.string ⟨#[]⟩):=(by go_simp);have yc5:w1.cell? ⟨w.heap.size,5,none⟩ = some (.slice none 0 0):=(by go_simp)))
    exact bodyPost_ret (v:=.agg #[.int .i64 2,.int .i64 0,.int .i64 0,.string ⟨#[]⟩,.string t.s,.slice none 0 0]) (by first | (simp [results,Tryz.results88,go_sem];done) | (simp [results,Tryz.results88,go_sem, *];done)) rfl ⟨none,0,rfl,ref_rep HTW.out.1,hs1.under (n:=R + 1) bel (by omega),bes⟩
   | true =>
    have HP:Hid (leafP (t :: r) = .bad (t :: r)):=Lib.hid (by unfold leafP;simp only;rw [if_neg (fun h => by rw [hky] at h;cases h.2),if_neg (by omega)])
    rw [HP.out]
    show Calls _ _ _ _ (RetBad R en w (t :: r))
    clear hk HP
    go_enter Tryz.func88,Tryz.ntmps88
    go_wp2_with (first
     | (go_at_call 87;refine (HI.out _ _ (HH.out.1.keep bel)).mono ?_;rintro e w9 ⟨rfl,rfl⟩)
     | (go_at_call 122;refine (lex_Key _ _).mono ?_;rintro e w9 ⟨rfl,rfl⟩)
     | (go_at_call 18;refine (HH.out.2.2 _ (HH.out.1.keep bel)).mono ?_;rintro e w3 ⟨he,rfl⟩;unfold lostE at he;subst he))
    exact ⟨rfl,rfl,bes⟩
  ·have g2:(t.kind == 2) = false:=by simpa using hk
   have hn2:¬ (t.kind = 2 ∧ isKey t.s = false):=fun h => hk h.1
   by_cases hk1:t.kind = 1
   ·have g1:(t.kind == 1) = true:=by simpa using hk1
    have HP:Hid (leafP (t :: r) = .ok (cstX t.v) r):=Lib.hid (by unfold leafP;simp only;rw [if_neg hn2,if_pos (.inl hk1)])
    rw [HP.out]
    show Calls _ _ _ _ (RetX T0 R en w (cstX t.v) r)
    clear hk HP hk1 hn2
    go_enter Tryz.func88,Tryz.ntmps88
    go_wp2_with (first
     | (go_at_call 87;refine (HI.out _ _ (HH.out.1.keep bel)).mono ?_;rintro e w9 ⟨rfl,rfl⟩)
     | (go_at_call 41;refine (HH.out.2.1 _ (HH.out.1.keep bel)).mono ?_;rintro e w1 ⟨rfl,hs1,hb1⟩;obtain ⟨hc1,hf1⟩:=bcells hb1;(try simp only [bqh,bqc,bqf] at hc1 hf1);have hz1:=hb1.size;(try simp at hz1);(try have hy1:=nl1 hz1);(try have hx1:=nl2 hy1);refine szz w1 w ?_;intros;have m1:¬ w1.heap.size = R:=(by omega);have HB1:=Lib.hid (show Bes R w w1 from bes);have yc0:w1.cell? ⟨w.heap.size,0,none⟩ = some (.int .i64 0):=(by go_simp);have yc1:w1.cell? ⟨w.heap.size,1,none⟩ = some (.int .i64 0):=(by go_simp);have yc2:w1.cell? ⟨w.heap.size,2,none⟩ = some (.int .i64 0):=(by go_simp);have yc3:w1.cell? ⟨w.heap.size,3,none⟩ = some (.string ⟨#[]⟩):=(by go_simp);have yc4:w1.cell? ⟨w.heap.size,4,none⟩ = some (.string ⟨#[]⟩):=(by go_simp);have yc5:w1.cell? ⟨w.heap.size,5,none⟩ = some (.slice none 0 0):=(by go_simp)))
    exact bodyPost_ret (v:=.agg #[.int .i64 1,.int .i64 t.v.k,.int .i64 t.v.n,.string t.v.s,.string ⟨#[]⟩,.slice none 0 0]) (by first | (simp [results,Tryz.results88,go_sem];done) | (simp [results,Tryz.results88,go_sem, *];done)) rfl ⟨none,0,rfl,cst_rep HTW.out.2,hs1.under (n:=R + 1) bel (by omega),bes⟩
   ·have g1:(t.kind == 1) = false:=by simpa using hk1
    by_cases hk3:t.kind = 3
    ·have g3:(t.kind == 3) = true:=by simpa using hk3
     have HP:Hid (leafP (t :: r) = .ok (cstX t.v) r):=Lib.hid (by unfold leafP;simp only;rw [if_neg hn2,if_pos (.inr hk3)])
     rw [HP.out]
     show Calls _ _ _ _ (RetX T0 R en w (cstX t.v) r)
     clear hk HP hk1 hk3 hn2
     go_enter Tryz.func88,Tryz.ntmps88
     go_wp2_with (first
      | (go_at_call 87;refine (HI.out _ _ (HH.out.1.keep bel)).mono ?_;rintro e w9 ⟨rfl,rfl⟩)
      | (go_at_call 41;refine (HH.out.2.1 _ (HH.out.1.keep bel)).mono ?_;rintro e w1 ⟨rfl,hs1,hb1⟩;obtain ⟨hc1,hf1⟩:=bcells hb1;(try simp only [bqh,bqc,bqf] at hc1 hf1);have hz1:=hb1.size;(try simp at hz1);(try have hy1:=nl1 hz1);(try have hx1:=nl2 hy1);refine szz w1 w ?_;intros;have m1:¬ w1.heap.size = R:=(by omega);have HB1:=Lib.hid (show Bes R w w1 from bes);have yc0:w1.cell? ⟨w.heap.size,0,none⟩ = some (.int .i64 0):=(by go_simp);have yc1:w1.cell? ⟨w.heap.size,1,none⟩ = some (.int .i64 0):=(by go_simp);have yc2:w1.cell? ⟨w.heap.size,2,none⟩ = some (.int .i64 0):=(by go_simp);have yc3:w1.cell? ⟨w.heap.size,3,none⟩ = some (.string ⟨#[]⟩):=(by go_simp);have yc4:w1.cell? ⟨w.heap.size,4,none⟩ = some (.string ⟨#[]⟩):=(by go_simp);have yc5:w1.cell? ⟨w.heap.size,5,none⟩ = some (.slice none 0 0):=(by go_simp)))
     exact bodyPost_ret (v:=.agg #[.int .i64 1,.int .i64 t.v.k,.int .i64 t.v.n,.string t.v.s,.string ⟨#[]⟩,.slice none 0 0]) (by first | (simp [results,Tryz.results88,go_sem];done) | (simp [results,Tryz.results88,go_sem, *];done)) rfl ⟨none,0,rfl,cst_rep HTW.out.2,hs1.under (n:=R + 1) bel (by omega),bes⟩
    ·have g3:(t.kind == 3) = false:=by simpa using hk3
     have HP:Hid (leafP (t :: r) = .bad (t :: r)):=Lib.hid (by unfold leafP;simp only;rw [if_neg hn2,if_neg (fun h => h.elim hk1 hk3)])
     rw [HP.out]
     show Calls _ _ _ _ (RetBad R en w (t :: r))
     clear hk HP hk1 hk3 hn2
     go_enter Tryz.func88,Tryz.ntmps88
     go_wp2_with (first
      | (go_at_call 87;refine (HI.out _ _ (HH.out.1.keep bel)).mono ?_;rintro e w9 ⟨rfl,rfl⟩)
      | (go_at_call 18;refine (HH.out.2.2 _ (HH.out.1.keep bel)).mono ?_;rintro e w3 ⟨he,rfl⟩;unfold lostE at he;subst he))
     exact ⟨rfl,rfl,bes⟩
theorem reader_whole (T0 R:Nat) (en:Int) (n:Nat) (ih:LevN T0 R en n) (ts:List Tkn) (w:World) (hts:ts.length ≤ n) (hok:TokOk ts) (hgR:GlobR R) (hg:GdA w) (hs:RdS T0 w R ts en) (h3:isTk (sgnN 3) ts = false) (h4:isTk (sgnN 4) ts = false) :
  Calls Tryz.prog 88 #[.pointer (some ⟨R,0,none⟩)] w (PPost T0 R en w (rdOne ts)):=by
 cases ho:isTk tOpen ts with
 | true => exact whole_open T0 R en n ih ts w hts hok hgR hg hs ho
 | false =>
  cases ht:isTk tTrue ts with
  | true => exact whole_true T0 R en n ih ts w hts hok hgR hg hs ht
  | false =>
   cases hf:isTk tFalse ts with
   | true => exact whole_false T0 R en n ih ts w hts hok hgR hg hs hf
   | false =>
    cases hi:isTk (sgnN 17) ts with
    | true => exact whole_if T0 R en n ih ts w hts hok hgR hg hs hi
    | false =>
     cases hl:isTk (sgnN 18) ts with
     | true => exact whole_len T0 R en n ih ts w hts hok hgR hg hs hl
     | false => exact whole_leaf T0 R en n ih ts w hts hok hgR hg hs h3 h4 ho ht hf hi hl
end Go.Proofs.YtldbpmlgbbomcaaGreatDoor
