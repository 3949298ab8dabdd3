/- The walk of eval.apply: an op upon values that are known. -/
import Derived.Test.YtbhkpepinogigaaGreatEvF
namespace Go.Proofs.YtbhkpepinogigaaGreat
open Go.RowKit Go.Maps

@[simp] theorem truthV_k (b:Bool):(truthV b).k = 2:=rfl
@[simp] theorem truthV_n1:(truthV true).n = 1:=rfl
@[simp] theorem truthV_n0:(truthV false).n = 0:=rfl
@[simp] theorem truthV_s (b:Bool):(truthV b).s = ⟨#[]⟩:=rfl
@[simp] theorem faultV_k (e:Int):(faultV e).k = 5:=rfl
@[simp] theorem faultV_n (e:Int):(faultV e).n = e:=rfl
@[simp] theorem faultV_s (e:Int):(faultV e).s = ⟨#[]⟩:=rfl
theorem one_at {w:World} {A:Option Addr} {a:Val} (h:Sl w (old w) 3 RVal A 1 [a]) :
  ∃ b o,A = some ⟨b,o,none⟩ ∧ b < w.heap.size ∧ w.cell? ⟨b,o,none⟩ = some (.int .i64 a.k) ∧ w.cell? ⟨b,o + 1,none⟩ = some (.int .i64 a.n) ∧ w.cell? ⟨b,o + 2,none⟩ = some (.string a.s):=by
 obtain ⟨b,o,v,rfl,hb,hl,_,x0,x1,x2⟩:=Val_at h (k:=0) (by omega)
 cases hl
 simp only [Nat.zero_mul,Nat.add_zero] at x0 x1 x2
 exact ⟨b,o,rfl,hb,x0,x1,x2⟩
theorem two_at {w:World} {A:Option Addr} {a a':Val} (h:Sl w (old w) 3 RVal A 2 [a,a']) :
  ∃ b o,A = some ⟨b,o,none⟩ ∧ b < w.heap.size ∧ (w.cell? ⟨b,o,none⟩ = some (.int .i64 a.k) ∧ w.cell? ⟨b,o + 1,none⟩ = some (.int .i64 a.n) ∧ w.cell? ⟨b,o + 2,none⟩ = some (.string a.s)) ∧
   (w.cell? ⟨b,o + 3,none⟩ = some (.int .i64 a'.k) ∧ w.cell? ⟨b,o + 4,none⟩ = some (.int .i64 a'.n) ∧ w.cell? ⟨b,o + 5,none⟩ = some (.string a'.s)):=by
 obtain ⟨b,o,v,e,hb,hl,_,x0,x1,x2⟩:=Val_at h (k:=0) (by omega)
 obtain ⟨b',o',v',e',_,hl',_,y0,y1,y2⟩:=Val_at h (k:=1) (by omega)
 rw [e] at e'
 cases e'
 cases hl
 cases hl'
 simp only [Nat.zero_mul,Nat.add_zero,Nat.one_mul] at x0 x1 x2 y0 y1 y2
 exact ⟨b,o,e,hb,⟨x0,x1,x2⟩,y0,y1,y2⟩
theorem valOrder_pair (a b:Val):∃ c,valOrder a b = (c,0) ∨ valOrder a b = (c,9):=by
 rcases valOrder_or a b with h | h
 ·exact ⟨(valOrder a b).1,.inl (Prod.ext rfl h)⟩
 ·exact ⟨(valOrder a b).1,.inr (Prod.ext rfl h)⟩
set_option maxRecDepth 100000 in
set_option maxHeartbeats 4000000 in
theorem apply_cmp (A:Option Addr) (c:Nat) (a a':Val) (op:Int) (w:World) (h:Sl w (old w) 3 RVal A 2 [a,a']) (ho:op = 11 ∨ op = 12 ∨ op = 13 ∨ op = 14) (ha:a.s.size ≤ maxLen) (ha':a'.s.size ≤ maxLen) :
  Calls Tryz.prog 225 #[.int .i64 op,.slice A 2 c] w (RetV w (cmpV op (valOrder a a'))):=by
 have hc:=fun w => value_Compare a.k a.n a.s a'.k a'.n a'.s w ha ha'
 rw [show (⟨a.k,a.n,a.s⟩:Val) = a from rfl,show (⟨a'.k,a'.n,a'.s⟩:Val) = a' from rfl] at hc
 obtain ⟨b,o,rfl,hbl,⟨x0,x1,x2⟩,y0,y1,y2⟩:=two_at h
 obtain ⟨r,hr | hr⟩:=valOrder_pair a a'
 ·rw [hr] at hc ⊢
  unfold cmpV
  rw [if_pos rfl]
  clear hr h
  obtain ⟨t,ht⟩:∃ t,cmpTruth op r = t:=⟨_,rfl⟩
  show Calls Tryz.prog 225 #[.int .i64 op,.slice _ 2 c] w (RetV w (truthV (cmpTruth op r)))
  rw [ht]
  have hc0:cmpTruth op r = t:=ht
  unfold cmpTruth at ht
  rcases ho with rfl | rfl | rfl | rfl
  all_goals
   simp only [reduceIte,Int.reduceEq] at ht
   cases t
   ·have ht':=ht
    first | (replace ht':=of_decide_eq_true ht) | (replace ht':=of_decide_eq_false ht) | (replace ht':=eq_of_beq ht) | (replace ht':=beq_eq_false_iff_ne.1 ht) | (replace ht':=bne_iff_ne.1 ht) | (replace ht':=bne_eq_false_iff_eq.1 ht)
    clear hc0
    go_enter Tryz.func225,Tryz.ntmps225
    go_wp2_with fail
    have hB0:Below w.heap.size w (w.drew):=bel
    go_region_law (go_simp;go_at_call 237;refine (hc _).mono ?_;rintro e w1 ⟨rfl,hb1⟩;obtain ⟨hc1,hf1⟩:=bcell hb1;(try simp only [bqh,bqc,bqf] at hc1 hf1);have hz1:=hb1.size;(try simp at hz1);(try have hy1:=nl1 hz1);(try have hx1:=nl2 hy1);refine szz w1 w ?_;intros;dsimp only)
    all_goals
     go_wp2_with (go_at_call 238;refine (eval_truth _ _).mono ?_;rintro e w2 ⟨rfl,hb2⟩;obtain ⟨hc2,hf2⟩:=bcell hb2;(try simp only [bqh,bqc,bqf] at hc2 hf2);have hz2:=hb2.size;(try simp at hz2);(try have hy2:=nl1 hz2);(try have hx2:=nl2 hy2);refine szz w2 w ?_;intros;refine szz w2 w1 ?_;intros;dsimp only)
     exact bodyPost_ret (v:=.agg #[.int .i64 2,.int .i64 0,.string ⟨#[]⟩]) (by first | (simp [results,Tryz.results225,go_sem];done) | (simp [results,Tryz.results225,go_sem, *];done)) rfl ⟨rfl,bel⟩
   ·have ht':=ht
    first | (replace ht':=of_decide_eq_true ht) | (replace ht':=of_decide_eq_false ht) | (replace ht':=eq_of_beq ht) | (replace ht':=beq_eq_false_iff_ne.1 ht) | (replace ht':=bne_iff_ne.1 ht) | (replace ht':=bne_eq_false_iff_eq.1 ht)
    clear hc0
    go_enter Tryz.func225,Tryz.ntmps225
    go_wp2_with fail
    have hB0:Below w.heap.size w (w.drew):=bel
    go_region_law (go_simp;go_at_call 237;refine (hc _).mono ?_;rintro e w1 ⟨rfl,hb1⟩;obtain ⟨hc1,hf1⟩:=bcell hb1;(try simp only [bqh,bqc,bqf] at hc1 hf1);have hz1:=hb1.size;(try simp at hz1);(try have hy1:=nl1 hz1);(try have hx1:=nl2 hy1);refine szz w1 w ?_;intros;dsimp only)
    all_goals
     go_wp2_with (go_at_call 238;refine (eval_truth _ _).mono ?_;rintro e w2 ⟨rfl,hb2⟩;obtain ⟨hc2,hf2⟩:=bcell hb2;(try simp only [bqh,bqc,bqf] at hc2 hf2);have hz2:=hb2.size;(try simp at hz2);(try have hy2:=nl1 hz2);(try have hx2:=nl2 hy2);refine szz w2 w ?_;intros;refine szz w2 w1 ?_;intros;dsimp only)
     exact bodyPost_ret (v:=.agg #[.int .i64 2,.int .i64 1,.string ⟨#[]⟩]) (by first | (simp [results,Tryz.results225,go_sem];done) | (simp [results,Tryz.results225,go_sem, *];done)) rfl ⟨rfl,bel⟩
 ·rw [hr] at hc ⊢
  show Calls Tryz.prog 225 #[.int .i64 op,.slice _ 2 c] w (RetV w (faultV 9))
  clear hr h
  rcases ho with rfl | rfl | rfl | rfl
  all_goals
   go_enter Tryz.func225,Tryz.ntmps225
   go_wp2_with fail
   have hB0:Below w.heap.size w (w.drew):=bel
   go_region_law (go_simp;go_at_call 237;refine (hc _).mono ?_;rintro e w1 ⟨rfl,hb1⟩;obtain ⟨hc1,hf1⟩:=bcell hb1;(try simp only [bqh,bqc,bqf] at hc1 hf1);have hz1:=hb1.size;(try simp at hz1);(try have hy1:=nl1 hz1);(try have hx1:=nl2 hy1);refine szz w1 w ?_;intros;dsimp only)
   all_goals
    go_wp2_with (go_at_call 221;refine (eval_fault _ _).mono ?_;rintro e w2 ⟨rfl,hb2⟩;obtain ⟨hc2,hf2⟩:=bcell hb2;(try simp only [bqh,bqc,bqf] at hc2 hf2);have hz2:=hb2.size;(try simp at hz2);(try have hy2:=nl1 hz2);(try have hx2:=nl2 hy2);refine szz w2 w ?_;intros;refine szz w2 w1 ?_;intros;dsimp only)
    exact bodyPost_ret (v:=.agg #[.int .i64 5,.int .i64 9,.string ⟨#[]⟩]) (by first | (simp [results,Tryz.results225,go_sem];done) | (simp [results,Tryz.results225,go_sem, *];done)) rfl ⟨rfl,bel⟩
set_option maxRecDepth 100000 in
set_option maxHeartbeats 4000000 in
theorem apply_not (A:Option Addr) (c:Nat) (a:Val) (w:World) (h:Sl w (old w) 3 RVal A 1 [a]) :
  Calls Tryz.prog 225 #[.int .i64 4,.slice A 1 c] w (RetV w (if a.k = 2 then truthV (a.n == 0) else faultV 9)):=by
 have hk:=fun w h hS => eval_kinds A 1 c [a] (old w) 2 w (by unfold inL;decide) h hS
 have HH:=Lib.hid h
 obtain ⟨b,o,rfl,hbl,x0,x1,x2⟩:=one_at h
 clear h
 simp only [List.all_cons,List.all_nil,Bool.and_true] at hk
 by_cases hp:a.k = 2
 ·have hp':(a.k == 2) = true:=by simpa using hp
  rw [if_pos hp]
  simp only [hp'] at hk
  clear hp hp'
  cases hq:a.n == 0
  ·go_enter Tryz.func225,Tryz.ntmps225
   go_wp2_with (first
    | (go_at_call 239;refine (hk _ (HH.out.now bel) (fun _ h => h)).mono ?_;rintro e w1 ⟨rfl,hb1⟩;obtain ⟨hc1,hf1⟩:=bcell hb1;(try simp only [bqh,bqc,bqf] at hc1 hf1);have hz1:=hb1.size;(try simp at hz1);(try have hy1:=nl1 hz1);(try have hx1:=nl2 hy1);refine szz w1 w ?_;intros)
    | (go_at_call 238;refine (eval_truth _ _).mono ?_;rintro e w2 ⟨rfl,hb2⟩;obtain ⟨hc2,hf2⟩:=bcell hb2;(try simp only [bqh,bqc,bqf] at hc2 hf2);have hz2:=hb2.size;(try simp at hz2);(try have hy2:=nl1 hz2);(try have hx2:=nl2 hy2);refine szz w2 w ?_;intros;refine szz w2 w1 ?_;intros;dsimp only))
   exact bodyPost_ret (v:=.agg #[.int .i64 2,.int .i64 0,.string ⟨#[]⟩]) (by first | (simp [results,Tryz.results225,go_sem];done) | (simp [results,Tryz.results225,go_sem, *];done)) rfl ⟨rfl,bel⟩
  ·go_enter Tryz.func225,Tryz.ntmps225
   go_wp2_with (first
    | (go_at_call 239;refine (hk _ (HH.out.now bel) (fun _ h => h)).mono ?_;rintro e w1 ⟨rfl,hb1⟩;obtain ⟨hc1,hf1⟩:=bcell hb1;(try simp only [bqh,bqc,bqf] at hc1 hf1);have hz1:=hb1.size;(try simp at hz1);(try have hy1:=nl1 hz1);(try have hx1:=nl2 hy1);refine szz w1 w ?_;intros)
    | (go_at_call 238;refine (eval_truth _ _).mono ?_;rintro e w2 ⟨rfl,hb2⟩;obtain ⟨hc2,hf2⟩:=bcell hb2;(try simp only [bqh,bqc,bqf] at hc2 hf2);have hz2:=hb2.size;(try simp at hz2);(try have hy2:=nl1 hz2);(try have hx2:=nl2 hy2);refine szz w2 w ?_;intros;refine szz w2 w1 ?_;intros;dsimp only))
   exact bodyPost_ret (v:=.agg #[.int .i64 2,.int .i64 1,.string ⟨#[]⟩]) (by first | (simp [results,Tryz.results225,go_sem];done) | (simp [results,Tryz.results225,go_sem, *];done)) rfl ⟨rfl,bel⟩
 ·have hp':(a.k == 2) = false:=by simpa using hp
  rw [if_neg hp]
  simp only [hp'] at hk
  clear hp hp'
  go_enter Tryz.func225,Tryz.ntmps225
  go_wp2_with (first
   | (go_at_call 239;refine (hk _ (HH.out.now bel) (fun _ h => h)).mono ?_;rintro e w1 ⟨rfl,hb1⟩;obtain ⟨hc1,hf1⟩:=bcell hb1;(try simp only [bqh,bqc,bqf] at hc1 hf1);have hz1:=hb1.size;(try simp at hz1);(try have hy1:=nl1 hz1);(try have hx1:=nl2 hy1);refine szz w1 w ?_;intros)
   | (go_at_call 221;refine (eval_fault _ _).mono ?_;rintro e w2 ⟨rfl,hb2⟩;obtain ⟨hc2,hf2⟩:=bcell hb2;(try simp only [bqh,bqc,bqf] at hc2 hf2);have hz2:=hb2.size;(try simp at hz2);(try have hy2:=nl1 hz2);(try have hx2:=nl2 hy2);refine szz w2 w ?_;intros;refine szz w2 w1 ?_;intros;dsimp only))
  exact bodyPost_ret (v:=.agg #[.int .i64 5,.int .i64 9,.string ⟨#[]⟩]) (by first | (simp [results,Tryz.results225,go_sem];done) | (simp [results,Tryz.results225,go_sem, *];done)) rfl ⟨rfl,bel⟩
set_option maxRecDepth 100000 in
set_option maxHeartbeats 4000000 in
theorem apply_len (A:Option Addr) (c:Nat) (a:Val) (w:World) (h:Sl w (old w) 3 RVal A 1 [a]) :
  Calls Tryz.prog 225 #[.int .i64 18,.slice A 1 c] w (RetV w (if a.k = 3 then ⟨1,a.s.size,⟨#[]⟩⟩ else faultV 9)):=by
 have hk:=fun w h hS => eval_kinds A 1 c [a] (old w) 3 w (by unfold inL;decide) h hS
 have HH:=Lib.hid h
 obtain ⟨b,o,rfl,hbl,x0,x1,x2⟩:=one_at h
 clear h
 simp only [List.all_cons,List.all_nil,Bool.and_true] at hk
 by_cases hp:a.k = 3
 ·have hp':(a.k == 3) = true:=by simpa using hp
  rw [if_pos hp]
  simp only [hp'] at hk
  clear hp hp'
  go_enter Tryz.func225,Tryz.ntmps225
  go_wp2_with (go_at_call 239;refine (hk _ (HH.out.now bel) (fun _ h => h)).mono ?_;rintro e w1 ⟨rfl,hb1⟩;obtain ⟨hc1,hf1⟩:=bcell hb1;(try simp only [bqh,bqc,bqf] at hc1 hf1);have hz1:=hb1.size;(try simp at hz1);(try have hy1:=nl1 hz1);(try have hx1:=nl2 hy1);refine szz w1 w ?_;intros)
  exact bodyPost_ret (v:=.agg #[.int .i64 1,.int .i64 a.s.size,.string ⟨#[]⟩]) (by first | (simp [results,Tryz.results225,go_sem];done) | (simp [results,Tryz.results225,go_sem, *];done)) rfl ⟨rfl,bel⟩
 ·have hp':(a.k == 3) = false:=by simpa using hp
  rw [if_neg hp]
  simp only [hp'] at hk
  clear hp hp'
  go_enter Tryz.func225,Tryz.ntmps225
  go_wp2_with (first
   | (go_at_call 239;refine (hk _ (HH.out.now bel) (fun _ h => h)).mono ?_;rintro e w1 ⟨rfl,hb1⟩;obtain ⟨hc1,hf1⟩:=bcell hb1;(try simp only [bqh,bqc,bqf] at hc1 hf1);have hz1:=hb1.size;(try simp at hz1);(try have hy1:=nl1 hz1);(try have hx1:=nl2 hy1);refine szz w1 w ?_;intros)
   | (go_at_call 221;refine (eval_fault _ _).mono ?_;rintro e w2 ⟨rfl,hb2⟩;obtain ⟨hc2,hf2⟩:=bcell hb2;(try simp only [bqh,bqc,bqf] at hc2 hf2);have hz2:=hb2.size;(try simp at hz2);(try have hy2:=nl1 hz2);(try have hx2:=nl2 hy2);refine szz w2 w ?_;intros;refine szz w2 w1 ?_;intros;dsimp only))
  exact bodyPost_ret (v:=.agg #[.int .i64 5,.int .i64 9,.string ⟨#[]⟩]) (by first | (simp [results,Tryz.results225,go_sem];done) | (simp [results,Tryz.results225,go_sem, *];done)) rfl ⟨rfl,bel⟩
set_option maxRecDepth 100000 in
set_option maxHeartbeats 4000000 in
theorem apply_join (A:Option Addr) (c:Nat) (a a':Val) (w:World) (h:Sl w (old w) 3 RVal A 2 [a,a']) (ha:a.s.size ≤ 40) (ha':a'.s.size ≤ 40) :
  Calls Tryz.prog 225 #[.int .i64 10,.slice A 2 c] w (RetV w (if a.k = 3 ∧ a'.k = 3 then joinV a.s a'.s else faultV 9)):=by
 have hk:=fun w h hS => eval_kinds A 2 c [a,a'] (old w) 3 w (by unfold inL;decide) h hS
 have HH:=Lib.hid h
 obtain ⟨b,o,rfl,hbl,⟨x0,x1,x2⟩,y0,y1,y2⟩:=two_at h
 clear h
 simp only [List.all_cons,List.all_nil,Bool.and_true] at hk
 by_cases hp:a.k = 3 ∧ a'.k = 3
 ·have hp':(a.k == 3 && a'.k == 3) = true:=by simpa using hp
  rw [if_pos hp]
  simp only [hp'] at hk
  clear hp hp'
  unfold joinV
  by_cases hs:a.s.size + a'.s.size ≤ 40
  ·rw [if_pos hs]
   have hs1:¬ (40:Int) < (a.s.size:Int) + a'.s.size:=by omega
   have hs2:decide ((40:Int) < (a.s.size:Int) + a'.s.size) = false:=by simpa using hs1
   go_enter Tryz.func225,Tryz.ntmps225
   go_wp2_with (go_at_call 239;refine (hk _ (HH.out.now bel) (fun _ h => h)).mono ?_;rintro e w1 ⟨rfl,hb1⟩;obtain ⟨hc1,hf1⟩:=bcell hb1;(try simp only [bqh,bqc,bqf] at hc1 hf1);have hz1:=hb1.size;(try simp at hz1);(try have hy1:=nl1 hz1);(try have hx1:=nl2 hy1);refine szz w1 w ?_;intros)
   go_quiet (fail)
   go_wp2_with fail
   go_region
   all_goals
    go_wp2_with fail
    exact bodyPost_ret (v:=.agg #[.int .i64 3,.int .i64 0,.string (a.s ++ a'.s)]) (by first | (simp [results,Tryz.results225,go_sem];done) | (simp [results,Tryz.results225,go_sem, *];done)) rfl ⟨rfl,bel⟩
  ·rw [if_neg hs]
   have hs1:(40:Int) < (a.s.size:Int) + a'.s.size:=by omega
   have hs2:decide ((40:Int) < (a.s.size:Int) + a'.s.size) = true:=by simpa using hs1
   go_enter Tryz.func225,Tryz.ntmps225
   go_wp2_with (go_at_call 239;refine (hk _ (HH.out.now bel) (fun _ h => h)).mono ?_;rintro e w1 ⟨rfl,hb1⟩;obtain ⟨hc1,hf1⟩:=bcell hb1;(try simp only [bqh,bqc,bqf] at hc1 hf1);have hz1:=hb1.size;(try simp at hz1);(try have hy1:=nl1 hz1);(try have hx1:=nl2 hy1);refine szz w1 w ?_;intros)
   go_quiet (fail)
   go_wp2_with (go_at_call 221;refine (eval_fault _ _).mono ?_;rintro e w2 ⟨rfl,hb2⟩;obtain ⟨hc2,hf2⟩:=bcell hb2;(try simp only [bqh,bqc,bqf] at hc2 hf2);have hz2:=hb2.size;(try simp at hz2);(try have hy2:=nl1 hz2);(try have hx2:=nl2 hy2);refine szz w2 w ?_;intros;refine szz w2 w1 ?_;intros;dsimp only)
   exact bodyPost_ret (v:=.agg #[.int .i64 5,.int .i64 1,.string ⟨#[]⟩]) (by first | (simp [results,Tryz.results225,go_sem];done) | (simp [results,Tryz.results225,go_sem, *];done)) rfl ⟨rfl,bel⟩
 ·have hp':(a.k == 3 && a'.k == 3) = false:=by
   cases hq:(a.k == 3 && a'.k == 3)
   ·rfl
   ·exact absurd (by simpa using hq) hp
  rw [if_neg hp]
  simp only [hp'] at hk
  clear hp hp'
  go_enter Tryz.func225,Tryz.ntmps225
  go_wp2_with (first
   | (go_at_call 239;refine (hk _ (HH.out.now bel) (fun _ h => h)).mono ?_;rintro e w1 ⟨rfl,hb1⟩;obtain ⟨hc1,hf1⟩:=bcell hb1;(try simp only [bqh,bqc,bqf] at hc1 hf1);have hz1:=hb1.size;(try simp at hz1);(try have hy1:=nl1 hz1);(try have hx1:=nl2 hy1);refine szz w1 w ?_;intros)
   | (go_at_call 221;refine (eval_fault _ _).mono ?_;rintro e w2 ⟨rfl,hb2⟩;obtain ⟨hc2,hf2⟩:=bcell hb2;(try simp only [bqh,bqc,bqf] at hc2 hf2);have hz2:=hb2.size;(try simp at hz2);(try have hy2:=nl1 hz2);(try have hx2:=nl2 hy2);refine szz w2 w ?_;intros;refine szz w2 w1 ?_;intros;dsimp only))
  exact bodyPost_ret (v:=.agg #[.int .i64 5,.int .i64 9,.string ⟨#[]⟩]) (by first | (simp [results,Tryz.results225,go_sem];done) | (simp [results,Tryz.results225,go_sem, *];done)) rfl ⟨rfl,bel⟩
end Go.Proofs.YtbhkpepinogigaaGreat
