/- The walk of eval.apply at the ops that compute with numbers. (Printed by mkmac.py.) -/
import Derived.Test.YtbhkpepinogigaaGreatMacA
namespace Go.Proofs.YtbhkpepinogigaaGreat
open Go.RowKit Go.Maps

theorem Tryz.zeroFun (w:World):(zeroValue 244).run Tryz.prog w = .ok .nilFunc w:=by kernel_rfl
def numMap:Lit → Option Value:=(putAt (putAt (putAt (putAt (putAt (fun _ => none) (.int .i64 5) (.func (.func 240) #[] #[])) (.int .i64 6) (.func (.func 241) #[] #[])) (.int .i64 7) (.func (.func 242) #[] #[])) (.int .i64 8) (.func (.func 243) #[] #[])) (.int .i64 9) (.func (.func 244) #[] #[]))
theorem cf_numMul (args:Array Value) (w:World):(callFunc 240 args).run Tryz.prog w = .ok (.enter 240 args) w:=cf _ _ Tryz.func240 (by kernel_rfl) (by kernel_rfl) args w
theorem cf_numDiv (args:Array Value) (w:World):(callFunc 241 args).run Tryz.prog w = .ok (.enter 241 args) w:=cf _ _ Tryz.func241 (by kernel_rfl) (by kernel_rfl) args w
theorem cf_numMod (args:Array Value) (w:World):(callFunc 242 args).run Tryz.prog w = .ok (.enter 242 args) w:=cf _ _ Tryz.func242 (by kernel_rfl) (by kernel_rfl) args w
theorem cf_numAdd (args:Array Value) (w:World):(callFunc 243 args).run Tryz.prog w = .ok (.enter 243 args) w:=cf _ _ Tryz.func243 (by kernel_rfl) (by kernel_rfl) args w
theorem cf_numSub (args:Array Value) (w:World):(callFunc 244 args).run Tryz.prog w = .ok (.enter 244 args) w:=cf _ _ Tryz.func244 (by kernel_rfl) (by kernel_rfl) args w
set_option maxRecDepth 100000 in
set_option maxHeartbeats 4000000 in
theorem apply_mul (A:Option Addr) (c:Nat) (a a':Val) (w:World) (h:Sl w (old w) 3 RVal A 2 [a,a']) :
  Calls Tryz.prog 225 #[.int .i64 5,.slice A 2 c] w (RetV w (if a.k = 1 ∧ a'.k = 1 then numV (numMul a.n a'.n) else faultV 9)):=by
 have hk:=fun w h hS => eval_kinds A 2 c [a,a'] (old w) 1 w (by unfold inL;decide) h hS
 have HH:=Lib.hid h
 obtain ⟨b,o,rfl,hbl,⟨x0,x1,x2⟩,y0,y1,y2⟩:=two_at h
 clear h
 simp only [List.all_cons,List.all_nil,Bool.and_true] at hk
 have hmm:=@run_makeMap Tryz.prog
 have hcf:=cf_numMul
 by_cases hp:a.k = 1 ∧ a'.k = 1
 ·have hp':(a.k == 1 && a'.k == 1) = true:=by simpa using hp
  rw [if_pos hp]
  simp only [hp'] at hk
  clear hp hp'
  have hN:=fun w => num_Mul a.n a'.n w
  obtain ⟨r,e,hr⟩:∃ r e,numMul a.n a'.n = (r,e):=⟨_,_,rfl⟩
  rw [hr] at hN ⊢
  clear hr
  dsimp only at hN
  unfold numV
  by_cases he:e = 0
  ·subst he
   rw [if_pos rfl]
   go_enter Tryz.func225,Tryz.ntmps225
   go_wp2_with (first
    | (go_at_call 239;refine (hk _ (HH.out.now bel) (fun _ h => h)).mono ?_;rintro e w1 ⟨rfl,hb1⟩;obtain ⟨hc1,hf1⟩:=bcell hb1;(try simp only [bqh,bqc,bqf] at hc1 hf1);have hz1:=hb1.size;(try simp at hz1);(try have hy1:=nl1 hz1);(try have hx1:=nl2 hy1);refine szz w1 w ?_;intros)
    | (refine wpList_insert_Is _ rfl _ (.const (.int .i64 5)) _ 245 rfl 3 244 (Maps.int_keyed Tryz.underlying3) Tryz.underlying245 _ 0 _ rfl (MapIs.made _ _ _) (by unfold maxLen;omega) _ _ _ rfl rfl (Tryz.keyInt 5 (by decide)) ?_;intro u0 hm0 hg0)
    | (refine wpList_insert_Is _ rfl _ (.const (.int .i64 6)) _ 245 rfl 3 244 (Maps.int_keyed Tryz.underlying3) Tryz.underlying245 _ 1 _ rfl hm0 (by unfold maxLen;omega) _ _ _ rfl rfl (Tryz.keyInt 6 (by decide)) ?_;intro u1 hm1 hg1)
    | (refine wpList_insert_Is _ rfl _ (.const (.int .i64 7)) _ 245 rfl 3 244 (Maps.int_keyed Tryz.underlying3) Tryz.underlying245 _ 2 _ rfl hm1 (by unfold maxLen;omega) _ _ _ rfl rfl (Tryz.keyInt 7 (by decide)) ?_;intro u2 hm2 hg2)
    | (refine wpList_insert_Is _ rfl _ (.const (.int .i64 8)) _ 245 rfl 3 244 (Maps.int_keyed Tryz.underlying3) Tryz.underlying245 _ 3 _ rfl hm2 (by unfold maxLen;omega) _ _ _ rfl rfl (Tryz.keyInt 8 (by decide)) ?_;intro u3 hm3 hg3)
    | (refine wpList_insert_Is _ rfl _ (.const (.int .i64 9)) _ 245 rfl 3 244 (Maps.int_keyed Tryz.underlying3) Tryz.underlying245 _ 4 _ rfl hm3 (by unfold maxLen;omega) _ _ _ rfl rfl (Tryz.keyInt 9 (by decide)) ?_;intro w4 hm4 hg4)
    | (at_lookup;refine wpList_lookup1_Is _ rfl _ _ 245 rfl 3 244 (Maps.int_keyed Tryz.underlying3) Tryz.underlying245 (Tryz.zeroFun _) _ 5 numMap rfl hm4 _ _ rfl (Tryz.keyInt 5 (by decide)) ?_;rw [show ((numMap (.int .i64 5):Option Value).getD .nilFunc) = (.func (.func 240) #[] #[]) from rfl]))
   have s0:w1.heap.size ≤ u0.heap.size:=by have:=hg0.size;simp at this;omega
   have s1:=Nat.le_trans s0 hg1.size
   have s2:=Nat.le_trans s1 hg2.size
   have s3:=Nat.le_trans s2 hg3.size
   have hb4:Below w1.heap.size w1 w4:=(((((Below.alloc (Below.refl _ w1) (Nat.le_refl _) _).grown hg0 (by simp) (fun j e => by cases e;exact Nat.le_refl _)).grown hg1 s0 (fun j e => by cases e;exact Nat.le_refl _)).grown hg2 s1 (fun j e => by cases e;exact Nat.le_refl _)).grown hg3 s2 (fun j e => by cases e;exact Nat.le_refl _)).grown hg4 s3 (fun j e => by cases e;exact Nat.le_refl _)
   clear s0 s1 s2 s3 hm0 hm1 hm2 hm3 hm4 hg0 hg1 hg2 hg3 hg4
   have hbl1:b < w1.heap.size:=by omega
   obtain ⟨hc4,hf4⟩:=bcell hb4;(try simp only [bqh,bqc,bqf] at hc4 hf4);have hz4:=hb4.size;(try simp at hz4);(try have hy4:=nl1 hz4);(try have hx4:=nl2 hy4);refine szz w4 w ?_;intros;refine szz w4 w1 ?_;intros
   go_quiet (fail)
   go_wp2_with (first
    | (refine (hN _).mono ?_;rintro e w2 ⟨rfl,nq,rfl⟩))
   exact bodyPost_ret (v:=.agg #[.int .i64 1,.int .i64 r,.string ⟨#[]⟩]) (by first | (simp [results,Tryz.results225,go_sem];done) | (simp [results,Tryz.results225,go_sem, *];done)) rfl ⟨rfl,bel⟩
  ·rw [if_neg he]
   have he':(e != 0) = true:=by simpa using he
   clear he
   go_enter Tryz.func225,Tryz.ntmps225
   go_wp2_with (first
    | (go_at_call 239;refine (hk _ (HH.out.now bel) (fun _ h => h)).mono ?_;rintro e w1 ⟨rfl,hb1⟩;obtain ⟨hc1,hf1⟩:=bcell hb1;(try simp only [bqh,bqc,bqf] at hc1 hf1);have hz1:=hb1.size;(try simp at hz1);(try have hy1:=nl1 hz1);(try have hx1:=nl2 hy1);refine szz w1 w ?_;intros)
    | (refine wpList_insert_Is _ rfl _ (.const (.int .i64 5)) _ 245 rfl 3 244 (Maps.int_keyed Tryz.underlying3) Tryz.underlying245 _ 0 _ rfl (MapIs.made _ _ _) (by unfold maxLen;omega) _ _ _ rfl rfl (Tryz.keyInt 5 (by decide)) ?_;intro u0 hm0 hg0)
    | (refine wpList_insert_Is _ rfl _ (.const (.int .i64 6)) _ 245 rfl 3 244 (Maps.int_keyed Tryz.underlying3) Tryz.underlying245 _ 1 _ rfl hm0 (by unfold maxLen;omega) _ _ _ rfl rfl (Tryz.keyInt 6 (by decide)) ?_;intro u1 hm1 hg1)
    | (refine wpList_insert_Is _ rfl _ (.const (.int .i64 7)) _ 245 rfl 3 244 (Maps.int_keyed Tryz.underlying3) Tryz.underlying245 _ 2 _ rfl hm1 (by unfold maxLen;omega) _ _ _ rfl rfl (Tryz.keyInt 7 (by decide)) ?_;intro u2 hm2 hg2)
    | (refine wpList_insert_Is _ rfl _ (.const (.int .i64 8)) _ 245 rfl 3 244 (Maps.int_keyed Tryz.underlying3) Tryz.underlying245 _ 3 _ rfl hm2 (by unfold maxLen;omega) _ _ _ rfl rfl (Tryz.keyInt 8 (by decide)) ?_;intro u3 hm3 hg3)
    | (refine wpList_insert_Is _ rfl _ (.const (.int .i64 9)) _ 245 rfl 3 244 (Maps.int_keyed Tryz.underlying3) Tryz.underlying245 _ 4 _ rfl hm3 (by unfold maxLen;omega) _ _ _ rfl rfl (Tryz.keyInt 9 (by decide)) ?_;intro w4 hm4 hg4)
    | (at_lookup;refine wpList_lookup1_Is _ rfl _ _ 245 rfl 3 244 (Maps.int_keyed Tryz.underlying3) Tryz.underlying245 (Tryz.zeroFun _) _ 5 numMap rfl hm4 _ _ rfl (Tryz.keyInt 5 (by decide)) ?_;rw [show ((numMap (.int .i64 5):Option Value).getD .nilFunc) = (.func (.func 240) #[] #[]) from rfl]))
   have s0:w1.heap.size ≤ u0.heap.size:=by have:=hg0.size;simp at this;omega
   have s1:=Nat.le_trans s0 hg1.size
   have s2:=Nat.le_trans s1 hg2.size
   have s3:=Nat.le_trans s2 hg3.size
   have hb4:Below w1.heap.size w1 w4:=(((((Below.alloc (Below.refl _ w1) (Nat.le_refl _) _).grown hg0 (by simp) (fun j e => by cases e;exact Nat.le_refl _)).grown hg1 s0 (fun j e => by cases e;exact Nat.le_refl _)).grown hg2 s1 (fun j e => by cases e;exact Nat.le_refl _)).grown hg3 s2 (fun j e => by cases e;exact Nat.le_refl _)).grown hg4 s3 (fun j e => by cases e;exact Nat.le_refl _)
   clear s0 s1 s2 s3 hm0 hm1 hm2 hm3 hm4 hg0 hg1 hg2 hg3 hg4
   have hbl1:b < w1.heap.size:=by omega
   obtain ⟨hc4,hf4⟩:=bcell hb4;(try simp only [bqh,bqc,bqf] at hc4 hf4);have hz4:=hb4.size;(try simp at hz4);(try have hy4:=nl1 hz4);(try have hx4:=nl2 hy4);refine szz w4 w ?_;intros;refine szz w4 w1 ?_;intros
   go_quiet (fail)
   go_wp2_with (first
    | (refine (hN _).mono ?_;rintro e w2 ⟨rfl,nq,rfl⟩)
    | (go_at_call 221;refine (eval_fault _ _).mono ?_;rintro e w3 ⟨rfl,hb3⟩;obtain ⟨hc3,hf3⟩:=bcell hb3;(try simp only [bqh,bqc,bqf] at hc3 hf3);have hz3:=hb3.size;(try simp at hz3);(try have hy3:=nl1 hz3);(try have hx3:=nl2 hy3);refine szz w3 w ?_;intros;refine szz w3 w1 ?_;intros;refine szz w3 w4 ?_;intros;dsimp only))
   exact bodyPost_ret (v:=.agg #[.int .i64 5,.int .i64 e,.string ⟨#[]⟩]) (by first | (simp [results,Tryz.results225,go_sem];done) | (simp [results,Tryz.results225,go_sem, *];done)) rfl ⟨rfl,bel⟩
 ·have hp':(a.k == 1 && a'.k == 1) = false:=by
   cases hq:(a.k == 1 && a'.k == 1)
   ·rfl
   ·exact absurd (by simpa using hq) hp
  rw [if_neg hp]
  simp only [hp'] at hk
  clear hp hp'
  go_enter Tryz.func225,Tryz.ntmps225
  go_wp2_with (first
   | (go_at_call 239;refine (hk _ (HH.out.now bel) (fun _ h => h)).mono ?_;rintro e w1 ⟨rfl,hb1⟩;obtain ⟨hc1,hf1⟩:=bcell hb1;(try simp only [bqh,bqc,bqf] at hc1 hf1);have hz1:=hb1.size;(try simp at hz1);(try have hy1:=nl1 hz1);(try have hx1:=nl2 hy1);refine szz w1 w ?_;intros)
   | (go_at_call 221;refine (eval_fault _ _).mono ?_;rintro e w2 ⟨rfl,hb2⟩;obtain ⟨hc2,hf2⟩:=bcell hb2;(try simp only [bqh,bqc,bqf] at hc2 hf2);have hz2:=hb2.size;(try simp at hz2);(try have hy2:=nl1 hz2);(try have hx2:=nl2 hy2);refine szz w2 w ?_;intros;refine szz w2 w1 ?_;intros;dsimp only))
  exact bodyPost_ret (v:=.agg #[.int .i64 5,.int .i64 9,.string ⟨#[]⟩]) (by first | (simp [results,Tryz.results225,go_sem];done) | (simp [results,Tryz.results225,go_sem, *];done)) rfl ⟨rfl,bel⟩
set_option maxRecDepth 100000 in
set_option maxHeartbeats 4000000 in
theorem apply_div (A:Option Addr) (c:Nat) (a a':Val) (w:World) (h:Sl w (old w) 3 RVal A 2 [a,a']) :
  Calls Tryz.prog 225 #[.int .i64 6,.slice A 2 c] w (RetV w (if a.k = 1 ∧ a'.k = 1 then numV (numDiv a.n a'.n) else faultV 9)):=by
 have hk:=fun w h hS => eval_kinds A 2 c [a,a'] (old w) 1 w (by unfold inL;decide) h hS
 have HH:=Lib.hid h
 obtain ⟨b,o,rfl,hbl,⟨x0,x1,x2⟩,y0,y1,y2⟩:=two_at h
 clear h
 simp only [List.all_cons,List.all_nil,Bool.and_true] at hk
 have hmm:=@run_makeMap Tryz.prog
 have hcf:=cf_numDiv
 by_cases hp:a.k = 1 ∧ a'.k = 1
 ·have hp':(a.k == 1 && a'.k == 1) = true:=by simpa using hp
  rw [if_pos hp]
  simp only [hp'] at hk
  clear hp hp'
  have hN:=fun w => num_Div a.n a'.n w
  obtain ⟨r,e,hr⟩:∃ r e,numDiv a.n a'.n = (r,e):=⟨_,_,rfl⟩
  rw [hr] at hN ⊢
  clear hr
  dsimp only at hN
  unfold numV
  by_cases he:e = 0
  ·subst he
   rw [if_pos rfl]
   go_enter Tryz.func225,Tryz.ntmps225
   go_wp2_with (first
    | (go_at_call 239;refine (hk _ (HH.out.now bel) (fun _ h => h)).mono ?_;rintro e w1 ⟨rfl,hb1⟩;obtain ⟨hc1,hf1⟩:=bcell hb1;(try simp only [bqh,bqc,bqf] at hc1 hf1);have hz1:=hb1.size;(try simp at hz1);(try have hy1:=nl1 hz1);(try have hx1:=nl2 hy1);refine szz w1 w ?_;intros)
    | (refine wpList_insert_Is _ rfl _ (.const (.int .i64 5)) _ 245 rfl 3 244 (Maps.int_keyed Tryz.underlying3) Tryz.underlying245 _ 0 _ rfl (MapIs.made _ _ _) (by unfold maxLen;omega) _ _ _ rfl rfl (Tryz.keyInt 5 (by decide)) ?_;intro u0 hm0 hg0)
    | (refine wpList_insert_Is _ rfl _ (.const (.int .i64 6)) _ 245 rfl 3 244 (Maps.int_keyed Tryz.underlying3) Tryz.underlying245 _ 1 _ rfl hm0 (by unfold maxLen;omega) _ _ _ rfl rfl (Tryz.keyInt 6 (by decide)) ?_;intro u1 hm1 hg1)
    | (refine wpList_insert_Is _ rfl _ (.const (.int .i64 7)) _ 245 rfl 3 244 (Maps.int_keyed Tryz.underlying3) Tryz.underlying245 _ 2 _ rfl hm1 (by unfold maxLen;omega) _ _ _ rfl rfl (Tryz.keyInt 7 (by decide)) ?_;intro u2 hm2 hg2)
    | (refine wpList_insert_Is _ rfl _ (.const (.int .i64 8)) _ 245 rfl 3 244 (Maps.int_keyed Tryz.underlying3) Tryz.underlying245 _ 3 _ rfl hm2 (by unfold maxLen;omega) _ _ _ rfl rfl (Tryz.keyInt 8 (by decide)) ?_;intro u3 hm3 hg3)
    | (refine wpList_insert_Is _ rfl _ (.const (.int .i64 9)) _ 245 rfl 3 244 (Maps.int_keyed Tryz.underlying3) Tryz.underlying245 _ 4 _ rfl hm3 (by unfold maxLen;omega) _ _ _ rfl rfl (Tryz.keyInt 9 (by decide)) ?_;intro w4 hm4 hg4)
    | (at_lookup;refine wpList_lookup1_Is _ rfl _ _ 245 rfl 3 244 (Maps.int_keyed Tryz.underlying3) Tryz.underlying245 (Tryz.zeroFun _) _ 5 numMap rfl hm4 _ _ rfl (Tryz.keyInt 6 (by decide)) ?_;rw [show ((numMap (.int .i64 6):Option Value).getD .nilFunc) = (.func (.func 241) #[] #[]) from rfl]))
   have s0:w1.heap.size ≤ u0.heap.size:=by have:=hg0.size;simp at this;omega
   have s1:=Nat.le_trans s0 hg1.size
   have s2:=Nat.le_trans s1 hg2.size
   have s3:=Nat.le_trans s2 hg3.size
   have hb4:Below w1.heap.size w1 w4:=(((((Below.alloc (Below.refl _ w1) (Nat.le_refl _) _).grown hg0 (by simp) (fun j e => by cases e;exact Nat.le_refl _)).grown hg1 s0 (fun j e => by cases e;exact Nat.le_refl _)).grown hg2 s1 (fun j e => by cases e;exact Nat.le_refl _)).grown hg3 s2 (fun j e => by cases e;exact Nat.le_refl _)).grown hg4 s3 (fun j e => by cases e;exact Nat.le_refl _)
   clear s0 s1 s2 s3 hm0 hm1 hm2 hm3 hm4 hg0 hg1 hg2 hg3 hg4
   have hbl1:b < w1.heap.size:=by omega
   obtain ⟨hc4,hf4⟩:=bcell hb4;(try simp only [bqh,bqc,bqf] at hc4 hf4);have hz4:=hb4.size;(try simp at hz4);(try have hy4:=nl1 hz4);(try have hx4:=nl2 hy4);refine szz w4 w ?_;intros;refine szz w4 w1 ?_;intros
   go_quiet (fail)
   go_wp2_with (first
    | (refine (hN _).mono ?_;rintro e w2 ⟨rfl,nq,rfl⟩))
   exact bodyPost_ret (v:=.agg #[.int .i64 1,.int .i64 r,.string ⟨#[]⟩]) (by first | (simp [results,Tryz.results225,go_sem];done) | (simp [results,Tryz.results225,go_sem, *];done)) rfl ⟨rfl,bel⟩
  ·rw [if_neg he]
   have he':(e != 0) = true:=by simpa using he
   clear he
   go_enter Tryz.func225,Tryz.ntmps225
   go_wp2_with (first
    | (go_at_call 239;refine (hk _ (HH.out.now bel) (fun _ h => h)).mono ?_;rintro e w1 ⟨rfl,hb1⟩;obtain ⟨hc1,hf1⟩:=bcell hb1;(try simp only [bqh,bqc,bqf] at hc1 hf1);have hz1:=hb1.size;(try simp at hz1);(try have hy1:=nl1 hz1);(try have hx1:=nl2 hy1);refine szz w1 w ?_;intros)
    | (refine wpList_insert_Is _ rfl _ (.const (.int .i64 5)) _ 245 rfl 3 244 (Maps.int_keyed Tryz.underlying3) Tryz.underlying245 _ 0 _ rfl (MapIs.made _ _ _) (by unfold maxLen;omega) _ _ _ rfl rfl (Tryz.keyInt 5 (by decide)) ?_;intro u0 hm0 hg0)
    | (refine wpList_insert_Is _ rfl _ (.const (.int .i64 6)) _ 245 rfl 3 244 (Maps.int_keyed Tryz.underlying3) Tryz.underlying245 _ 1 _ rfl hm0 (by unfold maxLen;omega) _ _ _ rfl rfl (Tryz.keyInt 6 (by decide)) ?_;intro u1 hm1 hg1)
    | (refine wpList_insert_Is _ rfl _ (.const (.int .i64 7)) _ 245 rfl 3 244 (Maps.int_keyed Tryz.underlying3) Tryz.underlying245 _ 2 _ rfl hm1 (by unfold maxLen;omega) _ _ _ rfl rfl (Tryz.keyInt 7 (by decide)) ?_;intro u2 hm2 hg2)
    | (refine wpList_insert_Is _ rfl _ (.const (.int .i64 8)) _ 245 rfl 3 244 (Maps.int_keyed Tryz.underlying3) Tryz.underlying245 _ 3 _ rfl hm2 (by unfold maxLen;omega) _ _ _ rfl rfl (Tryz.keyInt 8 (by decide)) ?_;intro u3 hm3 hg3)
    | (refine wpList_insert_Is _ rfl _ (.const (.int .i64 9)) _ 245 rfl 3 244 (Maps.int_keyed Tryz.underlying3) Tryz.underlying245 _ 4 _ rfl hm3 (by unfold maxLen;omega) _ _ _ rfl rfl (Tryz.keyInt 9 (by decide)) ?_;intro w4 hm4 hg4)
    | (at_lookup;refine wpList_lookup1_Is _ rfl _ _ 245 rfl 3 244 (Maps.int_keyed Tryz.underlying3) Tryz.underlying245 (Tryz.zeroFun _) _ 5 numMap rfl hm4 _ _ rfl (Tryz.keyInt 6 (by decide)) ?_;rw [show ((numMap (.int .i64 6):Option Value).getD .nilFunc) = (.func (.func 241) #[] #[]) from rfl]))
   have s0:w1.heap.size ≤ u0.heap.size:=by have:=hg0.size;simp at this;omega
   have s1:=Nat.le_trans s0 hg1.size
   have s2:=Nat.le_trans s1 hg2.size
   have s3:=Nat.le_trans s2 hg3.size
   have hb4:Below w1.heap.size w1 w4:=(((((Below.alloc (Below.refl _ w1) (Nat.le_refl _) _).grown hg0 (by simp) (fun j e => by cases e;exact Nat.le_refl _)).grown hg1 s0 (fun j e => by cases e;exact Nat.le_refl _)).grown hg2 s1 (fun j e => by cases e;exact Nat.le_refl _)).grown hg3 s2 (fun j e => by cases e;exact Nat.le_refl _)).grown hg4 s3 (fun j e => by cases e;exact Nat.le_refl _)
   clear s0 s1 s2 s3 hm0 hm1 hm2 hm3 hm4 hg0 hg1 hg2 hg3 hg4
   have hbl1:b < w1.heap.size:=by omega
   obtain ⟨hc4,hf4⟩:=bcell hb4;(try simp only [bqh,bqc,bqf] at hc4 hf4);have hz4:=hb4.size;(try simp at hz4);(try have hy4:=nl1 hz4);(try have hx4:=nl2 hy4);refine szz w4 w ?_;intros;refine szz w4 w1 ?_;intros
   go_quiet (fail)
   go_wp2_with (first
    | (refine (hN _).mono ?_;rintro e w2 ⟨rfl,nq,rfl⟩)
    | (go_at_call 221;refine (eval_fault _ _).mono ?_;rintro e w3 ⟨rfl,hb3⟩;obtain ⟨hc3,hf3⟩:=bcell hb3;(try simp only [bqh,bqc,bqf] at hc3 hf3);have hz3:=hb3.size;(try simp at hz3);(try have hy3:=nl1 hz3);(try have hx3:=nl2 hy3);refine szz w3 w ?_;intros;refine szz w3 w1 ?_;intros;refine szz w3 w4 ?_;intros;dsimp only))
   exact bodyPost_ret (v:=.agg #[.int .i64 5,.int .i64 e,.string ⟨#[]⟩]) (by first | (simp [results,Tryz.results225,go_sem];done) | (simp [results,Tryz.results225,go_sem, *];done)) rfl ⟨rfl,bel⟩
 ·have hp':(a.k == 1 && a'.k == 1) = false:=by
   cases hq:(a.k == 1 && a'.k == 1)
   ·rfl
   ·exact absurd (by simpa using hq) hp
  rw [if_neg hp]
  simp only [hp'] at hk
  clear hp hp'
  go_enter Tryz.func225,Tryz.ntmps225
  go_wp2_with (first
   | (go_at_call 239;refine (hk _ (HH.out.now bel) (fun _ h => h)).mono ?_;rintro e w1 ⟨rfl,hb1⟩;obtain ⟨hc1,hf1⟩:=bcell hb1;(try simp only [bqh,bqc,bqf] at hc1 hf1);have hz1:=hb1.size;(try simp at hz1);(try have hy1:=nl1 hz1);(try have hx1:=nl2 hy1);refine szz w1 w ?_;intros)
   | (go_at_call 221;refine (eval_fault _ _).mono ?_;rintro e w2 ⟨rfl,hb2⟩;obtain ⟨hc2,hf2⟩:=bcell hb2;(try simp only [bqh,bqc,bqf] at hc2 hf2);have hz2:=hb2.size;(try simp at hz2);(try have hy2:=nl1 hz2);(try have hx2:=nl2 hy2);refine szz w2 w ?_;intros;refine szz w2 w1 ?_;intros;dsimp only))
  exact bodyPost_ret (v:=.agg #[.int .i64 5,.int .i64 9,.string ⟨#[]⟩]) (by first | (simp [results,Tryz.results225,go_sem];done) | (simp [results,Tryz.results225,go_sem, *];done)) rfl ⟨rfl,bel⟩
set_option maxRecDepth 100000 in
set_option maxHeartbeats 4000000 in
theorem apply_mod (A:Option Addr) (c:Nat) (a a':Val) (w:World) (h:Sl w (old w) 3 RVal A 2 [a,a']) :
  Calls Tryz.prog 225 #[.int .i64 7,.slice A 2 c] w (RetV w (if a.k = 1 ∧ a'.k = 1 then numV (numMod a.n a'.n) else faultV 9)):=by
 have hk:=fun w h hS => eval_kinds A 2 c [a,a'] (old w) 1 w (by unfold inL;decide) h hS
 have HH:=Lib.hid h
 obtain ⟨b,o,rfl,hbl,⟨x0,x1,x2⟩,y0,y1,y2⟩:=two_at h
 clear h
 simp only [List.all_cons,List.all_nil,Bool.and_true] at hk
 have hmm:=@run_makeMap Tryz.prog
 have hcf:=cf_numMod
 by_cases hp:a.k = 1 ∧ a'.k = 1
 ·have hp':(a.k == 1 && a'.k == 1) = true:=by simpa using hp
  rw [if_pos hp]
  simp only [hp'] at hk
  clear hp hp'
  have hN:=fun w => num_Mod a.n a'.n w
  obtain ⟨r,e,hr⟩:∃ r e,numMod a.n a'.n = (r,e):=⟨_,_,rfl⟩
  rw [hr] at hN ⊢
  clear hr
  dsimp only at hN
  unfold numV
  by_cases he:e = 0
  ·subst he
   rw [if_pos rfl]
   go_enter Tryz.func225,Tryz.ntmps225
   go_wp2_with (first
    | (go_at_call 239;refine (hk _ (HH.out.now bel) (fun _ h => h)).mono ?_;rintro e w1 ⟨rfl,hb1⟩;obtain ⟨hc1,hf1⟩:=bcell hb1;(try simp only [bqh,bqc,bqf] at hc1 hf1);have hz1:=hb1.size;(try simp at hz1);(try have hy1:=nl1 hz1);(try have hx1:=nl2 hy1);refine szz w1 w ?_;intros)
    | (refine wpList_insert_Is _ rfl _ (.const (.int .i64 5)) _ 245 rfl 3 244 (Maps.int_keyed Tryz.underlying3) Tryz.underlying245 _ 0 _ rfl (MapIs.made _ _ _) (by unfold maxLen;omega) _ _ _ rfl rfl (Tryz.keyInt 5 (by decide)) ?_;intro u0 hm0 hg0)
    | (refine wpList_insert_Is _ rfl _ (.const (.int .i64 6)) _ 245 rfl 3 244 (Maps.int_keyed Tryz.underlying3) Tryz.underlying245 _ 1 _ rfl hm0 (by unfold maxLen;omega) _ _ _ rfl rfl (Tryz.keyInt 6 (by decide)) ?_;intro u1 hm1 hg1)
    | (refine wpList_insert_Is _ rfl _ (.const (.int .i64 7)) _ 245 rfl 3 244 (Maps.int_keyed Tryz.underlying3) Tryz.underlying245 _ 2 _ rfl hm1 (by unfold maxLen;omega) _ _ _ rfl rfl (Tryz.keyInt 7 (by decide)) ?_;intro u2 hm2 hg2)
    | (refine wpList_insert_Is _ rfl _ (.const (.int .i64 8)) _ 245 rfl 3 244 (Maps.int_keyed Tryz.underlying3) Tryz.underlying245 _ 3 _ rfl hm2 (by unfold maxLen;omega) _ _ _ rfl rfl (Tryz.keyInt 8 (by decide)) ?_;intro u3 hm3 hg3)
    | (refine wpList_insert_Is _ rfl _ (.const (.int .i64 9)) _ 245 rfl 3 244 (Maps.int_keyed Tryz.underlying3) Tryz.underlying245 _ 4 _ rfl hm3 (by unfold maxLen;omega) _ _ _ rfl rfl (Tryz.keyInt 9 (by decide)) ?_;intro w4 hm4 hg4)
    | (at_lookup;refine wpList_lookup1_Is _ rfl _ _ 245 rfl 3 244 (Maps.int_keyed Tryz.underlying3) Tryz.underlying245 (Tryz.zeroFun _) _ 5 numMap rfl hm4 _ _ rfl (Tryz.keyInt 7 (by decide)) ?_;rw [show ((numMap (.int .i64 7):Option Value).getD .nilFunc) = (.func (.func 242) #[] #[]) from rfl]))
   have s0:w1.heap.size ≤ u0.heap.size:=by have:=hg0.size;simp at this;omega
   have s1:=Nat.le_trans s0 hg1.size
   have s2:=Nat.le_trans s1 hg2.size
   have s3:=Nat.le_trans s2 hg3.size
   have hb4:Below w1.heap.size w1 w4:=(((((Below.alloc (Below.refl _ w1) (Nat.le_refl _) _).grown hg0 (by simp) (fun j e => by cases e;exact Nat.le_refl _)).grown hg1 s0 (fun j e => by cases e;exact Nat.le_refl _)).grown hg2 s1 (fun j e => by cases e;exact Nat.le_refl _)).grown hg3 s2 (fun j e => by cases e;exact Nat.le_refl _)).grown hg4 s3 (fun j e => by cases e;exact Nat.le_refl _)
   clear s0 s1 s2 s3 hm0 hm1 hm2 hm3 hm4 hg0 hg1 hg2 hg3 hg4
   have hbl1:b < w1.heap.size:=by omega
   obtain ⟨hc4,hf4⟩:=bcell hb4;(try simp only [bqh,bqc,bqf] at hc4 hf4);have hz4:=hb4.size;(try simp at hz4);(try have hy4:=nl1 hz4);(try have hx4:=nl2 hy4);refine szz w4 w ?_;intros;refine szz w4 w1 ?_;intros
   go_quiet (fail)
   go_wp2_with (first
    | (refine (hN _).mono ?_;rintro e w2 ⟨rfl,nq,rfl⟩))
   exact bodyPost_ret (v:=.agg #[.int .i64 1,.int .i64 r,.string ⟨#[]⟩]) (by first | (simp [results,Tryz.results225,go_sem];done) | (simp [results,Tryz.results225,go_sem, *];done)) rfl ⟨rfl,bel⟩
  ·rw [if_neg he]
   have he':(e != 0) = true:=by simpa using he
   clear he
   go_enter Tryz.func225,Tryz.ntmps225
   go_wp2_with (first
    | (go_at_call 239;refine (hk _ (HH.out.now bel) (fun _ h => h)).mono ?_;rintro e w1 ⟨rfl,hb1⟩;obtain ⟨hc1,hf1⟩:=bcell hb1;(try simp only [bqh,bqc,bqf] at hc1 hf1);have hz1:=hb1.size;(try simp at hz1);(try have hy1:=nl1 hz1);(try have hx1:=nl2 hy1);refine szz w1 w ?_;intros)
    | (refine wpList_insert_Is _ rfl _ (.const (.int .i64 5)) _ 245 rfl 3 244 (Maps.int_keyed Tryz.underlying3) Tryz.underlying245 _ 0 _ rfl (MapIs.made _ _ _) (by unfold maxLen;omega) _ _ _ rfl rfl (Tryz.keyInt 5 (by decide)) ?_;intro u0 hm0 hg0)
    | (refine wpList_insert_Is _ rfl _ (.const (.int .i64 6)) _ 245 rfl 3 244 (Maps.int_keyed Tryz.underlying3) Tryz.underlying245 _ 1 _ rfl hm0 (by unfold maxLen;omega) _ _ _ rfl rfl (Tryz.keyInt 6 (by decide)) ?_;intro u1 hm1 hg1)
    | (refine wpList_insert_Is _ rfl _ (.const (.int .i64 7)) _ 245 rfl 3 244 (Maps.int_keyed Tryz.underlying3) Tryz.underlying245 _ 2 _ rfl hm1 (by unfold maxLen;omega) _ _ _ rfl rfl (Tryz.keyInt 7 (by decide)) ?_;intro u2 hm2 hg2)
    | (refine wpList_insert_Is _ rfl _ (.const (.int .i64 8)) _ 245 rfl 3 244 (Maps.int_keyed Tryz.underlying3) Tryz.underlying245 _ 3 _ rfl hm2 (by unfold maxLen;omega) _ _ _ rfl rfl (Tryz.keyInt 8 (by decide)) ?_;intro u3 hm3 hg3)
    | (refine wpList_insert_Is _ rfl _ (.const (.int .i64 9)) _ 245 rfl 3 244 (Maps.int_keyed Tryz.underlying3) Tryz.underlying245 _ 4 _ rfl hm3 (by unfold maxLen;omega) _ _ _ rfl rfl (Tryz.keyInt 9 (by decide)) ?_;intro w4 hm4 hg4)
    | (at_lookup;refine wpList_lookup1_Is _ rfl _ _ 245 rfl 3 244 (Maps.int_keyed Tryz.underlying3) Tryz.underlying245 (Tryz.zeroFun _) _ 5 numMap rfl hm4 _ _ rfl (Tryz.keyInt 7 (by decide)) ?_;rw [show ((numMap (.int .i64 7):Option Value).getD .nilFunc) = (.func (.func 242) #[] #[]) from rfl]))
   have s0:w1.heap.size ≤ u0.heap.size:=by have:=hg0.size;simp at this;omega
   have s1:=Nat.le_trans s0 hg1.size
   have s2:=Nat.le_trans s1 hg2.size
   have s3:=Nat.le_trans s2 hg3.size
   have hb4:Below w1.heap.size w1 w4:=(((((Below.alloc (Below.refl _ w1) (Nat.le_refl _) _).grown hg0 (by simp) (fun j e => by cases e;exact Nat.le_refl _)).grown hg1 s0 (fun j e => by cases e;exact Nat.le_refl _)).grown hg2 s1 (fun j e => by cases e;exact Nat.le_refl _)).grown hg3 s2 (fun j e => by cases e;exact Nat.le_refl _)).grown hg4 s3 (fun j e => by cases e;exact Nat.le_refl _)
   clear s0 s1 s2 s3 hm0 hm1 hm2 hm3 hm4 hg0 hg1 hg2 hg3 hg4
   have hbl1:b < w1.heap.size:=by omega
   obtain ⟨hc4,hf4⟩:=bcell hb4;(try simp only [bqh,bqc,bqf] at hc4 hf4);have hz4:=hb4.size;(try simp at hz4);(try have hy4:=nl1 hz4);(try have hx4:=nl2 hy4);refine szz w4 w ?_;intros;refine szz w4 w1 ?_;intros
   go_quiet (fail)
   go_wp2_with (first
    | (refine (hN _).mono ?_;rintro e w2 ⟨rfl,nq,rfl⟩)
    | (go_at_call 221;refine (eval_fault _ _).mono ?_;rintro e w3 ⟨rfl,hb3⟩;obtain ⟨hc3,hf3⟩:=bcell hb3;(try simp only [bqh,bqc,bqf] at hc3 hf3);have hz3:=hb3.size;(try simp at hz3);(try have hy3:=nl1 hz3);(try have hx3:=nl2 hy3);refine szz w3 w ?_;intros;refine szz w3 w1 ?_;intros;refine szz w3 w4 ?_;intros;dsimp only))
   exact bodyPost_ret (v:=.agg #[.int .i64 5,.int .i64 e,.string ⟨#[]⟩]) (by first | (simp [results,Tryz.results225,go_sem];done) | (simp [results,Tryz.results225,go_sem, *];done)) rfl ⟨rfl,bel⟩
 ·have hp':(a.k == 1 && a'.k == 1) = false:=by
   cases hq:(a.k == 1 && a'.k == 1)
   ·rfl
   ·exact absurd (by simpa using hq) hp
  rw [if_neg hp]
  simp only [hp'] at hk
  clear hp hp'
  go_enter Tryz.func225,Tryz.ntmps225
  go_wp2_with (first
   | (go_at_call 239;refine (hk _ (HH.out.now bel) (fun _ h => h)).mono ?_;rintro e w1 ⟨rfl,hb1⟩;obtain ⟨hc1,hf1⟩:=bcell hb1;(try simp only [bqh,bqc,bqf] at hc1 hf1);have hz1:=hb1.size;(try simp at hz1);(try have hy1:=nl1 hz1);(try have hx1:=nl2 hy1);refine szz w1 w ?_;intros)
   | (go_at_call 221;refine (eval_fault _ _).mono ?_;rintro e w2 ⟨rfl,hb2⟩;obtain ⟨hc2,hf2⟩:=bcell hb2;(try simp only [bqh,bqc,bqf] at hc2 hf2);have hz2:=hb2.size;(try simp at hz2);(try have hy2:=nl1 hz2);(try have hx2:=nl2 hy2);refine szz w2 w ?_;intros;refine szz w2 w1 ?_;intros;dsimp only))
  exact bodyPost_ret (v:=.agg #[.int .i64 5,.int .i64 9,.string ⟨#[]⟩]) (by first | (simp [results,Tryz.results225,go_sem];done) | (simp [results,Tryz.results225,go_sem, *];done)) rfl ⟨rfl,bel⟩
set_option maxRecDepth 100000 in
set_option maxHeartbeats 4000000 in
theorem apply_add (A:Option Addr) (c:Nat) (a a':Val) (w:World) (h:Sl w (old w) 3 RVal A 2 [a,a']) :
  Calls Tryz.prog 225 #[.int .i64 8,.slice A 2 c] w (RetV w (if a.k = 1 ∧ a'.k = 1 then numV (numAdd a.n a'.n) else faultV 9)):=by
 have hk:=fun w h hS => eval_kinds A 2 c [a,a'] (old w) 1 w (by unfold inL;decide) h hS
 have HH:=Lib.hid h
 obtain ⟨b,o,rfl,hbl,⟨x0,x1,x2⟩,y0,y1,y2⟩:=two_at h
 clear h
 simp only [List.all_cons,List.all_nil,Bool.and_true] at hk
 have hmm:=@run_makeMap Tryz.prog
 have hcf:=cf_numAdd
 by_cases hp:a.k = 1 ∧ a'.k = 1
 ·have hp':(a.k == 1 && a'.k == 1) = true:=by simpa using hp
  rw [if_pos hp]
  simp only [hp'] at hk
  clear hp hp'
  have hN:=fun w => num_Add a.n a'.n w
  obtain ⟨r,e,hr⟩:∃ r e,numAdd a.n a'.n = (r,e):=⟨_,_,rfl⟩
  rw [hr] at hN ⊢
  clear hr
  dsimp only at hN
  unfold numV
  by_cases he:e = 0
  ·subst he
   rw [if_pos rfl]
   go_enter Tryz.func225,Tryz.ntmps225
   go_wp2_with (first
    | (go_at_call 239;refine (hk _ (HH.out.now bel) (fun _ h => h)).mono ?_;rintro e w1 ⟨rfl,hb1⟩;obtain ⟨hc1,hf1⟩:=bcell hb1;(try simp only [bqh,bqc,bqf] at hc1 hf1);have hz1:=hb1.size;(try simp at hz1);(try have hy1:=nl1 hz1);(try have hx1:=nl2 hy1);refine szz w1 w ?_;intros)
    | (refine wpList_insert_Is _ rfl _ (.const (.int .i64 5)) _ 245 rfl 3 244 (Maps.int_keyed Tryz.underlying3) Tryz.underlying245 _ 0 _ rfl (MapIs.made _ _ _) (by unfold maxLen;omega) _ _ _ rfl rfl (Tryz.keyInt 5 (by decide)) ?_;intro u0 hm0 hg0)
    | (refine wpList_insert_Is _ rfl _ (.const (.int .i64 6)) _ 245 rfl 3 244 (Maps.int_keyed Tryz.underlying3) Tryz.underlying245 _ 1 _ rfl hm0 (by unfold maxLen;omega) _ _ _ rfl rfl (Tryz.keyInt 6 (by decide)) ?_;intro u1 hm1 hg1)
    | (refine wpList_insert_Is _ rfl _ (.const (.int .i64 7)) _ 245 rfl 3 244 (Maps.int_keyed Tryz.underlying3) Tryz.underlying245 _ 2 _ rfl hm1 (by unfold maxLen;omega) _ _ _ rfl rfl (Tryz.keyInt 7 (by decide)) ?_;intro u2 hm2 hg2)
    | (refine wpList_insert_Is _ rfl _ (.const (.int .i64 8)) _ 245 rfl 3 244 (Maps.int_keyed Tryz.underlying3) Tryz.underlying245 _ 3 _ rfl hm2 (by unfold maxLen;omega) _ _ _ rfl rfl (Tryz.keyInt 8 (by decide)) ?_;intro u3 hm3 hg3)
    | (refine wpList_insert_Is _ rfl _ (.const (.int .i64 9)) _ 245 rfl 3 244 (Maps.int_keyed Tryz.underlying3) Tryz.underlying245 _ 4 _ rfl hm3 (by unfold maxLen;omega) _ _ _ rfl rfl (Tryz.keyInt 9 (by decide)) ?_;intro w4 hm4 hg4)
    | (at_lookup;refine wpList_lookup1_Is _ rfl _ _ 245 rfl 3 244 (Maps.int_keyed Tryz.underlying3) Tryz.underlying245 (Tryz.zeroFun _) _ 5 numMap rfl hm4 _ _ rfl (Tryz.keyInt 8 (by decide)) ?_;rw [show ((numMap (.int .i64 8):Option Value).getD .nilFunc) = (.func (.func 243) #[] #[]) from rfl]))
   have s0:w1.heap.size ≤ u0.heap.size:=by have:=hg0.size;simp at this;omega
   have s1:=Nat.le_trans s0 hg1.size
   have s2:=Nat.le_trans s1 hg2.size
   have s3:=Nat.le_trans s2 hg3.size
   have hb4:Below w1.heap.size w1 w4:=(((((Below.alloc (Below.refl _ w1) (Nat.le_refl _) _).grown hg0 (by simp) (fun j e => by cases e;exact Nat.le_refl _)).grown hg1 s0 (fun j e => by cases e;exact Nat.le_refl _)).grown hg2 s1 (fun j e => by cases e;exact Nat.le_refl _)).grown hg3 s2 (fun j e => by cases e;exact Nat.le_refl _)).grown hg4 s3 (fun j e => by cases e;exact Nat.le_refl _)
   clear s0 s1 s2 s3 hm0 hm1 hm2 hm3 hm4 hg0 hg1 hg2 hg3 hg4
   have hbl1:b < w1.heap.size:=by omega
   obtain ⟨hc4,hf4⟩:=bcell hb4;(try simp only [bqh,bqc,bqf] at hc4 hf4);have hz4:=hb4.size;(try simp at hz4);(try have hy4:=nl1 hz4);(try have hx4:=nl2 hy4);refine szz w4 w ?_;intros;refine szz w4 w1 ?_;intros
   go_quiet (fail)
   go_wp2_with (first
    | (refine (hN _).mono ?_;rintro e w2 ⟨rfl,nq,rfl⟩))
   exact bodyPost_ret (v:=.agg #[.int .i64 1,.int .i64 r,.string ⟨#[]⟩]) (by first | (simp [results,Tryz.results225,go_sem];done) | (simp [results,Tryz.results225,go_sem, *];done)) rfl ⟨rfl,bel⟩
  ·rw [if_neg he]
   have he':(e != 0) = true:=by simpa using he
   clear he
   go_enter Tryz.func225,Tryz.ntmps225
   go_wp2_with (first
    | (go_at_call 239;refine (hk _ (HH.out.now bel) (fun _ h => h)).mono ?_;rintro e w1 ⟨rfl,hb1⟩;obtain ⟨hc1,hf1⟩:=bcell hb1;(try simp only [bqh,bqc,bqf] at hc1 hf1);have hz1:=hb1.size;(try simp at hz1);(try have hy1:=nl1 hz1);(try have hx1:=nl2 hy1);refine szz w1 w ?_;intros)
    | (refine wpList_insert_Is _ rfl _ (.const (.int .i64 5)) _ 245 rfl 3 244 (Maps.int_keyed Tryz.underlying3) Tryz.underlying245 _ 0 _ rfl (MapIs.made _ _ _) (by unfold maxLen;omega) _ _ _ rfl rfl (Tryz.keyInt 5 (by decide)) ?_;intro u0 hm0 hg0)
    | (refine wpList_insert_Is _ rfl _ (.const (.int .i64 6)) _ 245 rfl 3 244 (Maps.int_keyed Tryz.underlying3) Tryz.underlying245 _ 1 _ rfl hm0 (by unfold maxLen;omega) _ _ _ rfl rfl (Tryz.keyInt 6 (by decide)) ?_;intro u1 hm1 hg1)
    | (refine wpList_insert_Is _ rfl _ (.const (.int .i64 7)) _ 245 rfl 3 244 (Maps.int_keyed Tryz.underlying3) Tryz.underlying245 _ 2 _ rfl hm1 (by unfold maxLen;omega) _ _ _ rfl rfl (Tryz.keyInt 7 (by decide)) ?_;intro u2 hm2 hg2)
    | (refine wpList_insert_Is _ rfl _ (.const (.int .i64 8)) _ 245 rfl 3 244 (Maps.int_keyed Tryz.underlying3) Tryz.underlying245 _ 3 _ rfl hm2 (by unfold maxLen;omega) _ _ _ rfl rfl (Tryz.keyInt 8 (by decide)) ?_;intro u3 hm3 hg3)
    | (refine wpList_insert_Is _ rfl _ (.const (.int .i64 9)) _ 245 rfl 3 244 (Maps.int_keyed Tryz.underlying3) Tryz.underlying245 _ 4 _ rfl hm3 (by unfold maxLen;omega) _ _ _ rfl rfl (Tryz.keyInt 9 (by decide)) ?_;intro w4 hm4 hg4)
    | (at_lookup;refine wpList_lookup1_Is _ rfl _ _ 245 rfl 3 244 (Maps.int_keyed Tryz.underlying3) Tryz.underlying245 (Tryz.zeroFun _) _ 5 numMap rfl hm4 _ _ rfl (Tryz.keyInt 8 (by decide)) ?_;rw [show ((numMap (.int .i64 8):Option Value).getD .nilFunc) = (.func (.func 243) #[] #[]) from rfl]))
   have s0:w1.heap.size ≤ u0.heap.size:=by have:=hg0.size;simp at this;omega
   have s1:=Nat.le_trans s0 hg1.size
   have s2:=Nat.le_trans s1 hg2.size
   have s3:=Nat.le_trans s2 hg3.size
   have hb4:Below w1.heap.size w1 w4:=(((((Below.alloc (Below.refl _ w1) (Nat.le_refl _) _).grown hg0 (by simp) (fun j e => by cases e;exact Nat.le_refl _)).grown hg1 s0 (fun j e => by cases e;exact Nat.le_refl _)).grown hg2 s1 (fun j e => by cases e;exact Nat.le_refl _)).grown hg3 s2 (fun j e => by cases e;exact Nat.le_refl _)).grown hg4 s3 (fun j e => by cases e;exact Nat.le_refl _)
   clear s0 s1 s2 s3 hm0 hm1 hm2 hm3 hm4 hg0 hg1 hg2 hg3 hg4
   have hbl1:b < w1.heap.size:=by omega
   obtain ⟨hc4,hf4⟩:=bcell hb4;(try simp only [bqh,bqc,bqf] at hc4 hf4);have hz4:=hb4.size;(try simp at hz4);(try have hy4:=nl1 hz4);(try have hx4:=nl2 hy4);refine szz w4 w ?_;intros;refine szz w4 w1 ?_;intros
   go_quiet (fail)
   go_wp2_with (first
    | (refine (hN _).mono ?_;rintro e w2 ⟨rfl,nq,rfl⟩)
    | (go_at_call 221;refine (eval_fault _ _).mono ?_;rintro e w3 ⟨rfl,hb3⟩;obtain ⟨hc3,hf3⟩:=bcell hb3;(try simp only [bqh,bqc,bqf] at hc3 hf3);have hz3:=hb3.size;(try simp at hz3);(try have hy3:=nl1 hz3);(try have hx3:=nl2 hy3);refine szz w3 w ?_;intros;refine szz w3 w1 ?_;intros;refine szz w3 w4 ?_;intros;dsimp only))
   exact bodyPost_ret (v:=.agg #[.int .i64 5,.int .i64 e,.string ⟨#[]⟩]) (by first | (simp [results,Tryz.results225,go_sem];done) | (simp [results,Tryz.results225,go_sem, *];done)) rfl ⟨rfl,bel⟩
 ·have hp':(a.k == 1 && a'.k == 1) = false:=by
   cases hq:(a.k == 1 && a'.k == 1)
   ·rfl
   ·exact absurd (by simpa using hq) hp
  rw [if_neg hp]
  simp only [hp'] at hk
  clear hp hp'
  go_enter Tryz.func225,Tryz.ntmps225
  go_wp2_with (first
   | (go_at_call 239;refine (hk _ (HH.out.now bel) (fun _ h => h)).mono ?_;rintro e w1 ⟨rfl,hb1⟩;obtain ⟨hc1,hf1⟩:=bcell hb1;(try simp only [bqh,bqc,bqf] at hc1 hf1);have hz1:=hb1.size;(try simp at hz1);(try have hy1:=nl1 hz1);(try have hx1:=nl2 hy1);refine szz w1 w ?_;intros)
   | (go_at_call 221;refine (eval_fault _ _).mono ?_;rintro e w2 ⟨rfl,hb2⟩;obtain ⟨hc2,hf2⟩:=bcell hb2;(try simp only [bqh,bqc,bqf] at hc2 hf2);have hz2:=hb2.size;(try simp at hz2);(try have hy2:=nl1 hz2);(try have hx2:=nl2 hy2);refine szz w2 w ?_;intros;refine szz w2 w1 ?_;intros;dsimp only))
  exact bodyPost_ret (v:=.agg #[.int .i64 5,.int .i64 9,.string ⟨#[]⟩]) (by first | (simp [results,Tryz.results225,go_sem];done) | (simp [results,Tryz.results225,go_sem, *];done)) rfl ⟨rfl,bel⟩
set_option maxRecDepth 100000 in
set_option maxHeartbeats 4000000 in
theorem apply_sub (A:Option Addr) (c:Nat) (a a':Val) (w:World) (h:Sl w (old w) 3 RVal A 2 [a,a']) :
  Calls Tryz.prog 225 #[.int .i64 9,.slice A 2 c] w (RetV w (if a.k = 1 ∧ a'.k = 1 then numV (numSub a.n a'.n) else faultV 9)):=by
 have hk:=fun w h hS => eval_kinds A 2 c [a,a'] (old w) 1 w (by unfold inL;decide) h hS
 have HH:=Lib.hid h
 obtain ⟨b,o,rfl,hbl,⟨x0,x1,x2⟩,y0,y1,y2⟩:=two_at h
 clear h
 simp only [List.all_cons,List.all_nil,Bool.and_true] at hk
 have hmm:=@run_makeMap Tryz.prog
 have hcf:=cf_numSub
 by_cases hp:a.k = 1 ∧ a'.k = 1
 ·have hp':(a.k == 1 && a'.k == 1) = true:=by simpa using hp
  rw [if_pos hp]
  simp only [hp'] at hk
  clear hp hp'
  have hN:=fun w => num_Sub a.n a'.n w
  obtain ⟨r,e,hr⟩:∃ r e,numSub a.n a'.n = (r,e):=⟨_,_,rfl⟩
  rw [hr] at hN ⊢
  clear hr
  dsimp only at hN
  unfold numV
  by_cases he:e = 0
  ·subst he
   rw [if_pos rfl]
   go_enter Tryz.func225,Tryz.ntmps225
   go_wp2_with (first
    | (go_at_call 239;refine (hk _ (HH.out.now bel) (fun _ h => h)).mono ?_;rintro e w1 ⟨rfl,hb1⟩;obtain ⟨hc1,hf1⟩:=bcell hb1;(try simp only [bqh,bqc,bqf] at hc1 hf1);have hz1:=hb1.size;(try simp at hz1);(try have hy1:=nl1 hz1);(try have hx1:=nl2 hy1);refine szz w1 w ?_;intros)
    | (refine wpList_insert_Is _ rfl _ (.const (.int .i64 5)) _ 245 rfl 3 244 (Maps.int_keyed Tryz.underlying3) Tryz.underlying245 _ 0 _ rfl (MapIs.made _ _ _) (by unfold maxLen;omega) _ _ _ rfl rfl (Tryz.keyInt 5 (by decide)) ?_;intro u0 hm0 hg0)
    | (refine wpList_insert_Is _ rfl _ (.const (.int .i64 6)) _ 245 rfl 3 244 (Maps.int_keyed Tryz.underlying3) Tryz.underlying245 _ 1 _ rfl hm0 (by unfold maxLen;omega) _ _ _ rfl rfl (Tryz.keyInt 6 (by decide)) ?_;intro u1 hm1 hg1)
    | (refine wpList_insert_Is _ rfl _ (.const (.int .i64 7)) _ 245 rfl 3 244 (Maps.int_keyed Tryz.underlying3) Tryz.underlying245 _ 2 _ rfl hm1 (by unfold maxLen;omega) _ _ _ rfl rfl (Tryz.keyInt 7 (by decide)) ?_;intro u2 hm2 hg2)
    | (refine wpList_insert_Is _ rfl _ (.const (.int .i64 8)) _ 245 rfl 3 244 (Maps.int_keyed Tryz.underlying3) Tryz.underlying245 _ 3 _ rfl hm2 (by unfold maxLen;omega) _ _ _ rfl rfl (Tryz.keyInt 8 (by decide)) ?_;intro u3 hm3 hg3)
    | (refine wpList_insert_Is _ rfl _ (.const (.int .i64 9)) _ 245 rfl 3 244 (Maps.int_keyed Tryz.underlying3) Tryz.underlying245 _ 4 _ rfl hm3 (by unfold maxLen;omega) _ _ _ rfl rfl (Tryz.keyInt 9 (by decide)) ?_;intro w4 hm4 hg4)
    | (at_lookup;refine wpList_lookup1_Is _ rfl _ _ 245 rfl 3 244 (Maps.int_keyed Tryz.underlying3) Tryz.underlying245 (Tryz.zeroFun _) _ 5 numMap rfl hm4 _ _ rfl (Tryz.keyInt 9 (by decide)) ?_;rw [show ((numMap (.int .i64 9):Option Value).getD .nilFunc) = (.func (.func 244) #[] #[]) from rfl]))
   have s0:w1.heap.size ≤ u0.heap.size:=by have:=hg0.size;simp at this;omega
   have s1:=Nat.le_trans s0 hg1.size
   have s2:=Nat.le_trans s1 hg2.size
   have s3:=Nat.le_trans s2 hg3.size
   have hb4:Below w1.heap.size w1 w4:=(((((Below.alloc (Below.refl _ w1) (Nat.le_refl _) _).grown hg0 (by simp) (fun j e => by cases e;exact Nat.le_refl _)).grown hg1 s0 (fun j e => by cases e;exact Nat.le_refl _)).grown hg2 s1 (fun j e => by cases e;exact Nat.le_refl _)).grown hg3 s2 (fun j e => by cases e;exact Nat.le_refl _)).grown hg4 s3 (fun j e => by cases e;exact Nat.le_refl _)
   clear s0 s1 s2 s3 hm0 hm1 hm2 hm3 hm4 hg0 hg1 hg2 hg3 hg4
   have hbl1:b < w1.heap.size:=by omega
   obtain ⟨hc4,hf4⟩:=bcell hb4;(try simp only [bqh,bqc,bqf] at hc4 hf4);have hz4:=hb4.size;(try simp at hz4);(try have hy4:=nl1 hz4);(try have hx4:=nl2 hy4);refine szz w4 w ?_;intros;refine szz w4 w1 ?_;intros
   go_quiet (fail)
   go_wp2_with (first
    | (refine (hN _).mono ?_;rintro e w2 ⟨rfl,nq,rfl⟩))
   exact bodyPost_ret (v:=.agg #[.int .i64 1,.int .i64 r,.string ⟨#[]⟩]) (by first | (simp [results,Tryz.results225,go_sem];done) | (simp [results,Tryz.results225,go_sem, *];done)) rfl ⟨rfl,bel⟩
  ·rw [if_neg he]
   have he':(e != 0) = true:=by simpa using he
   clear he
   go_enter Tryz.func225,Tryz.ntmps225
   go_wp2_with (first
    | (go_at_call 239;refine (hk _ (HH.out.now bel) (fun _ h => h)).mono ?_;rintro e w1 ⟨rfl,hb1⟩;obtain ⟨hc1,hf1⟩:=bcell hb1;(try simp only [bqh,bqc,bqf] at hc1 hf1);have hz1:=hb1.size;(try simp at hz1);(try have hy1:=nl1 hz1);(try have hx1:=nl2 hy1);refine szz w1 w ?_;intros)
    | (refine wpList_insert_Is _ rfl _ (.const (.int .i64 5)) _ 245 rfl 3 244 (Maps.int_keyed Tryz.underlying3) Tryz.underlying245 _ 0 _ rfl (MapIs.made _ _ _) (by unfold maxLen;omega) _ _ _ rfl rfl (Tryz.keyInt 5 (by decide)) ?_;intro u0 hm0 hg0)
    | (refine wpList_insert_Is _ rfl _ (.const (.int .i64 6)) _ 245 rfl 3 244 (Maps.int_keyed Tryz.underlying3) Tryz.underlying245 _ 1 _ rfl hm0 (by unfold maxLen;omega) _ _ _ rfl rfl (Tryz.keyInt 6 (by decide)) ?_;intro u1 hm1 hg1)
    | (refine wpList_insert_Is _ rfl _ (.const (.int .i64 7)) _ 245 rfl 3 244 (Maps.int_keyed Tryz.underlying3) Tryz.underlying245 _ 2 _ rfl hm1 (by unfold maxLen;omega) _ _ _ rfl rfl (Tryz.keyInt 7 (by decide)) ?_;intro u2 hm2 hg2)
    | (refine wpList_insert_Is _ rfl _ (.const (.int .i64 8)) _ 245 rfl 3 244 (Maps.int_keyed Tryz.underlying3) Tryz.underlying245 _ 3 _ rfl hm2 (by unfold maxLen;omega) _ _ _ rfl rfl (Tryz.keyInt 8 (by decide)) ?_;intro u3 hm3 hg3)
    | (refine wpList_insert_Is _ rfl _ (.const (.int .i64 9)) _ 245 rfl 3 244 (Maps.int_keyed Tryz.underlying3) Tryz.underlying245 _ 4 _ rfl hm3 (by unfold maxLen;omega) _ _ _ rfl rfl (Tryz.keyInt 9 (by decide)) ?_;intro w4 hm4 hg4)
    | (at_lookup;refine wpList_lookup1_Is _ rfl _ _ 245 rfl 3 244 (Maps.int_keyed Tryz.underlying3) Tryz.underlying245 (Tryz.zeroFun _) _ 5 numMap rfl hm4 _ _ rfl (Tryz.keyInt 9 (by decide)) ?_;rw [show ((numMap (.int .i64 9):Option Value).getD .nilFunc) = (.func (.func 244) #[] #[]) from rfl]))
   have s0:w1.heap.size ≤ u0.heap.size:=by have:=hg0.size;simp at this;omega
   have s1:=Nat.le_trans s0 hg1.size
   have s2:=Nat.le_trans s1 hg2.size
   have s3:=Nat.le_trans s2 hg3.size
   have hb4:Below w1.heap.size w1 w4:=(((((Below.alloc (Below.refl _ w1) (Nat.le_refl _) _).grown hg0 (by simp) (fun j e => by cases e;exact Nat.le_refl _)).grown hg1 s0 (fun j e => by cases e;exact Nat.le_refl _)).grown hg2 s1 (fun j e => by cases e;exact Nat.le_refl _)).grown hg3 s2 (fun j e => by cases e;exact Nat.le_refl _)).grown hg4 s3 (fun j e => by cases e;exact Nat.le_refl _)
   clear s0 s1 s2 s3 hm0 hm1 hm2 hm3 hm4 hg0 hg1 hg2 hg3 hg4
   have hbl1:b < w1.heap.size:=by omega
   obtain ⟨hc4,hf4⟩:=bcell hb4;(try simp only [bqh,bqc,bqf] at hc4 hf4);have hz4:=hb4.size;(try simp at hz4);(try have hy4:=nl1 hz4);(try have hx4:=nl2 hy4);refine szz w4 w ?_;intros;refine szz w4 w1 ?_;intros
   go_quiet (fail)
   go_wp2_with (first
    | (refine (hN _).mono ?_;rintro e w2 ⟨rfl,nq,rfl⟩)
    | (go_at_call 221;refine (eval_fault _ _).mono ?_;rintro e w3 ⟨rfl,hb3⟩;obtain ⟨hc3,hf3⟩:=bcell hb3;(try simp only [bqh,bqc,bqf] at hc3 hf3);have hz3:=hb3.size;(try simp at hz3);(try have hy3:=nl1 hz3);(try have hx3:=nl2 hy3);refine szz w3 w ?_;intros;refine szz w3 w1 ?_;intros;refine szz w3 w4 ?_;intros;dsimp only))
   exact bodyPost_ret (v:=.agg #[.int .i64 5,.int .i64 e,.string ⟨#[]⟩]) (by first | (simp [results,Tryz.results225,go_sem];done) | (simp [results,Tryz.results225,go_sem, *];done)) rfl ⟨rfl,bel⟩
 ·have hp':(a.k == 1 && a'.k == 1) = false:=by
   cases hq:(a.k == 1 && a'.k == 1)
   ·rfl
   ·exact absurd (by simpa using hq) hp
  rw [if_neg hp]
  simp only [hp'] at hk
  clear hp hp'
  go_enter Tryz.func225,Tryz.ntmps225
  go_wp2_with (first
   | (go_at_call 239;refine (hk _ (HH.out.now bel) (fun _ h => h)).mono ?_;rintro e w1 ⟨rfl,hb1⟩;obtain ⟨hc1,hf1⟩:=bcell hb1;(try simp only [bqh,bqc,bqf] at hc1 hf1);have hz1:=hb1.size;(try simp at hz1);(try have hy1:=nl1 hz1);(try have hx1:=nl2 hy1);refine szz w1 w ?_;intros)
   | (go_at_call 221;refine (eval_fault _ _).mono ?_;rintro e w2 ⟨rfl,hb2⟩;obtain ⟨hc2,hf2⟩:=bcell hb2;(try simp only [bqh,bqc,bqf] at hc2 hf2);have hz2:=hb2.size;(try simp at hz2);(try have hy2:=nl1 hz2);(try have hx2:=nl2 hy2);refine szz w2 w ?_;intros;refine szz w2 w1 ?_;intros;dsimp only))
  exact bodyPost_ret (v:=.agg #[.int .i64 5,.int .i64 9,.string ⟨#[]⟩]) (by first | (simp [results,Tryz.results225,go_sem];done) | (simp [results,Tryz.results225,go_sem, *];done)) rfl ⟨rfl,bel⟩
set_option maxRecDepth 100000 in
set_option maxHeartbeats 4000000 in
theorem apply_neg (A:Option Addr) (c:Nat) (a:Val) (w:World) (h:Sl w (old w) 3 RVal A 1 [a]) (hv:a.k = 1 → numCheck a.n = 0) :
  Calls Tryz.prog 225 #[.int .i64 3,.slice A 1 c] w (RetV w (if a.k = 1 then ⟨1,-a.n,⟨#[]⟩⟩ else faultV 9)):=by
 have hk:=fun w h hS => eval_kinds A 1 c [a] (old w) 1 w (by unfold inL;decide) h hS
 have HH:=Lib.hid h
 obtain ⟨b,o,rfl,hbl,x0,x1,x2⟩:=one_at h
 clear h
 simp only [List.all_cons,List.all_nil,Bool.and_true] at hk
 have hmm:=@run_makeMap Tryz.prog
 have hcf:=cf_numSub
 by_cases hp:a.k = 1
 ·have hp':(a.k == 1) = true:=by simpa using hp
  have hc0:=hv hp
  rw [if_pos hp]
  simp only [hp'] at hk
  clear hp hp' hv
  have hN:=fun w => num_Sub 0 a.n w
  have hr:numSub 0 a.n = (-a.n,0):=by
   have:=numCheck_lo hc0
   unfold numSub numGuard
   rw [if_pos ⟨by decide,hc0⟩,Int.zero_sub]
   unfold numRes
   rw [if_pos (numCheck_of (by omega) (by omega))]
  rw [hr] at hN
  clear hr hc0
  dsimp only at hN
  obtain ⟨r,hr⟩:∃ r,-a.n = r:=⟨_,rfl⟩
  rw [hr] at hN ⊢
  clear hr
  ·go_enter Tryz.func225,Tryz.ntmps225
   go_wp2_with (first
    | (go_at_call 239;refine (hk _ (HH.out.now bel) (fun _ h => h)).mono ?_;rintro e w1 ⟨rfl,hb1⟩;obtain ⟨hc1,hf1⟩:=bcell hb1;(try simp only [bqh,bqc,bqf] at hc1 hf1);have hz1:=hb1.size;(try simp at hz1);(try have hy1:=nl1 hz1);(try have hx1:=nl2 hy1);refine szz w1 w ?_;intros)
    | (refine wpList_insert_Is _ rfl _ (.const (.int .i64 5)) _ 245 rfl 3 244 (Maps.int_keyed Tryz.underlying3) Tryz.underlying245 _ 0 _ rfl (MapIs.made _ _ _) (by unfold maxLen;omega) _ _ _ rfl rfl (Tryz.keyInt 5 (by decide)) ?_;intro u0 hm0 hg0)
    | (refine wpList_insert_Is _ rfl _ (.const (.int .i64 6)) _ 245 rfl 3 244 (Maps.int_keyed Tryz.underlying3) Tryz.underlying245 _ 1 _ rfl hm0 (by unfold maxLen;omega) _ _ _ rfl rfl (Tryz.keyInt 6 (by decide)) ?_;intro u1 hm1 hg1)
    | (refine wpList_insert_Is _ rfl _ (.const (.int .i64 7)) _ 245 rfl 3 244 (Maps.int_keyed Tryz.underlying3) Tryz.underlying245 _ 2 _ rfl hm1 (by unfold maxLen;omega) _ _ _ rfl rfl (Tryz.keyInt 7 (by decide)) ?_;intro u2 hm2 hg2)
    | (refine wpList_insert_Is _ rfl _ (.const (.int .i64 8)) _ 245 rfl 3 244 (Maps.int_keyed Tryz.underlying3) Tryz.underlying245 _ 3 _ rfl hm2 (by unfold maxLen;omega) _ _ _ rfl rfl (Tryz.keyInt 8 (by decide)) ?_;intro u3 hm3 hg3)
    | (refine wpList_insert_Is _ rfl _ (.const (.int .i64 9)) _ 245 rfl 3 244 (Maps.int_keyed Tryz.underlying3) Tryz.underlying245 _ 4 _ rfl hm3 (by unfold maxLen;omega) _ _ _ rfl rfl (Tryz.keyInt 9 (by decide)) ?_;intro w4 hm4 hg4)
    | (at_lookup;refine wpList_lookup1_Is _ rfl _ _ 245 rfl 3 244 (Maps.int_keyed Tryz.underlying3) Tryz.underlying245 (Tryz.zeroFun _) _ 5 numMap rfl hm4 _ _ rfl (Tryz.keyInt 3 (by decide)) ?_;rw [show ((numMap (.int .i64 3):Option Value).getD .nilFunc) = .nilFunc from rfl]))
   have s0:w1.heap.size ≤ u0.heap.size:=by have:=hg0.size;simp at this;omega
   have s1:=Nat.le_trans s0 hg1.size
   have s2:=Nat.le_trans s1 hg2.size
   have s3:=Nat.le_trans s2 hg3.size
   have hb4:Below w1.heap.size w1 w4:=(((((Below.alloc (Below.refl _ w1) (Nat.le_refl _) _).grown hg0 (by simp) (fun j e => by cases e;exact Nat.le_refl _)).grown hg1 s0 (fun j e => by cases e;exact Nat.le_refl _)).grown hg2 s1 (fun j e => by cases e;exact Nat.le_refl _)).grown hg3 s2 (fun j e => by cases e;exact Nat.le_refl _)).grown hg4 s3 (fun j e => by cases e;exact Nat.le_refl _)
   clear s0 s1 s2 s3 hm0 hm1 hm2 hm3 hm4 hg0 hg1 hg2 hg3 hg4
   have hbl1:b < w1.heap.size:=by omega
   obtain ⟨hc4,hf4⟩:=bcell hb4;(try simp only [bqh,bqc,bqf] at hc4 hf4);have hz4:=hb4.size;(try simp at hz4);(try have hy4:=nl1 hz4);(try have hx4:=nl2 hy4);refine szz w4 w ?_;intros;refine szz w4 w1 ?_;intros
   go_quiet (fail)
   go_wp2_with (first
    | (refine (hN _).mono ?_;rintro e w2 ⟨rfl,nq,rfl⟩))
   exact bodyPost_ret (v:=.agg #[.int .i64 1,.int .i64 r,.string ⟨#[]⟩]) (by first | (simp [results,Tryz.results225,go_sem];done) | (simp [results,Tryz.results225,go_sem, *];done)) rfl ⟨rfl,bel⟩
 ·have hp':(a.k == 1) = false:=by simpa using hp
  rw [if_neg hp]
  simp only [hp'] at hk
  clear hp hp'
  go_enter Tryz.func225,Tryz.ntmps225
  go_wp2_with (first
   | (go_at_call 239;refine (hk _ (HH.out.now bel) (fun _ h => h)).mono ?_;rintro e w1 ⟨rfl,hb1⟩;obtain ⟨hc1,hf1⟩:=bcell hb1;(try simp only [bqh,bqc,bqf] at hc1 hf1);have hz1:=hb1.size;(try simp at hz1);(try have hy1:=nl1 hz1);(try have hx1:=nl2 hy1);refine szz w1 w ?_;intros)
   | (go_at_call 221;refine (eval_fault _ _).mono ?_;rintro e w2 ⟨rfl,hb2⟩;obtain ⟨hc2,hf2⟩:=bcell hb2;(try simp only [bqh,bqc,bqf] at hc2 hf2);have hz2:=hb2.size;(try simp at hz2);(try have hy2:=nl1 hz2);(try have hx2:=nl2 hy2);refine szz w2 w ?_;intros;refine szz w2 w1 ?_;intros;dsimp only))
  exact bodyPost_ret (v:=.agg #[.int .i64 5,.int .i64 9,.string ⟨#[]⟩]) (by first | (simp [results,Tryz.results225,go_sem];done) | (simp [results,Tryz.results225,go_sem, *];done)) rfl ⟨rfl,bel⟩
theorem eval_apply (A:Option Addr) (n c:Nat) (vs:List Val) (op:Int) (w:World) (h:Sl w (old w) 3 RVal A n vs) (ho:3 ≤ op ∧ op ≤ 18 ∧ ¬ isChoice op) (hl:(vs.length:Int) = argsN op) (hv:∀ v ∈ vs,valCheck v = 0) :
  Calls Tryz.prog 225 #[.int .i64 op,.slice A n c] w (RetV w (appV op vs)):=by
 have hn:=h.len
 subst hn
 unfold isChoice at ho
 obtain ⟨h3,h18,hnc⟩:=ho
 rcases (by omega:op = 3 ∨ op = 4 ∨ op = 5 ∨ op = 6 ∨ op = 7 ∨ op = 8 ∨ op = 9 ∨ op = 10 ∨ (op = 11 ∨ op = 12 ∨ op = 13 ∨ op = 14) ∨ op = 18) with e | e | e | e | e | e | e | e | e | e
 ·subst e
  match vs,hl with
  | [a],_ => exact apply_neg A c a w h fun hk => (val_int (hv a (by simp)) hk).1
 ·subst e
  match vs,hl with
  | [a],_ => exact apply_not A c a w h
 ·subst e
  match vs,hl with
  | [a,a'],_ => exact apply_mul A c a a' w h
 ·subst e
  match vs,hl with
  | [a,a'],_ => exact apply_div A c a a' w h
 ·subst e
  match vs,hl with
  | [a,a'],_ => exact apply_mod A c a a' w h
 ·subst e
  match vs,hl with
  | [a,a'],_ => exact apply_add A c a a' w h
 ·subst e
  match vs,hl with
  | [a,a'],_ => exact apply_sub A c a a' w h
 ·subst e
  match vs,hl with
  | [a,a'],_ => exact apply_join A c a a' w h (val_size (hv a (by simp))) (val_size (hv a' (by simp)))
 ·have hl2:vs.length = 2:=by
   have:argsN op = 2:=by rcases e with rfl | rfl | rfl | rfl <;> rfl
   omega
  match vs,hl2 with
  | [a,a'],_ =>
   have ha:=val_size (hv a (by simp))
   have ha':=val_size (hv a' (by simp))
   have he:appV op [a,a'] = cmpV op (valOrder a a'):=by unfold appV;rw [if_pos (by omega)];rfl
   rw [he]
   exact apply_cmp A c a a' op w h e (by unfold maxLen;omega) (by unfold maxLen;omega)
 ·subst e
  match vs,hl with
  | [a],_ => exact apply_len A c a w h
end Go.Proofs.YtbhkpepinogigaaGreat
