/- The references partFault and ExprFault. -/
import Derived.Test.YtldbpmlgbbomcaaGreatDoorPrt3
import Derived.Deep.DeepCutAuto
namespace Go.Proofs.YtldbpmlgbbomcaaGreatDoor
open Go.RowKit

set_option maxRecDepth 100000 in
set_option maxHeartbeats 4000000 in
theorem ref_partFault (N:Nat):∀ (x:Exp) (A:Option Addr) (c:Nat) (w:World),x.nodes ≤ N →
  XRep w (old w) [.int .i64 x.op,.int .i64 x.v.k,.int .i64 x.v.n,.string x.v.s,.string x.name,.slice A x.args.length c] x →
  Calls Tryz.prog 52 #[.agg #[.int .i64 x.op,.int .i64 x.v.k,.int .i64 x.v.n,.string x.v.s,.string x.name,.slice A x.args.length c]] w (RetI w (prtN x)):=by
 induction N with
 | zero =>
  intro x A c w hN
  obtain ⟨op,v,nm,args⟩:=x
  simp [Exp.nodes] at hN
 | succ N ih =>
  intro x A c w hN hx
  have HI:=Lib.hid ih
  clear ih
  obtain ⟨i1,i2,i3,i4,i5,hsl,hch⟩:=hx.kids
  have HH:=Lib.hid (And.intro hsl (fun i a h => by have:=hch i a h;omega:∀ (i:Nat) (a:Exp),x.args[i]? = some a → a.nodes ≤ N))
  have hlen:x.args.length ≤ 1759218604416:=by unfold inB at i4;omega
  have hvs:=inS_max i2.2.2
  have hnm:=inS_max i3
  have hpn:=prtN_eq x
  clear hsl hch hx hN i1 i2 i3 i4 i5
  by_cases ho:x.op < 1 ∨ 18 < x.op
  ·rw [partErr_out ho,if_neg (by decide)] at hpn
   rw [hpn]
   clear hpn
   rcases ho with ho | ho
   ·go_enter Tryz.func52,Tryz.ntmps52
    go_wp2_with fail
    go_ret
    exact ⟨rfl,bel⟩
   ·have ho':¬ x.op < 1:=by omega
    go_enter Tryz.func52,Tryz.ntmps52
    go_wp2_with fail
    go_ret
    exact ⟨rfl,bel⟩
  ·have ho1:¬ x.op < 1:=by omega
   have ho2:¬ 18 < x.op:=by omega
   rw [partErr_in ho] at hpn
   have HPN:=Lib.hid hpn
   clear ho hpn
   generalize prtN x = R at HPN ⊢
   go_enter Tryz.func52,Tryz.ntmps52
   go_wp2_with fail
   refine wp_world ?_;intro W0 hW0
   have hS0:W0.cell? ⟨w.heap.size,5,none⟩ = some (.slice A x.args.length c) ∧ W0.cell? ⟨w.heap.size,0,none⟩ = some (.int .i64 x.op) ∧ Below W0.heap.size W0 W0 ∧ W0.heap.size ≤ W0.heap.size:=⟨by rw [hW0];go_simp,by rw [hW0];go_simp,Below.refl _ _,Nat.le_refl _⟩
   have HW0:=Lib.hid hW0;clear hW0
   refine wp_quietC (C:=fun w' => w'.cell? ⟨w.heap.size,5,none⟩ = some (.slice A x.args.length c) ∧ w'.cell? ⟨w.heap.size,0,none⟩ = some (.int .i64 x.op) ∧ Below W0.heap.size W0 w' ∧ W0.heap.size ≤ w'.heap.size) (by kernel_rfl) (by kernel_rfl) (held2d hS0) ?_
   clear hS0
   repeat (first
    | go_big_quiet_skip
    | (go_big_quiet_want;go_big_quiet_op;go_big_quiet_on)
    |
     go_big_quiet_want
     apply Exists.intro
     refine ⟨fun w' hw' => ?_,?_⟩
     ·unfold Oper.quietAt
      have hqs:=hw'
      obtain ⟨hq0,hq1,hqb,hql⟩:=hw'
      try go_simp
      first
       | with_reducible rfl
       | exact ⟨rfl,rfl⟩
       | (go_at_call 93;refine Calls.mono (ref_argsOf _ _) ?_;rintro e w' ⟨rfl,hb⟩;exact ⟨rfl,held2 hqs hb⟩)
     go_big_quiet_on
     try go_simp)
   refine wpQuiet_nil ?_;intro wq9;(try simp only [and_imp]);intro hq0 hq1 hb9 hql;clear hq0 hq1 hql
   have hW0:=HW0.out;clear HW0;subst hW0
   obtain ⟨hc9,hf9⟩:=bcell hb9;(try simp only [bqh,bqc,bqf] at hc9 hf9);have hz9:=hb9.size;(try simp at hz9);(try have hy9:=nl1 hz9);(try have hx9:=nl2 hy9)
   go_upto_if 24 with fail
   go_cut [3] (fun s3 wx => s3 = .bool (partOk x.op x.v x.name x.args.length) ∧ Below (w.alloc (.cells #[.int .i64 x.op,.int .i64 x.v.k,.int .i64 x.v.n,.string x.v.s,.string x.name,.slice A x.args.length c] 26)).heap.size (w.alloc (.cells #[.int .i64 x.op,.int .i64 x.v.k,.int .i64 x.v.n,.string x.v.s,.string x.name,.slice A x.args.length c] 26)) wx)
   case first =>
    have hzv:∀ {b:Bool},valEq x.v ⟨0,0,⟨#[]⟩⟩ = b → valEq ⟨x.v.k,x.v.n,x.v.s⟩ ⟨0,0,⟨#[]⟩⟩ = b:=fun h => h
    by_cases hl:(x.args.length:Int) = argsN x.op
    ·have hl1:((x.args.length:Int) == argsN x.op) = true:=by simpa using hl
     by_cases e1:x.op = 1
     ·have e1':(x.op == 1) = true:=by simpa using e1
      rw [e1] at hl
      have e0:∀ {b:Bool},partOk 1 x.v x.name x.args.length = b → partOk x.op x.v x.name x.args.length = b:=fun h => by rw [e1];exact h
      clear e1
      rcases part_const (v:=x.v) (name:=x.name) hl with ⟨z,e⟩ | ⟨z,z2,e⟩ | ⟨z,z2,z3,z4,e⟩ | ⟨z,z2,z3,z4,e⟩ | ⟨z,z2,z3,e⟩
      all_goals
       have E:=Lib.hid (e0 e)
       try (have z':x.name.toList.isEmpty = false:=by simpa using z)
       try (have z':x.name.toList.isEmpty = true:=by simpa using z)
       try (have z3':(x.v.k != 1) = false:=by simpa using z3)
       try (have z3':(x.v.k != 1) = true:=by simpa using z3)
       try (have z4':¬ 0 ≤ x.v.n:=by omega)
       try (have hkn:=fun w => ref_Known x.v.k x.v.n x.v.s w hvs;rw [show (⟨x.v.k,x.v.n,x.v.s⟩:Val) = x.v from rfl] at hkn;simp only [z2] at hkn)
       try clear z3
       clear e hl e0
       generalize argsN x.op = q at hl1 ⊢
       first
        | (go_wp2_with (go_at_call 95;refine (hkn _).mono ?_;rintro e w2 ⟨rfl,hb2⟩;obtain ⟨hc2,hf2⟩:=bcell hb2;(try simp only [bqh,bqc,bqf] at hc2 hf2);have hz2:=hb2.size;(try simp at hz2);(try have hy2:=nl1 hz2);(try have hx2:=nl2 hy2);refine szz w2 w ?_;intros;refine szz w2 wq9 ?_;intros;);go_meet;exact ⟨by first | (rw [E.out];done) | (rw [E.out];simp;omega) | (rw [E.out];simp;done),bel⟩)
        | (go_wp2_with fail;go_meet;exact ⟨by first | (rw [E.out];done) | (rw [E.out];simp;omega) | (rw [E.out];simp;done),bel⟩)
     ·have e1':(x.op == 1) = false:=by simpa using e1
      have hne:=fun w => run_eql_Val w x.v.k x.v.n 0 0 x.v.s ⟨#[]⟩
      cases hv:valEq x.v ⟨0,0,⟨#[]⟩⟩
      ·have E:partOk x.op x.v x.name x.args.length = false:=by unfold partOk;rw [if_neg e1,hv];simp
       simp only [hzv hv] at hne
       have EE:=Lib.hid E
       clear hl hv E e1
       generalize argsN x.op = q at hl1 ⊢
       go_wp2_with fail
       go_meet
       exact ⟨by rw [EE.out],bel⟩
      ·simp only [hzv hv] at hne
       by_cases e2:x.op = 2
       ·have e2':(x.op == 2) = true:=by simpa using e2
        have hlx:=fun w => ref_LexName x.name w hnm
        by_cases hc:nameCheck x.name = 0
        ·have E:partOk x.op x.v x.name x.args.length = true:=by unfold partOk;rw [if_neg e1,hv,if_pos e2,decide_eq_true hl,decide_eq_true hc];rfl
         have EE:=Lib.hid E
         simp only [hc] at hlx
         clear hl hv E e1 e2 hc
         generalize argsN x.op = q at hl1 ⊢
         go_wp2_with (go_at_call 74;refine (hlx _).mono ?_;rintro e w2 ⟨rfl,hb2⟩;obtain ⟨hc2,hf2⟩:=bcell hb2;(try simp only [bqh,bqc,bqf] at hc2 hf2);have hz2:=hb2.size;(try simp at hz2);(try have hy2:=nl1 hz2);(try have hx2:=nl2 hy2))
         go_meet
         exact ⟨by rw [EE.out],bel⟩
        ·have E:partOk x.op x.v x.name x.args.length = false:=by unfold partOk;rw [if_neg e1,hv,if_pos e2,decide_eq_true hl,decide_eq_false hc];rfl
         have EE:=Lib.hid E
         have hc':(nameCheck x.name == 0) = false:=by simpa using hc
         have e2'':(x.op != 2) = false:=by simpa using e2
         clear hl hv E e1 e2 hc
         generalize argsN x.op = q at hl1 ⊢
         generalize nameCheck x.name = nc at hlx hc'
         go_wp2_with (go_at_call 74;refine (hlx _).mono ?_;rintro e w2 ⟨rfl,hb2⟩;obtain ⟨hc2,hf2⟩:=bcell hb2;(try simp only [bqh,bqc,bqf] at hc2 hf2);have hz2:=hb2.size;(try simp at hz2);(try have hy2:=nl1 hz2);(try have hx2:=nl2 hy2))
         go_meet
         exact ⟨by rw [EE.out],bel⟩
       ·have e2':(x.op == 2) = false:=by simpa using e2
        have e2'':(x.op != 2) = true:=by simpa using e2
        cases hm:x.name.toList.isEmpty
        all_goals
         have E:=Lib.hid (by unfold partOk;rw [if_neg e1,hv,if_neg e2,decide_eq_true hl,hm]:partOk x.op x.v x.name x.args.length = _)
         clear hl hv e1 e2
         generalize argsN x.op = q at hl1 ⊢
         go_wp2_with fail
         go_meet
         exact ⟨by rw [E.out];rfl,bel⟩
    ·have hl1:((x.args.length:Int) == argsN x.op) = false:=by simpa using hl
     have E:partOk x.op x.v x.name x.args.length = false:=by unfold partOk;rw [decide_eq_false hl];rfl
     have EE:=Lib.hid E
     clear hl E
     generalize argsN x.op = q at hl1 ⊢
     cases e1':(x.op == 1)
     all_goals
      go_wp2_with fail
      go_meet
      exact ⟨by rw [EE.out],bel⟩
   case rest =>
    obtain ⟨rfl,hbc⟩:=hcut
    have hW1:Below w.heap.size w wc:=alloc_below (by simpa using hbc)
    have hbx:wc.cell? ⟨w.heap.size,5,none⟩ = some (.slice A x.args.length c):=(hbc.cell (p:=⟨w.heap.size,5,none⟩) (by simp)).trans (by go_simp)
    clear hc9 hf9
    cases hok:partOk x.op x.v x.name x.args.length
    ·have hr:=HPN.out
     simp only [hok,Bool.false_eq_true,if_false] at hr
     rw [if_neg (by decide)] at hr
     subst hr
     clear HPN
     go_wp2_with fail
     go_ret
     exact ⟨rfl,bel⟩
    ·have hr:=HPN.out
     simp only [hok,if_true] at hr
     have HR:=Lib.hid hr.symm
     clear HPN hr
     go_wp2_with fail
     go_loopw [81] (fun i wr => ∃ k:Nat,k ≤ x.args.length ∧ i = .int .i64 k ∧ prtL (x.args.take k) = 0 ∧ Below wc.heap.size wc wr) (fun i _ => x.args.length - (intOf i).toNat)
     case atStart => exact ⟨0,by omega,rfl,by simp [prtL],Below.refl _ _⟩
     case round =>
      obtain ⟨k,hk,rfl,hz,hbr⟩:=hrel
      have hbw:Below w.heap.size w wr:=below_step hW1 hbr hW1.size
      by_cases hlt:k < x.args.length
      ·obtain ⟨b,o,a,X,C,hAe,hbl,hl,hxa,x0,x1,x2,x3,x4,x5⟩:=Exp_at (HH.out.1.nowN keeps_Exp hbw) hlt
       subst hAe
       have hbl':b < wr.heap.size:=hbl
       have HX:=Lib.hid (And.intro hxa (And.intro (HH.out.2 k a hl) (And.intro hl hz)))
       clear hxa hl hz hbl
       have hia:=fun w (h:XRep w (old w) [.int .i64 a.op,.int .i64 a.v.k,.int .i64 a.v.n,.string a.v.s,.string a.name,.slice X a.args.length C] a) => HI.out a X C w HX.out.2.1 h
       by_cases hp:prtN a = 0
       ·have hp':prtL (x.args.take (k + 1)) = 0:=prtL_next HX.out.2.2.2 HX.out.2.2.1 hp
        have HP:=Lib.hid hp'
        simp only [hp] at hia
        clear hp hp'
        go_wp2_with (go_at_call 52;refine (hia _ (HX.out.1.keep (old_keep bel))).mono ?_;rintro e w2 ⟨rfl,hb2⟩)
        go_roundw
        case rel => exact ⟨k + 1,by omega,by go_num,HP.out,bel⟩
        case measure => simp [intOf];omega
       ·have hr:prtL x.args = prtN a:=prtL_hit HX.out.2.2.2 HX.out.2.2.1 hp
        rw [HR.out] at hr
        have hp':(prtN a != 0) = true:=by simpa using hp
        rw [← hr] at hp'
        simp only [← hr] at hia
        clear hp hr
        go_wp2_with (go_at_call 52;refine (hia _ (HX.out.1.keep (old_keep bel))).mono ?_;rintro e w2 ⟨rfl,hb2⟩)
        go_ret
        exact ⟨rfl,bel⟩
      ·have hkn:k = x.args.length:=by omega
       subst hkn
       have etk:x.args.take x.args.length = x.args:=List.take_of_length_le (Nat.le_refl _)
       rw [etk,HR.out] at hz
       subst hz
       go_wp2_with fail
       go_ret
       exact ⟨rfl,hbw⟩
set_option maxRecDepth 100000 in
set_option maxHeartbeats 1000000 in
theorem ref_ExprFault (x:Exp) (A:Option Addr) (c:Nat) (w:World) (hx:XRep w (old w) [.int .i64 x.op,.int .i64 x.v.k,.int .i64 x.v.n,.string x.v.s,.string x.name,.slice A x.args.length c] x) :
  Calls Tryz.prog 22 #[.agg #[.int .i64 x.op,.int .i64 x.v.k,.int .i64 x.v.n,.string x.v.s,.string x.name,.slice A x.args.length c]] w (RetI w (exprErr x)):=by
 have HX:=Lib.hid hx
 have hpt:=fun w h => ref_partFault _ x A c w (Nat.le_refl _) h
 have hsz:=fun w h => ref_ExprSize _ x A c w (Nat.le_refl _) h
 have he:exprErr x = if 60 < szN x then 1 else if 12 < dpN x then 4 else prtN x:=rfl
 clear hx
 generalize exprErr x = R at he ⊢
 generalize szN x = s at hsz he
 generalize dpN x = d at hsz he
 generalize prtN x = p at hpt he
 by_cases h1:60 < s
 ·rw [if_pos h1] at he
  subst he
  go_enter Tryz.func22,Tryz.ntmps22
  go_wp2_with (go_at_call 51;refine (hsz _ (HX.out.keep (old_keep bel))).mono ?_;rintro e w1 ⟨rfl,hb1⟩;obtain ⟨hc1,hf1⟩:=bcell hb1;(try simp only [bqh,bqc,bqf] at hc1 hf1);have hz1:=hb1.size;(try simp at hz1);(try have hy1:=nl1 hz1);(try have hx1:=nl2 hy1);refine szz w1 w ?_;intros)
  go_ret
  exact ⟨rfl,bel⟩
 ·rw [if_neg h1] at he
  by_cases h2:12 < d
  ·rw [if_pos h2] at he
   subst he
   go_enter Tryz.func22,Tryz.ntmps22
   go_wp2_with (go_at_call 51;refine (hsz _ (HX.out.keep (old_keep bel))).mono ?_;rintro e w1 ⟨rfl,hb1⟩;obtain ⟨hc1,hf1⟩:=bcell hb1;(try simp only [bqh,bqc,bqf] at hc1 hf1);have hz1:=hb1.size;(try simp at hz1);(try have hy1:=nl1 hz1);(try have hx1:=nl2 hy1);refine szz w1 w ?_;intros)
   go_ret
   exact ⟨rfl,bel⟩
  ·rw [if_neg h2] at he
   subst he
   go_enter Tryz.func22,Tryz.ntmps22
   go_wp2_with (first | (go_at_call 51;refine (hsz _ (HX.out.keep (old_keep bel))).mono ?_;rintro e w1 ⟨rfl,hb1⟩;obtain ⟨hc1,hf1⟩:=bcell hb1;(try simp only [bqh,bqc,bqf] at hc1 hf1);have hz1:=hb1.size;(try simp at hz1);(try have hy1:=nl1 hz1);(try have hx1:=nl2 hy1);refine szz w1 w ?_;intros;) | (go_at_call 52;refine (hpt _ (HX.out.keep (old_keep bel))).mono ?_;rintro e w2 ⟨rfl,hb2⟩))
   go_ret
   exact ⟨rfl,bel⟩
end Go.Proofs.YtldbpmlgbbomcaaGreatDoor
