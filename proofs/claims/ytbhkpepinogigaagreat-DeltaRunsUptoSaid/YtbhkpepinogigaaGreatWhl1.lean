/- whole.Check and the reference ToldFault; the reference named. -/
import Derived.Test.YtbhkpepinogigaaGreatAllP
import Derived.Test.YtbhkpepinogigaaGreatOrc
import Derived.Test.YtbhkpepinogigaaGreatOrcR
import Derived.Test.YtbhkpepinogigaaGreatRowF
namespace Go.Proofs.YtbhkpepinogigaaGreat
open Go.RowKit

def RIO (w:World) (A1:Option Addr) (n1 c1:Nat) (ins:List Fct) (A2:Option Addr) (n2 c2:Nat) (orc:List Fct):Prop :=
 inB 80 n1 ∧ n1 ≤ c1 ∧ inB 80 n2 ∧ n2 ≤ c2 ∧ Sl w (old w) 7 RFct A1 n1 ins ∧ Sl w (old w) 7 RFct A2 n2 orc
theorem RIO.now {w w':World} {A1 A2:Option Addr} {n1 c1 n2 c2:Nat} {ins orc:List Fct} (h:RIO w A1 n1 c1 ins A2 n2 c2 orc) (hb:Below w.heap.size w w'):RIO w' A1 n1 c1 ins A2 n2 c2 orc :=
 ⟨h.1,h.2.1,h.2.2.1,h.2.2.2.1,h.2.2.2.2.1.now hb,h.2.2.2.2.2.now hb⟩
section
variable {F:List Fld} {P:List Pag} {ins orc:List Fct}
theorem toldErr_form (h:formErr F P ≠ 0):toldErr F P ins orc = formErr F P:=by unfold toldErr;rw [if_pos h]
theorem toldErr_ins (h:formErr F P = 0) (h1:factsCheck F ins ≠ 0):toldErr F P ins orc = factsCheck F ins:=by unfold toldErr;rw [if_neg (by simpa using h),if_pos h1]
theorem toldErr_orc (h:formErr F P = 0) (h1:factsCheck F ins = 0):toldErr F P ins orc = oracleErr F orc:=by unfold toldErr;rw [if_neg (by simpa using h),if_neg (by simpa using h1)]
end
set_option maxRecDepth 100000 in
set_option maxHeartbeats 4000000 in
theorem whole_Check (B:Option Addr) (m d:Nat) (F:List Fld) (A:Option Addr) (n c:Nat) (P:List Pag) (A1:Option Addr) (n1 c1:Nat) (ins:List Fct) (A2:Option Addr) (n2 c2:Nat) (orc:List Fct) (w:World)
  (hX:RFo w B m d F A n c P) (hO:FldsOk F) (hY:RIO w A1 n1 c1 ins A2 n2 c2 orc) :
  Calls Tryz.prog 32 #[.agg #[.slice B m d,.slice A n c],.slice A1 n1 c1,.slice A2 n2 c2] w (RetI w (toldErr F P ins orc)):=by
 have h1:=fun w h => sheet_Check B m d F A n c P w h hO
 have h2:=fun w (h:RFo w B m d F A n c P) (h':RIO w A1 n1 c1 ins A2 n2 c2 orc) => sheet_Facts B m d F A n c A1 n1 c1 ins w (h.1.l (by decide)) (h'.1.l (by decide)) h'.2.1 h.2.2.2.2.1 h'.2.2.2.2.1
 have h3:=fun w (h:RFo w B m d F A n c P) (h':RIO w A1 n1 c1 ins A2 n2 c2 orc) => whole_Oracle B m d F A n c A2 n2 c2 orc w h.1 (h'.2.2.1.l (by decide)) h'.2.2.2.1 h.2.2.2.2.1 h'.2.2.2.2.2
 have HX:=Lib.hid (And.intro hX hY)
 clear hX hY hO
 by_cases he:formErr F P = 0
 ·rw [he] at h1
  by_cases hf:factsCheck F ins = 0
  ·rw [toldErr_orc he hf]
   rw [hf] at h2
   generalize oracleErr F orc = er at *
   clear he hf
   go_enter Tryz.func32,Tryz.ntmps32
   go_wp2_with (first
    | (go_at_call 66;refine (h1 _ (HX.out.1.now bel)).mono ?_;rintro e w1 ⟨rfl,hb1⟩;obtain ⟨hc1,hf1⟩:=bcell hb1;(try simp only [bqh,bqc,bqf] at hc1 hf1);have hz1:=hb1.size;(try simp at hz1);(try have hy1:=nl1 hz1);(try have hx1:=nl2 hy1);refine szz w1 w ?_;intros)
    | (go_at_call 79;refine (h2 _ (HX.out.1.now bel) (HX.out.2.now bel)).mono ?_;rintro e w2 ⟨rfl,hb2⟩;obtain ⟨hc2,hf2⟩:=bcell hb2;(try simp only [bqh,bqc,bqf] at hc2 hf2);have hz2:=hb2.size;(try simp at hz2);(try have hy2:=nl1 hz2);(try have hx2:=nl2 hy2);refine szz w2 w ?_;intros;refine szz w2 w1 ?_;intros)
    | (go_at_call 80;refine (h3 _ (HX.out.1.now bel) (HX.out.2.now bel)).mono ?_;rintro e w3 ⟨rfl,hb3⟩;obtain ⟨hc3,hf3⟩:=bcell hb3;(try simp only [bqh,bqc,bqf] at hc3 hf3);have hz3:=hb3.size;(try simp at hz3);(try have hy3:=nl1 hz3);(try have hx3:=nl2 hy3);refine szz w3 w ?_;intros;refine szz w3 w1 ?_;intros;refine szz w3 w2 ?_;intros))
   go_ret
   exact ⟨rfl,bel⟩
  ·rw [toldErr_ins he hf]
   have g1:(factsCheck F ins != 0) = true:=by simpa using hf
   generalize factsCheck F ins = er at *
   clear he hf
   go_enter Tryz.func32,Tryz.ntmps32
   go_wp2_with (first
    | (go_at_call 66;refine (h1 _ (HX.out.1.now bel)).mono ?_;rintro e w1 ⟨rfl,hb1⟩;obtain ⟨hc1,hf1⟩:=bcell hb1;(try simp only [bqh,bqc,bqf] at hc1 hf1);have hz1:=hb1.size;(try simp at hz1);(try have hy1:=nl1 hz1);(try have hx1:=nl2 hy1);refine szz w1 w ?_;intros)
    | (go_at_call 79;refine (h2 _ (HX.out.1.now bel) (HX.out.2.now bel)).mono ?_;rintro e w2 ⟨rfl,hb2⟩;obtain ⟨hc2,hf2⟩:=bcell hb2;(try simp only [bqh,bqc,bqf] at hc2 hf2);have hz2:=hb2.size;(try simp at hz2);(try have hy2:=nl1 hz2);(try have hx2:=nl2 hy2);refine szz w2 w ?_;intros;refine szz w2 w1 ?_;intros))
   go_ret
   exact ⟨rfl,bel⟩
 ·rw [toldErr_form he]
  have g1:(formErr F P != 0) = true:=by simpa using he
  generalize formErr F P = er at *
  clear he
  go_enter Tryz.func32,Tryz.ntmps32
  go_wp2_with (go_at_call 66;refine (h1 _ (HX.out.1.now bel)).mono ?_;rintro e w1 ⟨rfl,hb1⟩;obtain ⟨hc1,hf1⟩:=bcell hb1;(try simp only [bqh,bqc,bqf] at hc1 hf1);have hz1:=hb1.size;(try simp at hz1);(try have hy1:=nl1 hz1);(try have hx1:=nl2 hy1);refine szz w1 w ?_;intros)
  go_ret
  exact ⟨rfl,bel⟩
set_option maxRecDepth 100000 in
set_option maxHeartbeats 4000000 in
theorem ref_ToldFault (B:Option Addr) (m d:Nat) (F:List Fld) (A:Option Addr) (n c:Nat) (P:List Pag) (A1:Option Addr) (n1 c1:Nat) (ins:List Fct) (A2:Option Addr) (n2 c2:Nat) (orc:List Fct) (w:World)
  (hX:RFo w B m d F A n c P) (hO:FldsOk F) (hY:RIO w A1 n1 c1 ins A2 n2 c2 orc) :
  Calls Tryz.prog 34 #[.agg #[.slice B m d,.slice A n c],.slice A1 n1 c1,.slice A2 n2 c2] w (RetI w (toldErr F P ins orc)):=by
 have h1:=fun w h => ref_FormFault B m d F A n c P w h hO
 have h2:=fun w (h:RFo w B m d F A n c P) (h':RIO w A1 n1 c1 ins A2 n2 c2 orc) => ref_FactsFault B m d F A n c A1 n1 c1 ins w (h.1.l (by decide)) (h'.1.l (by decide)) h.2.2.2.2.1 h'.2.2.2.2.1
 have h3:=fun w (h:RFo w B m d F A n c P) (h':RIO w A1 n1 c1 ins A2 n2 c2 orc) => ref_OracleFault B m d F A n c A2 n2 c2 orc w h.1 (h'.2.2.1.l (by decide)) h'.2.2.2.1 h.2.2.2.2.1 h'.2.2.2.2.2
 have HX:=Lib.hid (And.intro hX hY)
 clear hX hY hO
 by_cases he:formErr F P = 0
 ·rw [he] at h1
  by_cases hf:factsCheck F ins = 0
  ·rw [toldErr_orc he hf]
   rw [hf] at h2
   generalize oracleErr F orc = er at *
   clear he hf
   go_enter Tryz.func34,Tryz.ntmps34
   go_wp2_with (first
    | (go_at_call 70;refine (h1 _ (HX.out.1.now bel)).mono ?_;rintro e w1 ⟨rfl,hb1⟩;obtain ⟨hc1,hf1⟩:=bcell hb1;(try simp only [bqh,bqc,bqf] at hc1 hf1);have hz1:=hb1.size;(try simp at hz1);(try have hy1:=nl1 hz1);(try have hx1:=nl2 hy1);refine szz w1 w ?_;intros)
    | (go_at_call 82;refine (h2 _ (HX.out.1.now bel) (HX.out.2.now bel)).mono ?_;rintro e w2 ⟨rfl,hb2⟩;obtain ⟨hc2,hf2⟩:=bcell hb2;(try simp only [bqh,bqc,bqf] at hc2 hf2);have hz2:=hb2.size;(try simp at hz2);(try have hy2:=nl1 hz2);(try have hx2:=nl2 hy2);refine szz w2 w ?_;intros;refine szz w2 w1 ?_;intros)
    | (go_at_call 83;refine (h3 _ (HX.out.1.now bel) (HX.out.2.now bel)).mono ?_;rintro e w3 ⟨rfl,hb3⟩;obtain ⟨hc3,hf3⟩:=bcell hb3;(try simp only [bqh,bqc,bqf] at hc3 hf3);have hz3:=hb3.size;(try simp at hz3);(try have hy3:=nl1 hz3);(try have hx3:=nl2 hy3);refine szz w3 w ?_;intros;refine szz w3 w1 ?_;intros;refine szz w3 w2 ?_;intros))
   go_ret
   exact ⟨rfl,bel⟩
  ·rw [toldErr_ins he hf]
   have g1:(factsCheck F ins == 0) = false:=by simpa using hf
   generalize factsCheck F ins = er at *
   clear he hf
   go_enter Tryz.func34,Tryz.ntmps34
   go_wp2_with (first
    | (go_at_call 70;refine (h1 _ (HX.out.1.now bel)).mono ?_;rintro e w1 ⟨rfl,hb1⟩;obtain ⟨hc1,hf1⟩:=bcell hb1;(try simp only [bqh,bqc,bqf] at hc1 hf1);have hz1:=hb1.size;(try simp at hz1);(try have hy1:=nl1 hz1);(try have hx1:=nl2 hy1);refine szz w1 w ?_;intros)
    | (go_at_call 82;refine (h2 _ (HX.out.1.now bel) (HX.out.2.now bel)).mono ?_;rintro e w2 ⟨rfl,hb2⟩;obtain ⟨hc2,hf2⟩:=bcell hb2;(try simp only [bqh,bqc,bqf] at hc2 hf2);have hz2:=hb2.size;(try simp at hz2);(try have hy2:=nl1 hz2);(try have hx2:=nl2 hy2);refine szz w2 w ?_;intros;refine szz w2 w1 ?_;intros))
   go_ret
   exact ⟨rfl,bel⟩
 ·rw [toldErr_form he]
  have g1:(formErr F P == 0) = false:=by simpa using he
  generalize formErr F P = er at *
  clear he
  go_enter Tryz.func34,Tryz.ntmps34
  go_wp2_with (go_at_call 70;refine (h1 _ (HX.out.1.now bel)).mono ?_;rintro e w1 ⟨rfl,hb1⟩;obtain ⟨hc1,hf1⟩:=bcell hb1;(try simp only [bqh,bqc,bqf] at hc1 hf1);have hz1:=hb1.size;(try simp at hz1);(try have hy1:=nl1 hz1);(try have hx1:=nl2 hy1);refine szz w1 w ?_;intros)
  go_ret
  exact ⟨rfl,bel⟩
theorem named_next {F:List Fld} {V:List Val} {k:Nat} {f:Fld} {v:Val} (hf:(F)[k]? = some f) (hv:V[k]? = some v):(namedF F V).take (k + 1) = (namedF F V).take k ++ [⟨f.name,noVal,v⟩]:=by
 rw [List.take_add_one,namedF_at hf hv];rfl
set_option maxRecDepth 100000 in
set_option maxHeartbeats 4000000 in
theorem ref_named (B:Option Addr) (m d:Nat) (F:List Fld) (Vb:Option Addr) (cv:Nat) (V:List Val) (w:World) (h14:m ≤ 14) (hF:Sl w (old w) 9 (RFld w (old w)) B m F) (hV:Sl w (old w) 3 RVal Vb m V) :
  Calls Tryz.prog 78 #[.slice B m d,.slice Vb m cv] w (OwnRow Fct.cs 109 7 w (namedF F V)):=by
 have hml:=hF.len
 have hvl:=hV.len
 have HX:=Lib.hid (And.intro hF (And.intro hV (And.intro hml hvl)))
 obtain ⟨i0,ei,ez0,ez1,ez2⟩:=info_parts Tryz.infoFct
 clear hF hV hml hvl
 go_enter Tryz.func78,Tryz.ntmps78
 go_wp2_with fail
 go_loopw [5,9] (fun v i wr => ∃ k:Nat,k ≤ m ∧ i = .int .i64 k ∧ Hid (wr.ownsRow w.heap.size 109 7 v k (((namedF F V).take k).flatMap Fct.cs)) ∧ Below w.heap.size w wr) (fun _ i _ => m - (intOf i).toNat)
 case atStart => exact ⟨0,by omega,rfl,Lib.hid (by simpa using World.ownsRow_nil _ _ _ _),Below.refl _ _⟩
 case round =>
  obtain ⟨k,hk,rfl,hown,hbr⟩:=hrel
  by_cases hlt:k < m
  ·obtain ⟨b,o,f,X,C,hAe,hbl,hlf,hrep,x0,x1,x2,x3,x4,x5,x6,x7,x8⟩:=Fld_at (HX.out.1.nowN keeps_Fld hbr) hlt
   obtain ⟨b3,o3,v,hVe,hbl3,hlv,hwf,z0,z1,z2⟩:=Val_at (HX.out.2.1.now hbr) hlt
   have HAE:=Lib.hid (And.intro hAe hVe)
   subst hAe
   subst hVe
   have hbl':b < wr.heap.size:=hbl
   have hbl3':b3 < wr.heap.size:=hbl3
   have hki:(k:Int) < (m:Int):=by omega
   have HT:=Lib.hid (named_next hlf hlv)
   clear hbl hlf hrep x1 x2 x3 x4 x5 x6 x7 x8 hbl3 hlv hwf HAE
   go_wp2_with fail
   go_region_law (refine step_append_sl rfl (.tmp 12) (.tmp 23) 42 rfl w.heap.size 109 i0 _ 7 80 Tryz.underlying42 ei ez0 ez1 ez2 rfl (by decide) _ k _ rfl (ownsRow_keep hown.out bel) _ 1 1 (Fct.mk f.name noVal v).cs rfl rfl (fun p hp j u hj => by cases hp;exact news_new _ _ _ j u hj) (by simp) (by simp [Value.oneCell']) (by unfold maxLen;omega) (by omega) (by have:=hbr.size;first | omega | (simp;omega)) ?_;intro v6 w6 hown6 hb6 hz6)
   all_goals
    go_wp2_with fail
    go_roundw
    case rel => exact ⟨k + 1,by omega,by go_num,Lib.hid (by rw [HT.out,List.flatMap_append];simpa using hown6),below_step (below_step hbr ((Below.refl _ _).drew.alloc (Nat.le_refl _) _) hbr.size) hb6 (Nat.le_refl _)⟩
    case measure => simp [intOf];omega
  ·have hke:k = m:=by omega
   subst hke
   have ho:=hown.out
   rw [List.take_of_length_le (by rw [namedF_len (by rw [HX.out.2.2.2,HX.out.2.2.1]),HX.out.2.2.1];exact Nat.le_refl _)] at ho
   have HO:=Lib.hid ho
   clear hown ho
   go_wp2_with fail
   go_ret
   exact ⟨_,rfl,by rw [namedF_len (by rw [HX.out.2.2.2,HX.out.2.2.1]),HX.out.2.2.1];exact HO.out,hbr⟩
end Go.Proofs.YtbhkpepinogigaaGreat
