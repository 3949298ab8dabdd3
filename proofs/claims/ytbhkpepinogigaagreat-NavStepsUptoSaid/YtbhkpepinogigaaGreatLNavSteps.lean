/- The law NavSteps returns true for every input of bulk at most 1048576: nav.Next and nav.Back agree with the references. -/
import Derived.Test.YtbhkpepinogigaaGreatFrm
import Derived.Test.YtbhkpepinogigaaGreatNavP
import Derived.Test.YtbhkpepinogigaaGreatStp5
import Derived.Test.YtbhkpepinogigaaGreatSamf
namespace Go.Proofs.YtbhkpepinogigaaGreat
open Go.ChangeShapes Go.WideShapes Go.ChangeAt Go.RowKit

set_option maxRecDepth 100000 in
set_option maxHeartbeats 1000000 in
theorem same_Walk (r:Wlk) (Q Q':Option Addr) (cq cq':Nat) (w:World) (hl:r.path.length ≤ 140737488351232) (h:Sl w (old w) 1 RInt Q r.path.length r.path) (h':Sl w (old w) 1 RInt Q' r.path.length r.path) :
  Calls Tryz.prog 31 #[.agg #[.int .i64 r.at_,.slice Q r.path.length cq,.bool r.done],.agg #[.int .i64 r.at_,.slice Q' r.path.length cq',.bool r.done]] w (RetB w true):=by
 obtain ⟨at_,path,done⟩:=r
 dsimp only at *
 have HH:=Lib.hid (And.intro h h')
 clear h h'
 go_enter Tryz.func31,Tryz.ntmps31
 go_wp2_with (go_at_call 18;refine (same_Ints Q Q' _ cq _ cq' path _ _ _ (by omega) ((HH.out.1.now bel).keep (fun _ _ => rfl) (fun _ _ h => h.1)) ((HH.out.2.now bel).keep (fun _ _ => rfl) (fun _ _ h => h.1))).mono ?_;rintro e w7 ⟨rfl,k7,rfl⟩)
 go_ret
 exact ⟨rfl,bel⟩
theorem nextR_len {F:List Fld} {P:List Pag} {V:List Val} (x:Wlk):(nextR F P V x).1.path.length ≤ 7:=by
 by_cases he:walkErr F P V x = 0
 ·have hl:=walkOk_len (walkErr_zero he).2.2.2
  have hp:=(pagesErr_len (formErr_pages (walkErr_zero he).1)).2
  unfold nextR
  rw [if_neg (by simpa using he)]
  split
  ·exact Nat.zero_le _
  ·split
   ·exact Nat.zero_le _
   ·split
    ·exact Nat.zero_le _
    ·show (x.path ++ [x.at_]).length ≤ 7
     rw [List.length_append,List.length_singleton];omega
 ·rw [nextR_err he];exact Nat.zero_le _
theorem backR_len {F:List Fld} {P:List Pag} {V:List Val} (x:Wlk):(backR F P V x).1.path.length ≤ 7:=by
 by_cases he:walkErr F P V x = 0
 ·have hl:=walkOk_len (walkErr_zero he).2.2.2
  have hp:=(pagesErr_len (formErr_pages (walkErr_zero he).1)).2
  unfold backR
  rw [if_neg (by simpa using he)]
  split
  ·exact Nat.zero_le _
  ·show (x.path.take (x.path.length - 1)).length ≤ 7
   rw [List.length_take];omega
 ·rw [backR_err he];exact Nat.zero_le _
set_option maxRecDepth 100000 in
set_option maxHeartbeats 4000000 in
theorem law_NavSteps (w:World) (cs:List Value) (f:Frm) (hf:RFrm w (old w) cs f) (Vb:Option Addr) (nv cv:Nat) (V:List Val) (hnv:inB 32 nv) (hcv:nv ≤ cv) (hV:Sl w (old w) 3 RVal Vb nv V)
  (cs2:List Value) (x:Wlk) (hx:RWlk w (old w) cs2 x) (hb:f.bulk ≤ 1048576) (_:(V.map fun v:Val => v.s.size + 1).sum + 1 ≤ 1048576) (_:x.bulk ≤ 1048576) :
  Calls Tryz.prog 6 #[.agg cs.toArray,.slice Vb nv cv,.agg cs2.toArray] w fun e w' => e = .returned (.bool true) ∧ Below w.heap.size w w':=by
 obtain ⟨A,n,c,A2,n2,c2,rfl,hX,hO⟩:=hf.parts hb
 obtain ⟨hia,Q,q,cq,rfl,hq8,hcq,hQ⟩:=hx
 have hY:RVp w Vb nv cv V Q q cq x.path:=⟨hnv,hcv,hq8,hcq,hV,hQ⟩
 have h1:=fun w h h' => nav_Next A n c f.fields A2 n2 c2 f.pages Vb nv cv V x Q q cq w h hO h' hia
 have h2:=fun w h h' => nav_Back A n c f.fields A2 n2 c2 f.pages Vb nv cv V x Q q cq w h hO h' hia
 have h3:=fun w h h' => ref_WalkNext A n c f.fields A2 n2 c2 f.pages Vb nv cv V x Q q cq w h hO h' hia
 have h4:=fun w h h' => ref_WalkBack A n c f.fields A2 n2 c2 f.pages Vb nv cv V x Q q cq w h hO h' hia
 have hl1:=nextR_len (F:=f.fields) (P:=f.pages) (V:=V) x
 have hl2:=backR_len (F:=f.fields) (P:=f.pages) (V:=V) x
 have HX:=Lib.hid (And.intro hX hY)
 clear hX hO hY hq8 hQ hV hnv hcv hcq hb hia
 generalize nextR f.fields f.pages V x = r1 at *
 generalize backR f.fields f.pages V x = r2 at *
 obtain ⟨r1,e1⟩:=r1
 obtain ⟨r2,e2⟩:=r2
 dsimp only at hl1 hl2
 go_enter Tryz.func6,Tryz.ntmps6
 go_wp2_with fail
 refine (h1 _ (HX.out.1.now bel) (HX.out.2.now bel)).mono ?_;rintro e w1 ⟨Q1,d1,rfl,hs1,hb1⟩;dsimp only at *;obtain ⟨hc1,hf1⟩:=bcell hb1;(try simp only [bqh,bqc,bqf] at hc1 hf1);have hz1:=hb1.size;(try simp at hz1);(try have hy1:=nl1 hz1);(try have hx1:=nl2 hy1);refine szz w1 w ?_;intros
 have HS1:=Lib.hid hs1
 clear hs1
 go_wp2_with fail
 refine (h2 _ (HX.out.1.now bel) (HX.out.2.now bel)).mono ?_;rintro e w2 ⟨Q2,d2,rfl,hs2,hb2⟩;dsimp only at *;obtain ⟨hc2,hf2⟩:=bcell hb2;(try simp only [bqh,bqc,bqf] at hc2 hf2);have hz2:=hb2.size;(try simp at hz2);(try have hy2:=nl1 hz2);(try have hx2:=nl2 hy2);refine szz w2 w ?_;intros;refine szz w2 w1 ?_;intros
 have HS2:=Lib.hid hs2
 clear hs2
 go_wp2_with fail
 refine (h3 _ (HX.out.1.now bel) (HX.out.2.now bel)).mono ?_;rintro e w3 ⟨Q3,d3,rfl,hs3,hb3⟩;dsimp only at *;obtain ⟨hc3,hf3⟩:=bcell hb3;(try simp only [bqh,bqc,bqf] at hc3 hf3);have hz3:=hb3.size;(try simp at hz3);(try have hy3:=nl1 hz3);(try have hx3:=nl2 hy3);refine szz w3 w ?_;intros;refine szz w3 w1 ?_;intros;refine szz w3 w2 ?_;intros
 have HS3:=Lib.hid hs3
 clear hs3
 go_wp2_with fail
 refine (h4 _ (HX.out.1.now bel) (HX.out.2.now bel)).mono ?_;rintro e w4 ⟨Q4,d4,rfl,hs4,hb4⟩;dsimp only at *;obtain ⟨hc4,hf4⟩:=bcell hb4;(try simp only [bqh,bqc,bqf] at hc4 hf4);have hz4:=hb4.size;(try simp at hz4);(try have hy4:=nl1 hz4);(try have hx4:=nl2 hy4);refine szz w4 w ?_;intros;refine szz w4 w1 ?_;intros;refine szz w4 w2 ?_;intros;refine szz w4 w3 ?_;intros
 have HS4:=Lib.hid hs4
 clear hs4
 go_wp2_with fail
 refine (same_Walk r1 Q1 Q3 d1 d3 _ (by omega) (HS1.out.now bel) (HS3.out.now bel)).mono ?_;rintro e w5 ⟨rfl,hb5⟩;obtain ⟨hc5,hf5⟩:=bcell hb5;(try simp only [bqh,bqc,bqf] at hc5 hf5);have hz5:=hb5.size;(try simp at hz5);(try have hy5:=nl1 hz5);(try have hx5:=nl2 hy5);refine szz w5 w ?_;intros;refine szz w5 w1 ?_;intros;refine szz w5 w2 ?_;intros;refine szz w5 w3 ?_;intros;refine szz w5 w4 ?_;intros
 go_wp2_with fail
 refine (same_Walk r2 Q2 Q4 d2 d4 _ (by omega) (HS2.out.now bel) (HS4.out.now bel)).mono ?_;rintro e w6 ⟨rfl,hb6⟩;obtain ⟨hc6,hf6⟩:=bcell hb6;(try simp only [bqh,bqc,bqf] at hc6 hf6);have hz6:=hb6.size;(try simp at hz6);(try have hy6:=nl1 hz6);(try have hx6:=nl2 hy6);refine szz w6 w ?_;intros;refine szz w6 w1 ?_;intros;refine szz w6 w2 ?_;intros;refine szz w6 w3 ?_;intros;refine szz w6 w4 ?_;intros;refine szz w6 w5 ?_;intros
 go_wp2_with fail
 go_ret
 exact ⟨rfl,bel⟩
set_option maxRecDepth 100000 in
theorem NavStepsUpto_lifted (os:Os) (started:os.Started) (H:Type) (enc:TypeId × Value → H) (FS:Stop.Interp) :
  ReturnsInHanded {} Tryz.checked os 6 .any ((Rows.OpenSpec.upto Rows.navStepsSpec).pre6 enc Tryz.checked.prog Tryz.f6 Rows.navStepsUptoRow.domain false) (((Rows.OpenSpec.upto Rows.navStepsSpec).at FS).post enc Tryz.checked.prog Tryz.f6 false true false false):=by
 refine law_lifted_upto (s:=Rows.navStepsSpec) (FS:=FS) started (by kernel_rfl) Tryz.func6 (by rw [Tryz.params6];exact of_decide_eq_true (by kernel_rfl)) rfl rfl
  (fun ds hl => by rw [show Tryz.f6.params.size = 3 from rfl] at hl;match ds,hl with | [d0,d1,d2],_ => rfl)
  (OpenSpec.witness (enc:=enc) (C:=Tryz.checked) (s:=Rows.OpenSpec.upto Rows.navStepsSpec) (k:=Rows.uptoSmall) rfl false ⟨#[],#[.agg #[.slice none 0 0,.slice none 0 0],.slice none 0 0,.agg #[.int .i64 0,.slice none 0 0,.bool false]],[]⟩ 8 (by kernel_rfl) (by kernel_rfl) (by kernel_rfl) (x:=([.agg [.nil,.nil],.nil,.agg [.lit (.int .i64 0),.nil,.lit (.bool false)]],[],[])) (by kernel_rfl) rfl (by kernel_rfl)) ?_
 intro W b args ds p hA hval hsz hbulk
 rw [Tryz.params6] at hA hval hsz
 obtain ⟨v0,vs0,d0,ds0,p0,q0,hargs,rfl,rfl,h0,r0⟩:=trodAll_cons hA
 obtain ⟨v1,vs1,d1,ds1,p1,q1,rfl,rfl,rfl,h1,r1⟩:=trodAll_cons r0
 obtain ⟨v2,vs2,d2,ds2,p2,q2,rfl,rfl,rfl,h2,r2⟩:=trodAll_cons r1
 obtain ⟨rfl,rfl,rfl⟩:=trodAll_nil r2
 have hargs':args = #[v0,v1,v2]:=by apply Array.toList_inj.1;simpa using hargs
 subst hargs'
 have w0:=weightsEach_at _ _ hsz 0 _ _ rfl rfl
 obtain ⟨cs0,a0,rfl,s0,m0⟩:=arg_struct dec_Frm Tryz.underlying32 (hval 0 32 _ rfl rfl) h0 w0
 have w1:=weightsEach_at _ _ hsz 1 _ _ rfl rfl
 obtain ⟨A1,n1,c1,l1,rfl,i1,k1,s1,m1⟩:=arg_sl dec_Vals Tryz.underlying33 (hval 1 33 _ rfl rfl) h1 w1
 have w2:=weightsEach_at _ _ hsz 2 _ _ rfl rfl
 obtain ⟨cs2,a2,rfl,s2,m2⟩:=arg_struct dec_Wlk Tryz.underlying35 (hval 2 35 _ rfl rfl) h2 w2
 simp only [Rows.uptoBulkAll] at hbulk
 exact law_NavSteps W cs0 a0 s0 A1 n1 c1 l1 i1 k1 s1 cs2 a2 s2 (Nat.le_trans m0 (by omega)) (Nat.le_trans m1 (by omega)) (Nat.le_trans m2 (by omega))
theorem NavStepsUpto_holds:Rows.NavStepsUptoSaid :=
 OpenClaim.holds_of_cond 6 Tryz.f6 rfl rfl rfl rfl rfl rfl rfl ⟨rfl,rfl,rfl,rfl,rfl⟩ rfl rfl rfl rfl rfl (by kernel_rfl) Tryz.func6 (by kernel_rfl)
  (of_decide_eq_true (by kernel_rfl)) (by unfold Func.isWrapper;rw [if_neg (of_decide_eq_false (by kernel_rfl))];exact ⟨rfl,rfl⟩)
  (fun os started H enc _ FS => NavStepsUpto_lifted os started H enc FS)
end Go.Proofs.YtbhkpepinogigaaGreat
