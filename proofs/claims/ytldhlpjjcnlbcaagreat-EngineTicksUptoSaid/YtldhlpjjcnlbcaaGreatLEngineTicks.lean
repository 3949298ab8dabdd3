/- The law EngineTicks returns true for every input of bulk at most 1048576: engine.Tick agrees with the reference. -/
import Derived.Test.YtldhlpjjcnlbcaaGreatEngY
import Derived.Test.YtldhlpjjcnlbcaaGreatEngT
import Derived.Test.YtldhlpjjcnlbcaaGreatRfT
import Derived.Test.YtldhlpjjcnlbcaaGreatRowL
set_option maxRecDepth 100000
set_option maxHeartbeats 8000000
namespace Go.Proofs.YtldhlpjjcnlbcaaGreat
open Go.ChangeShapes Go.WideShapes Go.ChangeAt Go.RowKit
theorem tickE_len {g:Eng}{n:Int}(hl:LenOk g []):LenOk (tickE g n).1 (tickE g n).2.1:=by
 unfold tickE
 split
 ·exact z8a
 rename_i h0
 split
 ·exact z8a
 rename_i h1
 have h2:=tick_set (n:=n) (by simpa using h0) (by omega) (by omega)
 have h3:=form14 (zft (z85 (g:=g) (by simpa using h0))).1
 have h4:=(zf1 (z85 (g:=g) (by simpa using h0))).1.2.2.2.1
 exact becE_len2 (g:={ g with now:=g.now+n,cs:=wakeC g.p (g.now+n) g.cs }) h2.1 h2.2 (by have:=wakeTo_len (F:=g.F) (p:=g.p) (now:=g.now+n) (cs:=g.cs) g.cs.length;omega) hl.2.2.1 hl.2.1
theorem law_EngineTicks (w:World)(cs0:List Value)(g:Eng)(hf:REng w (old w) cs0 g)(t:Int)(ht:inI t)(hb:g.bulk<=1048576) :
  Calls Tryz.prog 7 #[.agg cs0.toArray,.int .i64 t] w fun e w'=>e=.returned (.bool true)/\Below w.heap.size w w':=by
 obtain⟨B,m,d,A,n,c,A1,n1,c1,A2,n2,c2,A3,n3,c3,rfl,_,_,hX,hO⟩:=hf.parts hb
 obtain⟨F,P,p,ins,cs,vs,now,last⟩:=g
 dsimp only at hX hO ⊢
 have h1:=fun w h=>engine_Tick B m d F A n c P p A1 n1 c1 ins A2 n2 c2 cs A3 n3 c3 vs now last t w h hO ht
 have h2:=fun w h=>ref_EngineTick B m d F A n c P p A1 n1 c1 ins A2 n2 c2 cs A3 n3 c3 vs now last t w h hO ht
 have hl0:LenOk ⟨F,P,p,ins,cs,vs,now,last⟩ []:=by
  refine⟨?_,?_,?_,?_,?_,Nat.zero_le _⟩
  ·dsimp only;rw[hX.1.2.2.2.2.1.len];exact hX.1.1.l (by decide)
  ·dsimp only;rw[hX.1.2.2.2.2.2.len];exact hX.1.2.2.1.l (by decide)
  ·dsimp only;rw[hX.2.1.2.2.len];exact hX.2.1.1.l (by decide)
  ·dsimp only;rw[hX.2.2.1.2.2.len];exact hX.2.2.1.1.l (by decide)
  dsimp only;rw[hX.2.2.2.2.2.len];exact hX.2.2.2.1.l (by decide)
 have hl:=tickE_len (n:=t) hl0
 generalize tickE ⟨F,P,p,ins,cs,vs,now,last⟩ t=r at *
 obtain⟨⟨F',P',p',ins',cs',vs',now',last'⟩,ls,er⟩:=r
 dsimp only at hl
 have HX:=zh (ai hX hl)
 clear hX hl hl0 hO hf hb
 go_enter Tryz.func7,Tryz.ntmps7
 go_wp2_with (first
  | (go_at_call 20;refine (h1 _ (HX.out.1.now bel)).mono ?_;rintro e w1 ⟨⟨Aq5,cq5,Aq6,cq6,Aq7,cq7,Aq8,cq8,Aq9,cq9,Aq4,cq4,rfl,_,s1,s2,s3,s4,s5,s6⟩,hb1⟩;dsimp only at s1 s2 s3 s4 s5 s6 ⊢;refine zb hb1 ?_;rintro ⟨hc1,hf1⟩ hz1 hy1 hx1;refine szz w1 w ?_;intros;have HR1:=zh (ai (show EngRd w1 F' P' ins' cs' vs' Aq5 Aq6 Aq7 Aq8 Aq9 from ⟨s1.keepN z02 (fun b hb=>⟨hb.2,rfl⟩),s2.keepN z0d (fun b hb=>⟨hb.2,rfl⟩),s3.mono (fun _ h=>h.2),s4.mono (fun _ h=>h.2),s5.mono (fun _ h=>h.2)⟩) (show Sl w1 (old w1) 8 RLtr Aq4 ls.length ls from s6.mono (fun _ h=>h.2)));clear s1 s2 s3 s4 s5 s6)
  | (go_at_call 21;refine (h2 _ (HX.out.1.now bel)).mono ?_;rintro e w2 ⟨⟨Ar5,cr5,Ar6,cr6,Ar7,cr7,Ar8,cr8,Ar9,cr9,Ar4,cr4,rfl,_,s1,s2,s3,s4,s5,s6⟩,hb2⟩;dsimp only at s1 s2 s3 s4 s5 s6 ⊢;refine zb hb2 ?_;rintro ⟨hc2,hf2⟩ hz2 hy2 hx2;refine szz w2 w ?_;intros;refine szz w2 w1 ?_;intros;have HR2:=zh (ai (show EngRd w2 F' P' ins' cs' vs' Ar5 Ar6 Ar7 Ar8 Ar9 from ⟨s1.keepN z02 (fun b hb=>⟨hb.2,rfl⟩),s2.keepN z0d (fun b hb=>⟨hb.2,rfl⟩),s3.mono (fun _ h=>h.2),s4.mono (fun _ h=>h.2),s5.mono (fun _ h=>h.2)⟩) (show Sl w2 (old w2) 8 RLtr Ar4 ls.length ls from s6.mono (fun _ h=>h.2)));clear s1 s2 s3 s4 s5 s6)
  | (go_at_call 10;refine (z8h F' P' p' ins' cs' vs' now' last' Aq5 Aq6 Aq7 Aq8 Aq9 Ar5 Ar6 Ar7 Ar8 Ar9 cq5 cq6 cq7 cq8 cq9 cr5 cr6 cr7 cr8 cr9 _ ⟨HX.out.2.1,HX.out.2.2.1,HX.out.2.2.2.1,HX.out.2.2.2.2.1,HX.out.2.2.2.2.2.1⟩ (HR1.out.1.now bel) (HR2.out.1.now bel)).mono ?_;rintro e w3 ⟨rfl,hb3⟩;refine zb hb3 ?_;rintro ⟨hc3,hf3⟩ hz3 hy3 hx3;refine szz w3 w ?_;intros;refine szz w3 w1 ?_;intros;refine szz w3 w2 ?_;intros)
  | (go_at_call 11;refine (z3v Aq4 _ cq4 ls Ar4 _ cr4 ls _ HX.out.2.2.2.2.2.2 HX.out.2.2.2.2.2.2 (HR1.out.2.now bel) (HR2.out.2.now bel)).mono ?_;rintro e w4 ⟨rfl,hb4⟩;rw[decide_eq_true rfl];refine zb hb4 ?_;rintro ⟨hc4,hf4⟩ hz4 hy4 hx4;refine szz w4 w ?_;intros;refine szz w4 w1 ?_;intros;refine szz w4 w2 ?_;intros;refine szz w4 w3 ?_;intros))
 go_ret
 exact⟨rfl,bel⟩
theorem EngineTicksUpto_lifted (os:Os)(started:os.Started)(H:Type)(enc:TypeId×Value->H)(FS:Stop.Interp) :
  ReturnsInHanded {} Tryz.checked os 7 .any ((Rows.OpenSpec.upto Rows.engineTicksSpec).pre6 enc Tryz.checked.prog Tryz.f7 Rows.engineTicksUptoRow.domain false) (((Rows.OpenSpec.upto Rows.engineTicksSpec).at FS).post enc Tryz.checked.prog Tryz.f7 false true false false):=by
 refine law_lifted_upto (s:=Rows.engineTicksSpec) (FS:=FS) started (by kernel_rfl) Tryz.func7 (by rw[Tryz.params7];exact of_decide_eq_true (by kernel_rfl)) rfl rfl
  (fun ds hl=>by rw[show Tryz.f7.params.size=2 from rfl] at hl;match ds,hl with | [d0,d1],_=>rfl)
  (OpenSpec.witness (enc:=enc) (C:=Tryz.checked) (s:=Rows.OpenSpec.upto Rows.engineTicksSpec) (k:=Rows.uptoSmall) rfl false ⟨#[],#[.agg #[.slice none 0 0,.slice none 0 0,.int .i64 0,.int .i64 0,.int .i64 0,.slice none 0 0,.slice none 0 0,.slice none 0 0,.int .i64 0,.int .i64 0],.int .i64 0],[]⟩ 8 (by kernel_rfl) (by kernel_rfl) (by kernel_rfl) (x:=([.agg [.agg [.nil,.nil],.agg [.lit (.int .i64 0),.lit (.int .i64 0),.lit (.int .i64 0)],.nil,.nil,.nil,.lit (.int .i64 0),.lit (.int .i64 0)],.lit (.int .i64 0)],[],[])) (by kernel_rfl) rfl (by kernel_rfl)) ?_
 intro W b args ds p hA hval hsz hbulk
 rw[Tryz.params7] at hA hval hsz
 obtain⟨v0,vs0,d0,ds0,p0,q0,hargs,rfl,rfl,h0,r0⟩:=trodAll_cons hA
 obtain⟨v1,vs1,d1,ds1,p1,q1,rfl,rfl,rfl,h1,r1⟩:=trodAll_cons r0
 obtain⟨rfl,rfl,rfl⟩:=trodAll_nil r1
 have hargs':args=#[v0,v1]:=by apply Array.toList_inj.1;simpa using hargs
 subst hargs'
 have w0:=zcp _ _ hsz 0 _ _ rfl rfl
 obtain⟨cs0,a0,rfl,s0,m0⟩:=arg_struct dec_Eng Tryz.underlying32 (hval 0 32 _ rfl rfl) h0 w0
 have w1:=zcp _ _ hsz 1 _ _ rfl rfl
 obtain⟨a1,rfl,i1⟩:=arg_int Tryz.underlying3 (hval 1 3 _ rfl rfl) h1
 simp only[Rows.uptoBulkAll] at hbulk
 exact law_EngineTicks W cs0 a0 s0 a1 i1 (Nat.le_trans m0 (by omega))
theorem EngineTicksUpto_holds:Rows.EngineTicksUptoSaid :=
 OpenClaim.holds_of_cond 7 Tryz.f7 rfl rfl rfl rfl rfl rfl rfl ⟨rfl,rfl,rfl,rfl,rfl⟩ rfl rfl rfl rfl rfl (by kernel_rfl) Tryz.func7 (by kernel_rfl)
  (of_decide_eq_true (by kernel_rfl)) (by unfold Func.isWrapper;rw[if_neg (of_decide_eq_false (by kernel_rfl))];exact⟨rfl,rfl⟩)
  (fun os started H enc _ FS=>EngineTicksUpto_lifted os started H enc FS)
end Go.Proofs.YtldhlpjjcnlbcaaGreat
