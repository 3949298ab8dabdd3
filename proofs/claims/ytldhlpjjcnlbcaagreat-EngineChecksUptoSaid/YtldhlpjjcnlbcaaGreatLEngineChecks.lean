/- Texts merged (mergeh.py): LEngineChecks. -/
import Derived.Test.YtldhlpjjcnlbcaaGreatEngX
import Derived.Test.YtldhlpjjcnlbcaaGreatEng8
import Derived.Test.YtldhlpjjcnlbcaaGreatRfe3
/- The law EngineChecks returns true for every input of bulk at most 1048576: engine.Check and engine.Copy agree with the reference. -/
set_option maxRecDepth 100000
set_option maxHeartbeats 8000000
namespace Go.Proofs.YtldhlpjjcnlbcaaGreat
open Go.ChangeShapes Go.WideShapes Go.ChangeAt Go.RowKit
theorem law_EngineChecks (w:World)(cs:List Value)(g:Eng)(hf:REng w (old w) cs g)(hb:g.bulk<=1048576) :
  Calls Tryz.prog 4 #[.agg cs.toArray] w fun e w'=>e=.returned (.bool true)/\Below w.heap.size w w':=by
 obtain⟨B,m,d,A,n,c,A1,n1,c1,A2,n2,c2,A3,n3,c3,rfl,_,_,hX,hO⟩:=hf.parts hb
 obtain⟨F,P,p,ins,cs,vs,now,last⟩:=g
 dsimp only at hX hO ⊢
 have h1:=fun w h=>engine_Check B m d F A n c P p A1 n1 c1 ins A2 n2 c2 cs A3 n3 c3 vs now last w h hO
 have h2:=fun w h=>engine_Copy B m d F A n c P p A1 n1 c1 ins A2 n2 c2 cs A3 n3 c3 vs now last w h
 have h3:=fun w h=>ref_EngineFault B m d F A n c P p A1 n1 c1 ins A2 n2 c2 cs A3 n3 c3 vs now last w h hO
 have h4:=fun w h=>zcg B m d F A n c P p A1 n1 c1 ins A2 n2 c2 cs A3 n3 c3 vs now last w h
 generalize engErr ⟨F,P,p,ins,cs,vs,now,last⟩=er at *
 have hl:inL F.length/\inL P.length/\inL ins.length/\inL cs.length/\inL vs.length:=by
  rw[hX.1.2.2.2.2.1.len,hX.1.2.2.2.2.2.len,hX.2.1.2.2.len,hX.2.2.1.2.2.len,hX.2.2.2.2.2.len]
  exact⟨hX.1.1.l (by decide),hX.1.2.2.1.l (by decide),hX.2.1.1.l (by decide),hX.2.2.1.1.l (by decide),hX.2.2.2.1.l (by decide)⟩
 have hw:(∀ x∈ins,x.wf)/\(∀ x∈cs,x.wf)/\(∀ x∈vs,x.wf):=⟨Sl.all_wf hX.2.1.2.2 fun _ _ h=>h.2,Sl.all_wf hX.2.2.1.2.2 fun _ _ h=>h.2,Sl.all_wf hX.2.2.2.2.2 fun _ _ h=>h.2⟩
 have HX:=zh (ai hX (ai hl hw))
 clear hX hl hw hO hf hb
 go_enter Tryz.func4,Tryz.ntmps4
 go_wp2_with (first
  | (go_at_call 12;refine (h1 _ (HX.out.1.now bel)).mono ?_;rintro e w1 ⟨rfl,hb1⟩;refine zb hb1 ?_;rintro ⟨hc1,hf1⟩ hz1 hy1 hx1;refine szz w1 w ?_;intros)
  | (go_at_call 13;refine (h2 _ (HX.out.1.now bel)).mono ?_;rintro e w2 ⟨Aq5,cq5,Aq6,cq6,Aq7,cq7,Aq8,cq8,Aq9,cq9,N0,N1,N2,rfl,hcop,hb2⟩;refine zb hb2 ?_;rintro ⟨hc2,hf2⟩ hz2 hy2 hx2;refine szz w2 w ?_;intros;refine szz w2 w1 ?_;intros;have HR2:=zh (hcop.rd HX.out.2.2.1 HX.out.2.2.2.1 HX.out.2.2.2.2);clear hcop)
  | (go_at_call 14;refine (h3 _ (HX.out.1.now bel)).mono ?_;rintro e w3 ⟨rfl,hb3⟩;refine zb hb3 ?_;rintro ⟨hc3,hf3⟩ hz3 hy3 hx3;refine szz w3 w ?_;intros;refine szz w3 w1 ?_;intros;refine szz w3 w2 ?_;intros)
  | (go_at_call 15;refine (h4 _ (HX.out.1.now bel)).mono ?_;rintro e w4 ⟨Ar5,cr5,Ar6,cr6,Ar7,cr7,Ar8,cr8,Ar9,cr9,M0,M1,M2,rfl,hcop,hb4⟩;refine zb hb4 ?_;rintro ⟨hc4,hf4⟩ hz4 hy4 hx4;refine szz w4 w ?_;intros;refine szz w4 w1 ?_;intros;refine szz w4 w2 ?_;intros;refine szz w4 w3 ?_;intros;have HR4:=zh (hcop.rd HX.out.2.2.1 HX.out.2.2.2.1 HX.out.2.2.2.2);clear hcop)
  | (go_at_call 10;refine (z8h F P p ins cs vs now last Aq5 Aq6 Aq7 Aq8 Aq9 Ar5 Ar6 Ar7 Ar8 Ar9 cq5 cq6 cq7 cq8 cq9 cr5 cr6 cr7 cr8 cr9 _ HX.out.2.1 (HR2.out.now bel) (HR4.out.now bel)).mono ?_;rintro e w5 ⟨rfl,hb5⟩;refine zb hb5 ?_;rintro ⟨hc5,hf5⟩ hz5 hy5 hx5;refine szz w5 w ?_;intros;refine szz w5 w1 ?_;intros;refine szz w5 w2 ?_;intros;refine szz w5 w3 ?_;intros;refine szz w5 w4 ?_;intros))
 go_ret
 exact⟨rfl,bel⟩
theorem EngineChecksUpto_lifted (os:Os)(started:os.Started)(H:Type)(enc:TypeId×Value->H)(FS:Stop.Interp) :
  ReturnsInHanded {} Tryz.checked os 4 .any ((Rows.OpenSpec.upto Rows.engineChecksSpec).pre6 enc Tryz.checked.prog Tryz.f4 Rows.engineChecksUptoRow.domain false) (((Rows.OpenSpec.upto Rows.engineChecksSpec).at FS).post enc Tryz.checked.prog Tryz.f4 false true false false):=by
 refine law_lifted_upto (s:=Rows.engineChecksSpec) (FS:=FS) started (by kernel_rfl) Tryz.func4 (by rw[Tryz.params4];exact of_decide_eq_true (by kernel_rfl)) rfl rfl
  (fun ds hl=>by rw[show Tryz.f4.params.size=1 from rfl] at hl;match ds,hl with | [d0],_=>rfl)
  (OpenSpec.witness (enc:=enc) (C:=Tryz.checked) (s:=Rows.OpenSpec.upto Rows.engineChecksSpec) (k:=Rows.uptoSmall) rfl false ⟨#[],#[.agg #[.slice none 0 0,.slice none 0 0,.int .i64 0,.int .i64 0,.int .i64 0,.slice none 0 0,.slice none 0 0,.slice none 0 0,.int .i64 0,.int .i64 0]],[]⟩ 8 (by kernel_rfl) (by kernel_rfl) (by kernel_rfl) (x:=([.agg [.agg [.nil,.nil],.agg [.lit (.int .i64 0),.lit (.int .i64 0),.lit (.int .i64 0)],.nil,.nil,.nil,.lit (.int .i64 0),.lit (.int .i64 0)]],[],[])) (by kernel_rfl) rfl (by kernel_rfl)) ?_
 intro W b args ds p hA hval hsz hbulk
 rw[Tryz.params4] at hA hval hsz
 obtain⟨v0,vs0,d0,ds0,p0,q0,hargs,rfl,rfl,h0,r0⟩:=trodAll_cons hA
 obtain⟨rfl,rfl,rfl⟩:=trodAll_nil r0
 have hargs':args=#[v0]:=by apply Array.toList_inj.1;simpa using hargs
 subst hargs'
 have w0:=zcp _ _ hsz 0 _ _ rfl rfl
 obtain⟨cs0,a0,rfl,s0,m0⟩:=arg_struct dec_Eng Tryz.underlying32 (hval 0 32 _ rfl rfl) h0 w0
 simp only[Rows.uptoBulkAll] at hbulk
 exact law_EngineChecks W cs0 a0 s0 (Nat.le_trans m0 (by omega))
theorem EngineChecksUpto_holds:Rows.EngineChecksUptoSaid :=
 OpenClaim.holds_of_cond 4 Tryz.f4 rfl rfl rfl rfl rfl rfl rfl ⟨rfl,rfl,rfl,rfl,rfl⟩ rfl rfl rfl rfl rfl (by kernel_rfl) Tryz.func4 (by kernel_rfl)
  (of_decide_eq_true (by kernel_rfl)) (by unfold Func.isWrapper;rw[if_neg (of_decide_eq_false (by kernel_rfl))];exact⟨rfl,rfl⟩)
  (fun os started H enc _ FS=>EngineChecksUpto_lifted os started H enc FS)
end Go.Proofs.YtldhlpjjcnlbcaaGreat
