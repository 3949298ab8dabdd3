/- Texts merged (mergeh.py): LEngineBegins. -/
import Derived.Test.YtldhlpjjcnlbcaaGreatEngX
import Derived.Test.YtldhlpjjcnlbcaaGreatEng9
import Derived.Test.YtldhlpjjcnlbcaaGreatRfe9
import Derived.Test.YtldhlpjjcnlbcaaGreatRowL
/- The law EngineBegins returns true for every input of bulk at most 1048576: engine.New agrees with the reference. -/
set_option maxRecDepth 100000
set_option maxHeartbeats 8000000
namespace Go.Proofs.YtldhlpjjcnlbcaaGreat
open Go.ChangeShapes Go.WideShapes Go.ChangeAt Go.RowKit
theorem becE_len {g:Eng}{ms:List Ltr}{n:Nat}(h:SetOk g.F g.p g.ins g.now g.cs g.last)(hv:g.vs.length=g.F.length)(hms:ms.length<=80)(hi:inL g.ins.length)(hP:inL g.P.length):inL (becE g ms).1.F.length/\inL (becE g ms).1.P.length/\inL (becE g ms).1.ins.length/\inL (becE g ms).1.cs.length/\inL (becE g ms).1.vs.length/\inL (becE g ms).2.1.length:=by
 have h14:=(z0h (z13 h.1.1).1).1
 have hE:=(z5m (vs:=g.vs) h hv (nr _)).2.1
 have hc:(setE g).calls.length=g.F.length:=hE.cl
 have hvl:(setE g).vals.length=g.F.length:=hE.vl
 have hl:(setE g).ltrs.length<=g.F.length:=hE.ll
 unfold becE
 split
 ·unfold toEng
  dsimp only
  refine⟨by unfold inL;omega,hP,hi,by unfold inL;omega,by unfold inL;omega,by rw[List.length_append];unfold inL;omega⟩
 exact⟨Nat.zero_le _,Nat.zero_le _,Nat.zero_le _,Nat.zero_le _,Nat.zero_le _,Nat.zero_le _⟩
theorem newE_len {F:List Fld}{P:List Pag}{p:Pol}(hP:inL P.length):inL (newE F P p).1.F.length/\inL (newE F P p).1.P.length/\inL (newE F P p).1.ins.length/\inL (newE F P p).1.cs.length/\inL (newE F P p).1.vs.length/\inL (newE F P p).2.1.length:=by
 unfold newE
 by_cases h1:formErr F P=0
 ·by_cases h2:gapCheck p=0
  ·rw[if_neg (by simpa using h1),if_neg (by simpa using h2)]
   exact becE_len (n:=0) (g:=⟨F,P,p,[],_,_,0,0⟩) (new_ok h1 h2) (by simp) (by simp) (Nat.zero_le _) hP
  rw[if_neg (by simpa using h1),if_pos h2];exact⟨Nat.zero_le _,Nat.zero_le _,Nat.zero_le _,Nat.zero_le _,Nat.zero_le _,Nat.zero_le _⟩
 rw[if_pos h1];exact⟨Nat.zero_le _,Nat.zero_le _,Nat.zero_le _,Nat.zero_le _,Nat.zero_le _,Nat.zero_le _⟩
theorem law_EngineBegins (w:World)(cs:List Value)(f:Frm)(hf:RFrm w (old w) cs f)(p:Pol)(_:p.wf)(hb:f.bulk<=1048576)(_:1<=1048576) :
  Calls Tryz.prog 3 #[.agg cs.toArray,.agg #[.int .i64 p.tries,.int .i64 p.base,.int .i64 p.cap]] w fun e w'=>e=.returned (.bool true)/\Below w.heap.size w w':=by
 obtain⟨A,n,c,A3,n3,c3,rfl,hX,hO⟩:=hf.parts hb
 have h1:=fun w h=>engine_New A n c f.fields A3 n3 c3 f.pages p w h hO
 have h2:=fun w h=>ref_EngineNew A n c f.fields A3 n3 c3 f.pages p w h hO
 have hl:=newE_len (F:=f.fields) (P:=f.pages) (p:=p) (by rw[hX.2.2.2.2.2.len];exact hX.2.2.1.l (by decide))
 generalize newE f.fields f.pages p=r at *
 obtain⟨⟨F,P,p',ins,cs',vs,now,last⟩,ls,er⟩:=r
 dsimp only at hl
 have HX:=zh (ai hX hl)
 clear hX hl hO hf hb
 go_enter Tryz.func3,Tryz.ntmps3
 go_wp2_with (first
  | (go_at_call 8;refine (h1 _ (HX.out.1.now bel)).mono ?_;rintro e w1 ⟨⟨Aq5,cq5,Aq6,cq6,Aq7,cq7,Aq8,cq8,Aq9,cq9,Aq4,cq4,rfl,_,s1,s2,s3,s4,s5,s6⟩,hb1⟩;dsimp only at s1 s2 s3 s4 s5 s6 ⊢;refine zb hb1 ?_;rintro ⟨hc1,hf1⟩ hz1 hy1 hx1;refine szz w1 w ?_;intros;have HR1:=zh (ai (show EngRd w1 F P ins cs' vs Aq5 Aq6 Aq7 Aq8 Aq9 from ⟨s1.keepN z02 (fun b hb=>⟨hb.2,rfl⟩),s2.keepN z0d (fun b hb=>⟨hb.2,rfl⟩),s3.mono (fun _ h=>h.2),s4.mono (fun _ h=>h.2),s5.mono (fun _ h=>h.2)⟩) (show Sl w1 (old w1) 8 RLtr Aq4 ls.length ls from s6.mono (fun _ h=>h.2)));clear s1 s2 s3 s4 s5 s6)
  | (go_at_call 9;refine (h2 _ (HX.out.1.now bel)).mono ?_;rintro e w2 ⟨⟨Ar5,cr5,Ar6,cr6,Ar7,cr7,Ar8,cr8,Ar9,cr9,Ar4,cr4,rfl,_,s1,s2,s3,s4,s5,s6⟩,hb2⟩;dsimp only at s1 s2 s3 s4 s5 s6 ⊢;refine zb hb2 ?_;rintro ⟨hc2,hf2⟩ hz2 hy2 hx2;refine szz w2 w ?_;intros;refine szz w2 w1 ?_;intros;have HR2:=zh (ai (show EngRd w2 F P ins cs' vs Ar5 Ar6 Ar7 Ar8 Ar9 from ⟨s1.keepN z02 (fun b hb=>⟨hb.2,rfl⟩),s2.keepN z0d (fun b hb=>⟨hb.2,rfl⟩),s3.mono (fun _ h=>h.2),s4.mono (fun _ h=>h.2),s5.mono (fun _ h=>h.2)⟩) (show Sl w2 (old w2) 8 RLtr Ar4 ls.length ls from s6.mono (fun _ h=>h.2)));clear s1 s2 s3 s4 s5 s6)
  | (go_at_call 10;refine (z8h F P p' ins cs' vs now last Aq5 Aq6 Aq7 Aq8 Aq9 Ar5 Ar6 Ar7 Ar8 Ar9 cq5 cq6 cq7 cq8 cq9 cr5 cr6 cr7 cr8 cr9 _ ⟨HX.out.2.1,HX.out.2.2.1,HX.out.2.2.2.1,HX.out.2.2.2.2.1,HX.out.2.2.2.2.2.1⟩ (HR1.out.1.now bel) (HR2.out.1.now bel)).mono ?_;rintro e w3 ⟨rfl,hb3⟩;refine zb hb3 ?_;rintro ⟨hc3,hf3⟩ hz3 hy3 hx3;refine szz w3 w ?_;intros;refine szz w3 w1 ?_;intros;refine szz w3 w2 ?_;intros)
  | (go_at_call 11;refine (z3v Aq4 _ cq4 ls Ar4 _ cr4 ls _ HX.out.2.2.2.2.2.2 HX.out.2.2.2.2.2.2 (HR1.out.2.now bel) (HR2.out.2.now bel)).mono ?_;rintro e w4 ⟨rfl,hb4⟩;rw[decide_eq_true rfl];refine zb hb4 ?_;rintro ⟨hc4,hf4⟩ hz4 hy4 hx4;refine szz w4 w ?_;intros;refine szz w4 w1 ?_;intros;refine szz w4 w2 ?_;intros;refine szz w4 w3 ?_;intros))
 go_ret
 exact⟨rfl,bel⟩
theorem EngineBeginsUpto_lifted (os:Os)(started:os.Started)(H:Type)(enc:TypeId×Value->H)(FS:Stop.Interp) :
  ReturnsInHanded {} Tryz.checked os 3 .any ((Rows.OpenSpec.upto Rows.engineBeginsSpec).pre6 enc Tryz.checked.prog Tryz.f3 Rows.engineBeginsUptoRow.domain false) (((Rows.OpenSpec.upto Rows.engineBeginsSpec).at FS).post enc Tryz.checked.prog Tryz.f3 false true false false):=by
 refine law_lifted_upto (s:=Rows.engineBeginsSpec) (FS:=FS) started (by kernel_rfl) Tryz.func3 (by rw[Tryz.params3];exact of_decide_eq_true (by kernel_rfl)) rfl rfl
  (fun ds hl=>by rw[show Tryz.f3.params.size=2 from rfl] at hl;match ds,hl with | [d0,d1],_=>rfl)
  (OpenSpec.witness (enc:=enc) (C:=Tryz.checked) (s:=Rows.OpenSpec.upto Rows.engineBeginsSpec) (k:=Rows.uptoSmall) rfl false ⟨#[],#[.agg #[.slice none 0 0,.slice none 0 0],.agg #[.int .i64 0,.int .i64 0,.int .i64 0]],[]⟩ 8 (by kernel_rfl) (by kernel_rfl) (by kernel_rfl) (x:=([.agg [.nil,.nil],.agg [.lit (.int .i64 0),.lit (.int .i64 0),.lit (.int .i64 0)]],[],[])) (by kernel_rfl) rfl (by kernel_rfl)) ?_
 intro W b args ds p hA hval hsz hbulk
 rw[Tryz.params3] at hA hval hsz
 obtain⟨v0,vs0,d0,ds0,p0,q0,hargs,rfl,rfl,h0,r0⟩:=trodAll_cons hA
 obtain⟨v1,vs1,d1,ds1,p1,q1,rfl,rfl,rfl,h1,r1⟩:=trodAll_cons r0
 obtain⟨rfl,rfl,rfl⟩:=trodAll_nil r1
 have hargs':args=#[v0,v1]:=by apply Array.toList_inj.1;simpa using hargs
 subst hargs'
 have w0:=zcp _ _ hsz 0 _ _ rfl rfl
 obtain⟨cs0,a0,rfl,s0,m0⟩:=arg_struct dec_Frm Tryz.underlying25 (hval 0 25 _ rfl rfl) h0 w0
 have w1:=zcp _ _ hsz 1 _ _ rfl rfl
 obtain⟨cs1,a1,rfl,⟨rfl,i1⟩,m1⟩:=arg_struct dec_Pol Tryz.underlying27 (hval 1 27 _ rfl rfl) h1 w1
 simp only[Rows.uptoBulkAll] at hbulk
 exact law_EngineBegins W cs0 a0 s0 a1 i1 (Nat.le_trans m0 (by omega)) (Nat.le_trans m1 (by omega))
theorem EngineBeginsUpto_holds:Rows.EngineBeginsUptoSaid :=
 OpenClaim.holds_of_cond 3 Tryz.f3 rfl rfl rfl rfl rfl rfl rfl ⟨rfl,rfl,rfl,rfl,rfl⟩ rfl rfl rfl rfl rfl (by kernel_rfl) Tryz.func3 (by kernel_rfl)
  (of_decide_eq_true (by kernel_rfl)) (by unfold Func.isWrapper;rw[if_neg (of_decide_eq_false (by kernel_rfl))];exact⟨rfl,rfl⟩)
  (fun os started H enc _ FS=>EngineBeginsUpto_lifted os started H enc FS)
end Go.Proofs.YtldhlpjjcnlbcaaGreat
