/- The law ExprParses returns true for every input: expr.Parse agrees with the reference. Listed: the variables of Go's library that reading numbers leans on, two errors among them. -/
import Derived.Test.YtldbpmlgbbomcaaGreatDoorSentK
import Derived.Test.YtldbpmlgbbomcaaGreatDoorSamf
import Derived.Test.YtldbpmlgbbomcaaGreatDoorCb5
namespace Go.Proofs.YtldbpmlgbbomcaaGreatDoor
open Go.ChangeShapes Go.WideShapes Go.ChangeAt Go.RowKit

set_option maxHeartbeats 1000000 in
theorem law_ExprParses (w:World) (s:ByteArray) (hs:inS s) (hL:laidMetH Tryz.prog Rows.exprParsesRow.laid w) (hsh:w.ShapedOpen Tryz.prog) :
  Calls Tryz.prog 3 #[.string s] w fun e w' => e = .returned (.bool true) ∧ Below w.heap.size w w':=by
 have hg : GdA w := ⟨gd_of (by kernel_rfl) 2 _ rfl hL hsh, sent_of (by kernel_rfl) 5 "strconv.ErrSyntax" _ _ _ (by kernel_rfl) (by kernel_rfl) rfl hL, sent_of (by kernel_rfl) 4 "strconv.ErrRange" _ _ _ (by kernel_rfl) (by kernel_rfl) rfl hL⟩
 have HG:=Lib.hid hg
 have h1:=fun w h => expr_Parse s w hs h
 have h2:=fun w h => ref_ExprOf s w hs h
 clear hg hL hsh
 generalize parseX s = r at h1 h2
 obtain ⟨x,n,c⟩:=r
 go_enter Tryz.func3,Tryz.ntmps3
 go_wp2_with fail
 refine (h1 _ (HG.out.keep bel)).mono ?_;rintro e w1 ⟨A1,c1,rfl,hx1,hb1⟩;obtain ⟨hc1,hf1⟩:=bcell hb1;(try simp only [bqh,bqc,bqf] at hc1 hf1);have hz1:=hb1.size;(try simp at hz1);(try have hy1:=nl1 hz1);(try have hx1:=nl2 hy1);refine szz w1 w ?_;intros
 go_wp2_with fail
 refine (h2 _ (GdR.keep HG.out.2.2 bel)).mono ?_;rintro e w2 ⟨A2,c2,rfl,hx2,hb2⟩;obtain ⟨hc2,hf2⟩:=bcell hb2;(try simp only [bqh,bqc,bqf] at hc2 hf2);have hz2:=hb2.size;(try simp at hz2);(try have hy2:=nl1 hz2);(try have hx2:=nl2 hy2);refine szz w2 w ?_;intros;refine szz w2 w1 ?_;intros
 go_wp2_with fail
 have hb12:Below w1.heap.size w1 w2:=bel
 have hx1':=hx1.keep (S':=old w2) (fun b hb => ⟨Nat.lt_of_lt_of_le hb.2 hb12.size,hb12.block b hb.2⟩)
 have hx2':=hx2.keep (S':=old w2) (fun b hb => ⟨hb.2,rfl⟩)
 have HX:=Lib.hid (And.intro hx1' hx2')
 clear hx1 hx2 hx1' hx2'
 go_wp2_with (go_at_call 8;refine (same_Expr _ x A1 c1 A2 c2 _ (Nat.le_refl _) (HX.out.1.keep (old_keep bel)) (HX.out.2.keep (old_keep bel))).mono ?_;rintro e w3 ⟨rfl,hb3⟩;obtain ⟨hc3,hf3⟩:=bcell hb3;(try simp only [bqh,bqc,bqf] at hc3 hf3);have hz3:=hb3.size;(try simp at hz3);(try have hy3:=nl1 hz3);(try have hx3:=nl2 hy3);refine szz w3 w ?_;intros;refine szz w3 w1 ?_;intros;refine szz w3 w2 ?_;intros)
 go_ret
 exact ⟨rfl,bel⟩
theorem ExprParses_reads (os:Os) {H:Type} (enc:TypeId × Value → H):∃ places,DataW.whole enc Tryz.checked.prog ((World.laidAll Tryz.checked.prog os Rows.exprParsesRow.laid).forCall (fun _ _ => 0) ⟨#[],#[.string ByteArray.empty],[]⟩).memory Tryz.f3.params.toList Rows.exprParsesSpec.vars false #[.string ByteArray.empty].toList 8 = some ([.lit (.string [])],[],places) :=
 ⟨[],by kernel_rfl⟩
set_option maxRecDepth 100000 in
theorem ExprParses_lifted (os:Os) (started:os.Started) (H:Type) (enc:TypeId × Value → H) (FS:Stop.Interp) :
  ReturnsInHanded {} Tryz.checked os 3 .any ((OpenSpec.ofChange Rows.exprParsesSpec).preRow enc Tryz.checked.prog Tryz.f3 Rows.exprParsesRow.domain false Rows.exprParsesRow.laid) (((OpenSpec.ofChange Rows.exprParsesSpec).at FS).post enc Tryz.checked.prog Tryz.f3 false true false false):=by
 obtain ⟨places,hx⟩:=ExprParses_reads os enc
 refine law_lifted_laid (s:=Rows.exprParsesSpec) (FS:=FS) started (by kernel_rfl) Tryz.func3 (by rw [Tryz.params3];exact of_decide_eq_true (by kernel_rfl)) rfl rfl
  (fun ds hl => by rw [show Tryz.f3.params.size = 1 from rfl] at hl;match ds,hl with | [d0],_ => rfl)
  (witness_zip (World.laidAll Tryz.checked.prog os Rows.exprParsesRow.laid) #[.string ByteArray.empty] (World.laidAll_os _ _ _) (World.shaped_of_ZipB (by kernel_rfl) (by kernel_rfl)) (by kernel_rfl)
   (OpenSpec.preRow_of_cond 8 hx (by kernel_rfl) (fun k hk => by cases hk) (by kernel_rfl) (by rw [MakeChecks.laidMetH_plain _ _ _ (by kernel_rfl)];exact laidMet_laidAll _ (by kernel_rfl) (by kernel_rfl)))) ?_
 intro W b args ds p hA hval hsz hL hsh
 rw [Tryz.params3] at hA hval hsz
 obtain ⟨v0,vs0,d0,ds0,p0,q0,hargs,rfl,rfl,h0,r0⟩:=trodAll_cons hA
 obtain ⟨rfl,rfl,rfl⟩:=trodAll_nil r0
 have hargs':args = #[v0]:=by apply Array.toList_inj.1;simpa using hargs
 subst hargs'
 have w0:=weightsEach_at _ _ hsz 0 _ _ rfl rfl
 obtain ⟨a0,rfl,i0,m0⟩:=arg_str Tryz.underlying9 (hval 0 9 _ rfl rfl) h0 w0
 exact law_ExprParses W a0 i0  hL hsh
theorem ExprParses_row:Rows.ExprParsesSaid :=
 OpenClaim.holds_of_cond 3 Tryz.f3 rfl rfl rfl rfl rfl rfl rfl ⟨rfl,rfl,rfl,rfl,rfl⟩ rfl rfl rfl rfl rfl (by kernel_rfl) Tryz.func3 (by kernel_rfl)
  (of_decide_eq_true (by kernel_rfl)) (by unfold Func.isWrapper;first | (rw [if_pos (by decide +kernel)];kernel_rfl) | (rw [if_neg (by decide +kernel)];exact ⟨rfl,rfl⟩))
  (fun os started H enc _ FS => by rw [OpenClaim.pre_eq_preRow];exact ExprParses_lifted os started H enc FS)
theorem ExprParses_plain (f : FuncId) (fn : Func) (hf : Tryz.pinned.checked.prog.funcNamed "lychway/lychwaylaw.ExprParses" = some f) (hfn : Tryz.pinned.checked.prog.funcs[f]? = some fn) :
  true = Tryz.pinned.checked.prog.looks [] ∧ ∀ (j:Nat) t,fn.params[j]? = some t → Tryz.pinned.checked.prog.wantsStandIn t = false:=by
 obtain rfl : f = 3 := Option.some.inj ((show Tryz.prog.funcNamed "lychway/lychwaylaw.ExprParses" = some 3 by kernel_rfl).symm.trans hf) |>.symm
 obtain rfl:fn = Tryz.f3:=(Option.some.inj (Tryz.func3.symm.trans hfn)).symm
 refine ⟨by kernel_rfl,fun j t ht => ?_⟩
 have hall:(Tryz.f3.params.toList.all fun u => !Tryz.prog.wantsStandIn u) = true:=by kernel_rfl
 have hm:t ∈ Tryz.f3.params.toList:=Array.mem_toList_iff.2 (Array.mem_of_getElem? ht)
 exact (show Tryz.prog.wantsStandIn t = false by simpa using List.all_eq_true.1 hall t hm)
theorem ExprParses_holds:Rows.ExprParsesCardSaid :=
 Claim7.holds_tied_plain_at .later [] _ _ _ _ ExprParses_row (fun _ h => by cases h) (by kernel_rfl) (fun _ h => by cases h) exprParses_row_tie rfl ⟨rfl,rfl⟩ (by kernel_rfl) rfl ExprParses_plain (by kernel_rfl)
end Go.Proofs.YtldbpmlgbbomcaaGreatDoor
