/- The law ExprPrints returns true for every input of bulk at most 1048576: expr.Print agrees with the reference. Listed: the variables of Go's library that the shown numbers lean on. -/
import Derived.Test.YtldhlpjjcnlbcaaDoorOpen
import Derived.Test.YtldhlpjjcnlbcaaDoorGdKit
import Derived.Test.YtldhlpjjcnlbcaaDoorPrn4
import Derived.Test.YtldhlpjjcnlbcaaDoorRfP
namespace Go.Proofs.YtldhlpjjcnlbcaaDoor
open Go.ChangeShapes Go.WideShapes Go.ChangeAt Go.RowKit

mutual
theorem bulk_nodes:∀ x:Exp,x.nodes ≤ x.bulk
 | .mk op v nm args => by
  have:=bulks_nodes args
  simp only [Exp.bulk,Exp.nodes]
  omega
theorem bulks_nodes:∀ l:List Exp,nodesL l ≤ Exp.bulk.bulks l
 | [] => by simp [nodesL]
 | a :: l => by
  have:=bulk_nodes a
  have:=bulks_nodes l
  simp only [Exp.bulk.bulks,nodesL]
  omega
end
theorem printR_len {x:Exp} (hM:x.nodes ≤ 1048576):(printR x).1.size ≤ maxLen:=by
 unfold printR
 split
 ·exact Nat.zero_le _
 ·rename_i h
  have hp:prtN x = 0:=by
   have h:=Classical.not_not.1 h
   unfold exprErr at h
   split at h
   ·cases h
   ·split at h
    ·cases h
    ·exact h
  have:=prX_len x hp
  show (prX x).size ≤ maxLen
  unfold maxLen
  omega
set_option maxHeartbeats 2000000 in
theorem law_ExprPrints (w:World) (cs:List Value) (x:Exp) (hx:XRep w (old w) cs x) (hb:x.bulk ≤ 1048576) (hL:laidMetH Tryd.prog Rows.exprPrintsUptoRow.laid w) (hsh:w.ShapedOpen Tryd.prog) :
  Calls Tryd.prog 3 #[.agg cs.toArray] w fun e w' => e = .returned (.bool true) ∧ Below w.heap.size w w':=by
 have hg:Gd w:=gd_of (by kernel_rfl) 2 _ rfl hL hsh
 obtain ⟨A,c,rfl,_⟩:=hx.open_
 have hN:x.nodes ≤ 1048576:=Nat.le_trans (bulk_nodes x) hb
 have HG:=Lib.hid hg
 have HX:=Lib.hid hx
 have h1:=fun w h h' => expr_Print x A c w hN h h'
 have h2:=fun w h h' => ref_ExprText x A c w hN h h'
 have hln:=printR_len hN
 clear hg hL hsh hx hb hN
 generalize printR x = r at h1 h2 hln
 obtain ⟨s,er⟩:=r
 dsimp only at h1 h2 hln
 go_enter Tryd.func3,Tryd.ntmps3
 go_wp2_with fail
 refine (h1 _ (HG.out.keep bel) (HX.out.keep (old_keep bel))).mono ?_;rintro e w1 ⟨rfl,hb1⟩;obtain ⟨hc1,hf1⟩:=bcell hb1;(try simp only [bqh,bqc,bqf] at hc1 hf1);have hz1:=hb1.size;(try simp at hz1);(try have hy1:=nl1 hz1);(try have hx1:=nl2 hy1);refine szz w1 w ?_;intros
 go_wp2_with fail
 refine (h2 _ (HG.out.keep bel) (HX.out.keep (old_keep bel))).mono ?_;rintro e w2 ⟨rfl,hb2⟩;obtain ⟨hc2,hf2⟩:=bcell hb2;(try simp only [bqh,bqc,bqf] at hc2 hf2);have hz2:=hb2.size;(try simp at hz2);(try have hy2:=nl1 hz2);(try have hx2:=nl2 hy2);refine szz w2 w ?_;intros;refine szz w2 w1 ?_;intros
 go_wp2_with fail
 go_ret
 exact ⟨rfl,bel⟩
theorem ExprPrintsUpto_reads (os:Os) {H:Type} (enc:TypeId × Value → H):∃ places,DataW.whole enc Tryd.checked.prog ((World.laidAll Tryd.checked.prog os Rows.exprPrintsUptoRow.laid).forCall (fun _ _ => 0) ⟨#[],#[.agg #[.int .i64 0,.int .i64 0,.int .i64 0,.string ByteArray.empty,.string ByteArray.empty,.slice none 0 0]],[]⟩).memory Tryd.f3.params.toList Rows.exprPrintsSpec.vars false #[.agg #[.int .i64 0,.int .i64 0,.int .i64 0,.string ByteArray.empty,.string ByteArray.empty,.slice none 0 0]].toList 8 = some ([.agg [.lit (.int .i64 0),.agg [.lit (.int .i64 0),.lit (.int .i64 0),.lit (.string [])],.lit (.string []),.nil]],[],places) :=
 ⟨[],by kernel_rfl⟩
set_option maxRecDepth 100000 in
theorem ExprPrintsUpto_lifted (os:Os) (started:os.Started) (H:Type) (enc:TypeId × Value → H) (FS:Stop.Interp) :
  ReturnsInHanded {} Tryd.checked os 3 .any ((Rows.OpenSpec.upto Rows.exprPrintsSpec).preRow enc Tryd.checked.prog Tryd.f3 Rows.exprPrintsUptoRow.domain false Rows.exprPrintsUptoRow.laid) (((Rows.OpenSpec.upto Rows.exprPrintsSpec).at FS).post enc Tryd.checked.prog Tryd.f3 false true false false):=by
 obtain ⟨places,hx⟩:=ExprPrintsUpto_reads os enc
 refine law_lifted_laid_upto (s:=Rows.exprPrintsSpec) (FS:=FS) started (by kernel_rfl) Tryd.func3 (by rw [Tryd.params3];exact of_decide_eq_true (by kernel_rfl)) rfl rfl
  (fun ds hl => by rw [show Tryd.f3.params.size = 1 from rfl] at hl;match ds,hl with | [d0],_ => rfl)
  (witness_zip (World.laidAll Tryd.checked.prog os Rows.exprPrintsUptoRow.laid) #[.agg #[.int .i64 0,.int .i64 0,.int .i64 0,.string ByteArray.empty,.string ByteArray.empty,.slice none 0 0]] (World.laidAll_os _ _ _) (World.shaped_of_ZipB (by kernel_rfl) (by kernel_rfl)) (by kernel_rfl)
   (OpenSpec.preRow_of_cond 8 hx (by kernel_rfl) (fun k hk => by cases hk;kernel_rfl) (by kernel_rfl) (by rw [MakeChecks.laidMetH_plain _ _ _ (by kernel_rfl)];exact laidMet_laidAll _ (by kernel_rfl) (by kernel_rfl)))) ?_
 intro W b args ds p hA hval hsz hbulk hL hsh
 rw [Tryd.params3] at hA hval hsz
 obtain ⟨v0,vs0,d0,ds0,p0,q0,hargs,rfl,rfl,h0,r0⟩:=trodAll_cons hA
 obtain ⟨rfl,rfl,rfl⟩:=trodAll_nil r0
 have hargs':args = #[v0]:=by apply Array.toList_inj.1;simpa using hargs
 subst hargs'
 have w0:=weightsEach_at _ _ hsz 0 _ _ rfl rfl
 obtain ⟨cs0,a0,rfl,s0,m0⟩:=arg_struct dec_Exp Tryd.underlying26 (hval 0 26 _ rfl rfl) h0 w0
 simp only [Rows.uptoBulkAll] at hbulk
 exact law_ExprPrints W cs0 a0 s0 (Nat.le_trans m0 (by omega)) hL hsh
theorem ExprPrintsUpto_row:Rows.ExprPrintsUptoSaid :=
 OpenClaim.holds_of_cond 3 Tryd.f3 rfl rfl rfl rfl rfl rfl rfl ⟨rfl,rfl,rfl,rfl,rfl⟩ rfl rfl rfl rfl rfl (by kernel_rfl) Tryd.func3 (by kernel_rfl)
  (of_decide_eq_true (by kernel_rfl)) (by unfold Func.isWrapper;first | (rw [if_pos (by decide +kernel)];kernel_rfl) | (rw [if_neg (by decide +kernel)];exact ⟨rfl,rfl⟩))
  (fun os started H enc _ FS => by rw [OpenClaim.pre_eq_preRow];exact ExprPrintsUpto_lifted os started H enc FS)
theorem ExprPrintsUpto_plain (f : FuncId) (fn : Func) (hf : Tryd.pinned.checked.prog.funcNamed "lychway/lychwaylaw.ExprPrints" = some f) (hfn : Tryd.pinned.checked.prog.funcs[f]? = some fn) :
  true = Tryd.pinned.checked.prog.looks [] ∧ ∀ (j:Nat) t,fn.params[j]? = some t → Tryd.pinned.checked.prog.wantsStandIn t = false:=by
 obtain rfl : f = 3 := Option.some.inj ((show Tryd.prog.funcNamed "lychway/lychwaylaw.ExprPrints" = some 3 by kernel_rfl).symm.trans hf) |>.symm
 obtain rfl:fn = Tryd.f3:=(Option.some.inj (Tryd.func3.symm.trans hfn)).symm
 refine ⟨by kernel_rfl,fun j t ht => ?_⟩
 have hall:(Tryd.f3.params.toList.all fun u => !Tryd.prog.wantsStandIn u) = true:=by kernel_rfl
 have hm:t ∈ Tryd.f3.params.toList:=Array.mem_toList_iff.2 (Array.mem_of_getElem? ht)
 exact (show Tryd.prog.wantsStandIn t = false by simpa using List.all_eq_true.1 hall t hm)
theorem ExprPrintsUpto_holds:Rows.ExprPrintsUptoCardSaid :=
 Claim7.holds_tied_plain_at .later [] _ _ _ _ ExprPrintsUpto_row (fun _ h => by cases h) (by kernel_rfl) (fun _ h => by cases h) exprPrintsUpto_row_tie rfl ⟨rfl,rfl⟩ (by kernel_rfl) rfl ExprPrintsUpto_plain (by kernel_rfl)
end Go.Proofs.YtldhlpjjcnlbcaaDoor
