/- The law TextPrints returns true for every input of bulk at most 1048576: text.Print agrees with the reference. Listed: the variables of Go's library that the shown numbers lean on. -/
import Derived.Test.YtldbpmlgbbomcaaGreatDoorOpen
import Derived.Test.YtldbpmlgbbomcaaGreatDoorGdKit
import Derived.Test.YtldbpmlgbbomcaaGreatDoorRfX2
namespace Go.Proofs.YtldbpmlgbbomcaaGreatDoor
open Go.ChangeShapes Go.WideShapes Go.ChangeAt Go.RowKit

theorem mem_sum {α:Type} (g:α → Nat):∀ (l:List α) (a:α),a ∈ l → g a ≤ (l.map g).sum
 | b :: l,a,h => by
  simp only [List.map_cons,List.sum_cons]
  rcases List.mem_cons.1 h with rfl | h
  ·omega
  ·have:=mem_sum g l a h
   omega
theorem frm_B {f:Frm} (hb:f.bulk ≤ 1048576):FrmB f.fields f.pages:=by
 unfold Frm.bulk at hb
 refine ⟨fun x hx => ?_,fun p hp => ?_⟩
 ·have:=mem_sum Fld.bulk f.fields x hx
  have e:x.bulk = x.name.size + x.source.bulk + 1:=rfl
  omega
 ·have:=mem_sum Pag.bulk f.pages p hp
  have e:p.bulk = p.name.size + (p.fields.map fun s => s.size + 1).sum + p.skip.bulk + 1:=rfl
  have:=bulk_nodes p.skip
  exact ⟨by omega,by omega,by omega⟩
set_option maxHeartbeats 2000000 in
theorem law_TextPrints (w:World) (cs:List Value) (f:Frm) (hf:RFrm w (old w) cs f) (hb:f.bulk ≤ 1048576) (hL:laidMetH Tryz.prog Rows.textPrintsUptoRow.laid w) (hsh:w.ShapedOpen Tryz.prog) :
  Calls Tryz.prog 4 #[.agg cs.toArray] w fun e w' => e = .returned (.bool true) ∧ Below w.heap.size w w':=by
 have hg:Gd w:=gd_of (by kernel_rfl) 2 _ rfl hL hsh
 obtain ⟨A,n,c,A2,n2,c2,rfl,hX,hO⟩:=hf.parts hb
 have hB:=frm_B hb
 have HG:=Lib.hid hg
 have HX:=Lib.hid hX
 have h1:=fun w h h' => text_Print A n c f.fields A2 n2 c2 f.pages w h hO hB h'
 have h2:=fun w h h' => ref_FormText A n c f.fields A2 n2 c2 f.pages w h hO hB h'
 have hln:(formTR f.fields f.pages).1.size ≤ 2300000000:=by
  unfold formTR
  split
  ·rename_i he;exact (linesT_len he hO hB).2.2
  ·exact Nat.zero_le _
 clear hg hL hsh hX hO hB hb hf
 generalize formTR f.fields f.pages = r at h1 h2 hln
 obtain ⟨s,er⟩:=r
 dsimp only at h1 h2 hln
 go_enter Tryz.func4,Tryz.ntmps4
 go_wp2_with fail
 refine (h1 _ (HX.out.now bel) (HG.out.keep bel)).mono ?_;rintro e w1 ⟨rfl,hb1⟩;obtain ⟨hc1,hf1⟩:=bcell hb1;(try simp only [bqh,bqc,bqf] at hc1 hf1);have hz1:=hb1.size;(try simp at hz1);(try have hy1:=nl1 hz1);(try have hx1:=nl2 hy1);refine szz w1 w ?_;intros
 go_wp2_with fail
 refine (h2 _ (HX.out.now bel) (HG.out.keep bel)).mono ?_;rintro e w2 ⟨rfl,hb2⟩;obtain ⟨hc2,hf2⟩:=bcell hb2;(try simp only [bqh,bqc,bqf] at hc2 hf2);have hz2:=hb2.size;(try simp at hz2);(try have hy2:=nl1 hz2);(try have hx2:=nl2 hy2);refine szz w2 w ?_;intros;refine szz w2 w1 ?_;intros
 go_wp2_with fail
 go_ret
 exact ⟨rfl,bel⟩
theorem TextPrintsUpto_reads (os:Os) {H:Type} (enc:TypeId × Value → H):∃ places,DataW.whole enc Tryz.checked.prog ((World.laidAll Tryz.checked.prog os Rows.textPrintsUptoRow.laid).forCall (fun _ _ => 0) ⟨#[],#[.agg #[.slice none 0 0,.slice none 0 0]],[]⟩).memory Tryz.f4.params.toList Rows.textPrintsSpec.vars false #[.agg #[.slice none 0 0,.slice none 0 0]].toList 8 = some ([.agg [.nil,.nil]],[],places) :=
 ⟨[],by kernel_rfl⟩
set_option maxRecDepth 100000 in
theorem TextPrintsUpto_lifted (os:Os) (started:os.Started) (H:Type) (enc:TypeId × Value → H) (FS:Stop.Interp) :
  ReturnsInHanded {} Tryz.checked os 4 .any ((Rows.OpenSpec.upto Rows.textPrintsSpec).preRow enc Tryz.checked.prog Tryz.f4 Rows.textPrintsUptoRow.domain false Rows.textPrintsUptoRow.laid) (((Rows.OpenSpec.upto Rows.textPrintsSpec).at FS).post enc Tryz.checked.prog Tryz.f4 false true false false):=by
 obtain ⟨places,hx⟩:=TextPrintsUpto_reads os enc
 refine law_lifted_laid_upto (s:=Rows.textPrintsSpec) (FS:=FS) started (by kernel_rfl) Tryz.func4 (by rw [Tryz.params4];exact of_decide_eq_true (by kernel_rfl)) rfl rfl
  (fun ds hl => by rw [show Tryz.f4.params.size = 1 from rfl] at hl;match ds,hl with | [d0],_ => rfl)
  (witness_zip (World.laidAll Tryz.checked.prog os Rows.textPrintsUptoRow.laid) #[.agg #[.slice none 0 0,.slice none 0 0]] (World.laidAll_os _ _ _) (World.shaped_of_ZipB (by kernel_rfl) (by kernel_rfl)) (by kernel_rfl)
   (OpenSpec.preRow_of_cond 8 hx (by kernel_rfl) (fun k hk => by cases hk;kernel_rfl) (by kernel_rfl) (by rw [MakeChecks.laidMetH_plain _ _ _ (by kernel_rfl)];exact laidMet_laidAll _ (by kernel_rfl) (by kernel_rfl)))) ?_
 intro W b args ds p hA hval hsz hbulk hL hsh
 rw [Tryz.params4] at hA hval hsz
 obtain ⟨v0,vs0,d0,ds0,p0,q0,hargs,rfl,rfl,h0,r0⟩:=trodAll_cons hA
 obtain ⟨rfl,rfl,rfl⟩:=trodAll_nil r0
 have hargs':args = #[v0]:=by apply Array.toList_inj.1;simpa using hargs
 subst hargs'
 have w0:=weightsEach_at _ _ hsz 0 _ _ rfl rfl
 obtain ⟨cs0,a0,rfl,s0,m0⟩:=arg_struct dec_Frm Tryz.underlying35 (hval 0 35 _ rfl rfl) h0 w0
 simp only [Rows.uptoBulkAll] at hbulk
 exact law_TextPrints W cs0 a0 s0 (Nat.le_trans m0 (by omega)) hL hsh
theorem TextPrintsUpto_row:Rows.TextPrintsUptoSaid :=
 OpenClaim.holds_of_cond 4 Tryz.f4 rfl rfl rfl rfl rfl rfl rfl ⟨rfl,rfl,rfl,rfl,rfl⟩ rfl rfl rfl rfl rfl (by kernel_rfl) Tryz.func4 (by kernel_rfl)
  (of_decide_eq_true (by kernel_rfl)) (by unfold Func.isWrapper;first | (rw [if_pos (by decide +kernel)];kernel_rfl) | (rw [if_neg (by decide +kernel)];exact ⟨rfl,rfl⟩))
  (fun os started H enc _ FS => by rw [OpenClaim.pre_eq_preRow];exact TextPrintsUpto_lifted os started H enc FS)
theorem TextPrintsUpto_plain (f : FuncId) (fn : Func) (hf : Tryz.pinned.checked.prog.funcNamed "lychway/lychwaylaw.TextPrints" = some f) (hfn : Tryz.pinned.checked.prog.funcs[f]? = some fn) :
  true = Tryz.pinned.checked.prog.looks [] ∧ ∀ (j:Nat) t,fn.params[j]? = some t → Tryz.pinned.checked.prog.wantsStandIn t = false:=by
 obtain rfl : f = 4 := Option.some.inj ((show Tryz.prog.funcNamed "lychway/lychwaylaw.TextPrints" = some 4 by kernel_rfl).symm.trans hf) |>.symm
 obtain rfl:fn = Tryz.f4:=(Option.some.inj (Tryz.func4.symm.trans hfn)).symm
 refine ⟨by kernel_rfl,fun j t ht => ?_⟩
 have hall:(Tryz.f4.params.toList.all fun u => !Tryz.prog.wantsStandIn u) = true:=by kernel_rfl
 have hm:t ∈ Tryz.f4.params.toList:=Array.mem_toList_iff.2 (Array.mem_of_getElem? ht)
 exact (show Tryz.prog.wantsStandIn t = false by simpa using List.all_eq_true.1 hall t hm)
theorem TextPrintsUpto_holds:Rows.TextPrintsUptoCardSaid :=
 Claim7.holds_tied_plain_at .later [] _ _ _ _ TextPrintsUpto_row (fun _ h => by cases h) (by kernel_rfl) (fun _ h => by cases h) textPrintsUpto_row_tie rfl ⟨rfl,rfl⟩ (by kernel_rfl) rfl TextPrintsUpto_plain (by kernel_rfl)
end Go.Proofs.YtldbpmlgbbomcaaGreatDoor
