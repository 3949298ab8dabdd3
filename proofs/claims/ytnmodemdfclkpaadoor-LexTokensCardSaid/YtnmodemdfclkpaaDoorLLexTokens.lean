/- The law LexTokens returns true for every input: lex.Tokens agrees with the reference. Listed: the variables of Go's library that reading numbers leans on, an error among them. -/
import Derived.Test.YtnmodemdfclkpaaDoorSentK
import Derived.Test.YtnmodemdfclkpaaDoorLx3
namespace Go.Proofs.YtnmodemdfclkpaaDoor
open Go.ChangeShapes Go.WideShapes Go.ChangeAt Go.RowKit

theorem tkn_wf (l:List Tkn):∀ a ∈ l,a.wf:=fun _ _ => trivial
theorem lexF_len (l:List UInt8):∀ (f p:Nat),p ≤ l.length → (lexF l f p).1.length + p ≤ l.length
 | 0,p,h => by rw [lexF];simpa using h
 | f + 1,p,h => by
  rw [lexF]
  split
  ·split
   ·have:=lexF_len l f (p + 1) (by omega)
    omega
   ·split
    ·rename_i h2
     have h1:=oneX_len h2
     rw [List.length_drop] at h1
     split
     ·have:=lexF_len l f (p + (oneX (l.drop p)).1.s.size) (by omega)
      simp only [List.length_cons]
      omega
     ·simpa using h
    ·simpa using h
  ·simpa using h
theorem lexX_len (l:List UInt8):(lexX l).1.length ≤ 160:=by
 unfold lexX
 split
 ·exact Nat.zero_le _
 ·rename_i h
  have:=lexF_len l (l.length + 1) 0 (Nat.zero_le _)
  omega
set_option maxHeartbeats 1000000 in
theorem law_LexTokens (w:World) (s:ByteArray) (hs:inS s) (hL:laidMetH Tryd.prog Rows.lexTokensRow.laid w) (_:w.ShapedOpen Tryd.prog) :
  Calls Tryd.prog 3 #[.string s] w fun e w' => e = .returned (.bool true) ∧ Below w.heap.size w w':=by
 have hg : GdR w := sent_of (by kernel_rfl) 3 "strconv.ErrRange" _ _ _ (by kernel_rfl) (by kernel_rfl) rfl hL
 have HG:=Lib.hid hg
 have h1:=fun w => lex_Tokens s w (inS_max hs)
 have h2:=fun w h => ref_LexTokens s w (inS_max hs) h
 have hln:=lexX_len s.data.toList
 clear hg hL
 generalize lexX s.data.toList = r at h1 h2 hln
 obtain ⟨l,a,c⟩:=r
 dsimp only at hln
 go_enter Tryd.func3,Tryd.ntmps3
 go_wp2_with fail
 refine (h1 _).mono ?_;rintro e w1 ⟨v1,rfl,ho1,hb1⟩;obtain ⟨hc1,hf1⟩:=bcell hb1;(try simp only [bqh,bqc,bqf] at hc1 hf1);have hz1:=hb1.size;(try simp at hz1);(try have hy1:=nl1 hz1);(try have hx1:=nl2 hy1);refine szz w1 w ?_;intros
 dsimp only at ho1 ⊢
 obtain ⟨A1,c1,rfl,_,hs1⟩:=ownTkn ho1 rfl (tkn_wf l)
 go_wp2_with fail
 refine (h2 _ (HG.out.keep bel)).mono ?_;rintro e w2 ⟨v2,rfl,ho2,hb2⟩;obtain ⟨hc2,hf2⟩:=bcell hb2;(try simp only [bqh,bqc,bqf] at hc2 hf2);have hz2:=hb2.size;(try simp at hz2);(try have hy2:=nl1 hz2);(try have hx2:=nl2 hy2);refine szz w2 w ?_;intros;refine szz w2 w1 ?_;intros
 dsimp only at ho2 ⊢
 obtain ⟨A2,c2,rfl,_,hs2⟩:=ownTkn ho2 rfl (tkn_wf l)
 have hl160:inL l.length:=by unfold inL;omega
 have HS1:=Lib.hid (hs1.now hb2)
 have HS2:=Lib.hid hs2
 clear hs1 hs2 ho1 ho2
 go_wp2_with (go_at_call 6;refine (same_Tokens A1 _ c1 l A2 _ c2 l _ hl160 hl160 HS1.out HS2.out).mono ?_;rintro e w3 ⟨rfl,hb3⟩;obtain ⟨hc3,hf3⟩:=bcell hb3;(try simp only [bqh,bqc,bqf] at hc3 hf3);have hz3:=hb3.size;(try simp at hz3);(try have hy3:=nl1 hz3);(try have hx3:=nl2 hy3);refine szz w3 w ?_;intros;refine szz w3 w2 ?_;intros)
 all_goals
  go_ret
  exact ⟨ret_bool (by simp),bel⟩
theorem LexTokens_reads (os:Os) {H:Type} (enc:TypeId × Value → H):∃ places,DataW.whole enc Tryd.checked.prog ((World.laidAll Tryd.checked.prog os Rows.lexTokensRow.laid).forCall (fun _ _ => 0) ⟨#[],#[.string ByteArray.empty],[]⟩).memory Tryd.f3.params.toList Rows.lexTokensSpec.vars false #[.string ByteArray.empty].toList 8 = some ([.lit (.string [])],[],places) :=
 ⟨[],by kernel_rfl⟩
set_option maxRecDepth 100000 in
theorem LexTokens_lifted (os:Os) (started:os.Started) (H:Type) (enc:TypeId × Value → H) (FS:Stop.Interp) :
  ReturnsInHanded {} Tryd.checked os 3 .any ((OpenSpec.ofChange Rows.lexTokensSpec).preRow enc Tryd.checked.prog Tryd.f3 Rows.lexTokensRow.domain false Rows.lexTokensRow.laid) (((OpenSpec.ofChange Rows.lexTokensSpec).at FS).post enc Tryd.checked.prog Tryd.f3 false true false false):=by
 obtain ⟨places,hx⟩:=LexTokens_reads os enc
 refine law_lifted_laid (s:=Rows.lexTokensSpec) (FS:=FS) started (by kernel_rfl) Tryd.func3 (by rw [Tryd.params3];exact of_decide_eq_true (by kernel_rfl)) rfl rfl
  (fun ds hl => by rw [show Tryd.f3.params.size = 1 from rfl] at hl;match ds,hl with | [d0],_ => rfl)
  (witness_zip (World.laidAll Tryd.checked.prog os Rows.lexTokensRow.laid) #[.string ByteArray.empty] (World.laidAll_os _ _ _) (World.shaped_of_ZipB (by kernel_rfl) (by kernel_rfl)) (by kernel_rfl)
   (OpenSpec.preRow_of_cond 8 hx (by kernel_rfl) (fun k hk => by cases hk) (by kernel_rfl) (by rw [MakeChecks.laidMetH_plain _ _ _ (by kernel_rfl)];exact laidMet_laidAll _ (by kernel_rfl) (by kernel_rfl)))) ?_
 intro W b args ds p hA hval hsz hL hsh
 rw [Tryd.params3] at hA hval hsz
 obtain ⟨v0,vs0,d0,ds0,p0,q0,hargs,rfl,rfl,h0,r0⟩:=trodAll_cons hA
 obtain ⟨rfl,rfl,rfl⟩:=trodAll_nil r0
 have hargs':args = #[v0]:=by apply Array.toList_inj.1;simpa using hargs
 subst hargs'
 have w0:=weightsEach_at _ _ hsz 0 _ _ rfl rfl
 obtain ⟨a0,rfl,i0,m0⟩:=arg_str Tryd.underlying9 (hval 0 9 _ rfl rfl) h0 w0
 exact law_LexTokens W a0 i0  hL hsh
theorem LexTokens_row:Rows.LexTokensSaid :=
 OpenClaim.holds_of_cond 3 Tryd.f3 rfl rfl rfl rfl rfl rfl rfl ⟨rfl,rfl,rfl,rfl,rfl⟩ rfl rfl rfl rfl rfl (by kernel_rfl) Tryd.func3 (by kernel_rfl)
  (of_decide_eq_true (by kernel_rfl)) (by unfold Func.isWrapper;first | (rw [if_pos (by decide +kernel)];kernel_rfl) | (rw [if_neg (by decide +kernel)];exact ⟨rfl,rfl⟩))
  (fun os started H enc _ FS => by rw [OpenClaim.pre_eq_preRow];exact LexTokens_lifted os started H enc FS)
theorem LexTokens_plain (f : FuncId) (fn : Func) (hf : Tryd.pinned.checked.prog.funcNamed "lychway/lychwaylaw.LexTokens" = some f) (hfn : Tryd.pinned.checked.prog.funcs[f]? = some fn) :
  true = Tryd.pinned.checked.prog.looks [] ∧ ∀ (j:Nat) t,fn.params[j]? = some t → Tryd.pinned.checked.prog.wantsStandIn t = false:=by
 obtain rfl : f = 3 := Option.some.inj ((show Tryd.prog.funcNamed "lychway/lychwaylaw.LexTokens" = some 3 by kernel_rfl).symm.trans hf) |>.symm
 obtain rfl:fn = Tryd.f3:=(Option.some.inj (Tryd.func3.symm.trans hfn)).symm
 refine ⟨by kernel_rfl,fun j t ht => ?_⟩
 have hall:(Tryd.f3.params.toList.all fun u => !Tryd.prog.wantsStandIn u) = true:=by kernel_rfl
 have hm:t ∈ Tryd.f3.params.toList:=Array.mem_toList_iff.2 (Array.mem_of_getElem? ht)
 exact (show Tryd.prog.wantsStandIn t = false by simpa using List.all_eq_true.1 hall t hm)
theorem LexTokens_holds:Rows.LexTokensCardSaid :=
 Claim7.holds_tied_plain_at .later [] _ _ _ _ LexTokens_row (fun _ h => by cases h) (by kernel_rfl) (fun _ h => by cases h) lexTokens_row_tie rfl ⟨rfl,rfl⟩ (by kernel_rfl) rfl LexTokens_plain (by kernel_rfl)
end Go.Proofs.YtnmodemdfclkpaaDoor
