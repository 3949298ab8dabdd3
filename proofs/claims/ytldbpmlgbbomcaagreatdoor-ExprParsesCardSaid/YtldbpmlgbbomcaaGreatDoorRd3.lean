/- The reader of formulas: the arguments of a call. -/
import Derived.Test.YtldbpmlgbbomcaaGreatDoorRd2
namespace Go.Proofs.YtldbpmlgbbomcaaGreatDoor
open Go.RowKit

theorem bes_chain {R:Nat} {a b c:World} (h:Bes R a b) (k:Bes R b c):Bes R a c:=h.trans k
theorem beside_of {base:Nat} {v:Value} {acc:List Exp} {wr w2:World} {S:Nat → Prop} {cs:List Value} {x:Exp} (ho:Own wr base 26 6 XRep v acc) (hx:XRep w2 S cs x) (hS:∀ b,S b → wr.heap.size ≤ b ∧ b < w2.heap.size) (hb:base ≤ wr.heap.size):XRep w2 (beside base v w2) cs x :=
 hx.keep fun b hb' => ⟨⟨by have:=(hS b hb').1;omega,(hS b hb').2,fun e => by have h1:=(ho.lt b e.symm).2;have h2:=(hS b hb').1;omega⟩,rfl⟩
set_option maxRecDepth 100000 in
set_option maxHeartbeats 4000000 in
theorem reader_args (T0 R:Nat) (en:Int) (n:Nat) (ih:LevN T0 R en n) (k:Nat) (hk:k ≤ 3) (ts:List Tkn) (w:World) (hts:ts.length ≤ n) (hok:TokOk ts) (hgR:GlobR R) (hg:GdA w) (hs:RdS T0 w R ts en) :
  Calls Tryz.prog 128 #[.pointer (some ⟨R,0,none⟩),.int .i64 k] w (LPost T0 R en w (rdArgs k tOpen [] ts)):=by
 obtain ⟨G,hG⟩:∃ G,G = rdArgs k tOpen [] ts:=⟨_,rfl⟩
 rw [← hG]
 obtain ⟨i0,ei,ez0,ez1,ez2⟩:=info_parts Tryz.infoExpR
 have hRlt:=hs.lt
 have HG:=Lib.hid hG
 have HS:=Lib.hid hs
 have IH:=Lib.hid ih
 have HGR:=Lib.hid hgR
 have HOK:=Lib.hid hok
 have HGA:=Lib.hid hg
 clear hG hs ih hgR hok hg
 go_enter Tryz.func128,Tryz.ntmps128
 go_wp2_with fail
 go_loopw [5,8] (fun v i wr => ∃ (j:Nat) (acc:List Exp) (r:List Tkn),j ≤ k ∧ acc.length = j ∧ i = .int .i64 j ∧ Hid (Own wr w.heap.size 26 6 XRep v acc) ∧ Hid (RdS T0 wr R r en) ∧ Hid (r.length ≤ n ∧ TokOk r) ∧ Hid (rdArgs (k - j) (gAt j) acc r = G) ∧ Bes R w wr) (fun _ i _ => k - (intOf i).toNat)
 case atStart => exact ⟨0,[],ts,by omega,rfl,rfl,Lib.hid Own.nil,HS,Lib.hid ⟨hts,HOK.out⟩,Lib.hid HG.out.symm,Bes.refl _ _⟩
 case round =>
  obtain ⟨j,acc,r,hj,hacc,rfl,hown,hrs,hr,hrd,hb⟩:=hrel
  have hzw:=hb.size
  by_cases hlt:j < k
  ·have hjk:(j:Int) < (k:Int):=by omega
   have hkj:k - j = (k - (j + 1)) + 1:=by omega
   have hrd2:=hrd.out
   rw [hkj] at hrd2
   have n0:¬ wr.heap.size = R:=by omega
   have hgi:∃ i2:Nat,min (j:Int) 1 = (i2:Int) ∧ ((i2 = 0 ∧ gAt j = ⟨#[40]⟩) ∨ (i2 = 1 ∧ gAt j = ⟨#[44]⟩)):=by
    rcases gAt_ix j with ⟨h1,h2⟩ | ⟨h1,h2⟩
    ·exact ⟨0,h1,.inl ⟨rfl,h2⟩⟩
    ·exact ⟨1,h1,.inr ⟨rfl,h2⟩⟩
   obtain ⟨i2,hmin,hi2⟩:=hgi
   cases ht:isTk (gAt j) r with
   | false =>
    rw [rdArgs_bad ht] at hrd2
    have hwt:=fun w h => reader_want0 T0 R r en (gAt j) w h ht
    have HX:=Lib.hid hrd2
    have HW:=Lib.hid hwt
    clear hrd2 hwt ht hrd
    rcases hi2 with ⟨rfl,hga⟩ | ⟨rfl,hga⟩
    all_goals
     rw [hga] at HW
     clear hga
     go_wp2_with (go_at_call 126;refine (HW.out _ (hrs.out.keep bel)).mono ?_;rintro e w1 ⟨he,rfl⟩;unfold lostE at he;subst he)
     rw [← HX.out]
     exact ⟨rfl,rfl,hb.trans bes⟩
   | true =>
    have htl:=tail_len ht
    have hwt:=fun w h => reader_want T0 R r en (gAt j) w h ht
    rw [rdArgs_next ht] at hrd2
    have hlv:=fun w h h' => IH.out 1 r.tail w (by omega) (by omega) (by have:=hr.out.1;omega) hr.out.2.tail HGR.out h h'
    cases hq:rdForm 1 r.tail with
    | bad r2 =>
     rw [hq] at hrd2 hlv
     have HX:=Lib.hid hrd2
     have HW:=Lib.hid (And.intro hwt hlv)
     clear hrd2 hwt ht hrd hlv hq
     rcases hi2 with ⟨rfl,hga⟩ | ⟨rfl,hga⟩
     all_goals
      rw [hga] at HW
      clear hga
      go_wp2_with (first
       | (go_at_call 126;refine (HW.out.1 _ (hrs.out.keep bel)).mono ?_;rintro e w1 ⟨rfl,hs1,hb1⟩;obtain ⟨hc1,hf1⟩:=bcells hb1;(try simp only [bqh,bqc,bqf] at hc1 hf1);have hz1:=hb1.size;(try simp at hz1);(try have hy1:=nl1 hz1);(try have hx1:=nl2 hy1);refine szz w1 wr ?_;intros)
       | (go_at_call 17;refine (HW.out.2 _ (HGA.out.bes (hb.trans bes) HGR.out) (hs1.keep bel)).mono ?_;rintro e w2 ⟨he,hb2⟩;unfold lostE at he;subst he))
      rw [← HX.out]
      exact ⟨rfl,rfl,hb.trans bes⟩
    | ok x r2 =>
     rw [hq] at hrd2 hlv
     have hsh:=rdForm_shr hq
     have hsf:=hr.out.2.tail.suf (rdForm_suf hq)
     have hln:=hr.out.1
     have hnx:gAt (j + 1) = tComma:=by rw [gAt,if_neg (by omega)]
     have HX:=Lib.hid (show rdArgs (k - (j + 1)) (gAt (j + 1)) (acc ++ [x]) r2 = G from by rw [hnx];exact hrd2)
     have HW:=Lib.hid (And.intro hwt hlv)
     clear hrd2 hwt ht hrd hlv hq hnx
     rcases hi2 with ⟨rfl,hga⟩ | ⟨rfl,hga⟩
     all_goals
      rw [hga] at HW
      clear hga
      go_wp2_with (first
       | (go_at_call 126;refine (HW.out.1 _ (hrs.out.keep bel)).mono ?_;rintro e w1 ⟨rfl,hs1,hb1⟩;obtain ⟨hc1,hf1⟩:=bcells hb1;(try simp only [bqh,bqc,bqf] at hc1 hf1);have hz1:=hb1.size;(try simp at hz1);(try have hy1:=nl1 hz1);(try have hx1:=nl2 hy1);refine szz w1 wr ?_;intros)
       | (go_at_call 17;refine (HW.out.2 _ (HGA.out.bes (hb.trans bes) HGR.out) (hs1.keep bel)).mono ?_;rintro e w2 ⟨A2,c2,rfl,hr2,hs2,hb2⟩;obtain ⟨hc2,hf2⟩:=bcells hb2;(try simp only [bqh,bqc,bqf] at hc2 hf2);have hz2:=hb2.size;(try simp at hz2);(try have hy2:=nl1 hz2);(try have hx2:=nl2 hy2);refine szz w2 wr ?_;intros;refine szz w2 w1 ?_;intros;have HBB:=Lib.hid (show Bes R wr w2 from bes);have HO2:=Lib.hid (Own.ovr keeps_Exp hown.out HBB.out.size (fun b h1 h2 => HBB.out.block b h2 (by omega))))
       | (at_builtin;refine wpList_append_Own keeps_Exp rfl _ _ 24 rfl w.heap.size 26 i0 _ 6 80 Tryz.underlying24 ei ez0 ez1 ez2 rfl (by decide) _ acc rfl HO2.out [.int .i64 x.op,.int .i64 x.v.k,.int .i64 x.v.n,.string x.v.s,.string x.name,.slice A2 x.args.length c2] 26 rfl _ rfl (by first | rfl | simp) rfl (by simp [Value.oneCell']) (by omega) (by unfold maxLen;omega) (by omega) x (beside_of hown.out hr2 (fun b h => ⟨by have:=h.1;(try simp at this);omega,h.2⟩) hzw) ?_;intro g6 cap6 w6 hown6 hb6 hz6 hk6 _))
      go_roundw
      case rel => exact ⟨j + 1,acc ++ [x],r2,by omega,by simp [hacc],by go_num,Lib.hid (by rw [← hacc];exact hown6),Lib.hid (hs2.under hb6 hRlt),Lib.hid ⟨by omega,hsf⟩,HX,(hb.trans HBB.out).of_step hb6 (Nat.le_refl _)⟩
      case measure => simp [intOf];omega
  ·have hjk:j = k:=by omega
   subst hjk
   have hrd2:=hrd.out
   rw [Nat.sub_self,rdArgs_zero] at hrd2
   cases ht:isTk tClose r with
   | false =>
    have hwt:=fun w h => reader_want0 T0 R r en tClose w h ht
    rw [wantT,if_neg (by rw [ht];decide)] at hrd2
    have HX:=Lib.hid hrd2
    have HW:=Lib.hid hwt
    clear hrd2 hwt ht hrd
    unfold tClose at HW
    go_wp2_with (go_at_call 126;refine (HW.out _ (hrs.out.keep bel)).mono ?_;rintro e w1 ⟨he,rfl⟩;unfold lostE at he;subst he)
    rw [← HX.out]
    exact ⟨rfl,rfl,hb.trans bes⟩
   | true =>
    have hwt:=fun w h => reader_want T0 R r en tClose w h ht
    rw [wantT,if_pos ht] at hrd2
    have HX:=Lib.hid hrd2
    have HW:=Lib.hid hwt
    clear hrd2 hwt ht hrd
    unfold tClose at HW
    go_wp2_with (go_at_call 126;refine (HW.out _ (hrs.out.keep bel)).mono ?_;rintro e w1 ⟨rfl,hs1,hb1⟩;obtain ⟨hc1,hf1⟩:=bcells hb1;(try simp only [bqh,bqc,bqf] at hc1 hf1);have hz1:=hb1.size;(try simp at hz1);(try have hy1:=nl1 hz1);(try have hx1:=nl2 hy1);refine szz w1 wr ?_;intros)
    go_ret
    rw [← HX.out]
    exact ⟨_,rfl,Own.ovr keeps_Exp hown.out hb1.size (fun b h1 h2 => hb1.block b h2 (by omega)),hs1,hb.trans bes⟩
end Go.Proofs.YtldbpmlgbbomcaaGreatDoor
