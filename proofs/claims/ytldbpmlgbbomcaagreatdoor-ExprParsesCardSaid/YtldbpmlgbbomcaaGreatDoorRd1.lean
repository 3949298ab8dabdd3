/- The reader of formulas: which op stands next. -/
import Derived.Test.YtldbpmlgbbomcaaGreatDoorRd0
namespace Go.Proofs.YtldbpmlgbbomcaaGreatDoor
open Go.RowKit

theorem sh_ix (k:Nat) (hk:k < 19):∃ (s:ByteArray) (l a:Int),(∀ w:World,(Instr.index 50 (.agg shapesC.toArray) (.int .i64 (k:Int))).run Tryz.prog w = .ok (.agg #[.string s,.int .i64 l,.int .i64 a]) w) ∧ ((a = 2 ∧ (k:Int) ∈ binOps ∧ s = sgnN k ∧ l = lvlN k) ∨ (a ≠ 2 ∧ (k:Int) ∉ binOps)):=by
 rcases (by omega:k = 0 ∨ k = 1 ∨ k = 2 ∨ k = 3 ∨ k = 4 ∨ k = 5 ∨ k = 6 ∨ k = 7 ∨ k = 8 ∨ k = 9 ∨ k = 10 ∨ k = 11 ∨ k = 12 ∨ k = 13 ∨ k = 14 ∨ k = 15 ∨ k = 16 ∨ k = 17 ∨ k = 18) with rfl | rfl | rfl | rfl | rfl | rfl | rfl | rfl | rfl | rfl | rfl | rfl | rfl | rfl | rfl | rfl | rfl | rfl | rfl
 ·exact ⟨⟨#[]⟩,0,0,fun w => by kernel_rfl,.inr ⟨by decide,by decide⟩⟩
 ·exact ⟨_,_,_,Tryz.shape1,.inr ⟨by decide,by decide⟩⟩
 ·exact ⟨_,_,_,Tryz.shape2,.inr ⟨by decide,by decide⟩⟩
 ·exact ⟨_,_,_,Tryz.shape3,.inr ⟨by decide,by decide⟩⟩
 ·exact ⟨_,_,_,Tryz.shape4,.inr ⟨by decide,by decide⟩⟩
 ·exact ⟨_,_,_,Tryz.shape5,.inl ⟨rfl,by decide,rfl,rfl⟩⟩
 ·exact ⟨_,_,_,Tryz.shape6,.inl ⟨rfl,by decide,rfl,rfl⟩⟩
 ·exact ⟨_,_,_,Tryz.shape7,.inl ⟨rfl,by decide,rfl,rfl⟩⟩
 ·exact ⟨_,_,_,Tryz.shape8,.inl ⟨rfl,by decide,rfl,rfl⟩⟩
 ·exact ⟨_,_,_,Tryz.shape9,.inl ⟨rfl,by decide,rfl,rfl⟩⟩
 ·exact ⟨_,_,_,Tryz.shape10,.inl ⟨rfl,by decide,rfl,rfl⟩⟩
 ·exact ⟨_,_,_,Tryz.shape11,.inl ⟨rfl,by decide,rfl,rfl⟩⟩
 ·exact ⟨_,_,_,Tryz.shape12,.inl ⟨rfl,by decide,rfl,rfl⟩⟩
 ·exact ⟨_,_,_,Tryz.shape13,.inl ⟨rfl,by decide,rfl,rfl⟩⟩
 ·exact ⟨_,_,_,Tryz.shape14,.inl ⟨rfl,by decide,rfl,rfl⟩⟩
 ·exact ⟨_,_,_,Tryz.shape15,.inl ⟨rfl,by decide,rfl,rfl⟩⟩
 ·exact ⟨_,_,_,Tryz.shape16,.inl ⟨rfl,by decide,rfl,rfl⟩⟩
 ·exact ⟨_,_,_,Tryz.shape17,.inr ⟨by decide,by decide⟩⟩
 ·exact ⟨_,_,_,Tryz.shape18,.inr ⟨by decide,by decide⟩⟩
def opR (L:Int) (ts:List Tkn):Int:=(binAt L (L + 1) ts).getD 0
def NoOp (L:Int) (ts:List Tkn) (k:Nat):Prop:=∀ j:Nat,j < k → (j:Int) ∈ binOps → lvlN j = L → isTk (sgnN j) ts = false
theorem noOp_next {L:Int} {ts:List Tkn} {k:Nat} (h:NoOp L ts k) (hk:(k:Int) ∈ binOps → lvlN k = L → isTk (sgnN k) ts = false):NoOp L ts (k + 1):=by
 intro j hj
 rcases Nat.lt_or_ge j k with h1 | h1
 ·exact h j h1
 ·rw [show j = k by omega]
  exact hk
theorem opR_hit {L:Int} {ts:List Tkn} {k:Nat} (hk:(k:Int) ∈ binOps) (hl:lvlN k = L) (ht:isTk (sgnN k) ts = true):opR L ts = k:=by
 have:binAt L (L + 1) ts = some (k:Int):=binAt_some.2 ⟨opOf_iff.2 ⟨hk,ht⟩,by omega,by omega⟩
 rw [opR,this]
 rfl
theorem opR_none {L:Int} {ts:List Tkn} (h:NoOp L ts 19):opR L ts = 0:=by
 unfold opR
 cases hb:binAt L (L + 1) ts with
 | none => rfl
 | some op =>
  obtain ⟨h1,h2,h3⟩:=binAt_some.1 hb
  have hm:=opOf_some h1
  have hr:=binOps_range hm.1
  have hc:((op.toNat:Nat):Int) = op:=by omega
  have:=h op.toNat (by omega) (by rw [hc];exact hm.1) (by rw [hc];omega)
  rw [hc,hm.2] at this
  cases this
set_option maxRecDepth 100000 in
set_option maxHeartbeats 2000000 in
theorem reader_op (T0 R:Nat) (ts:List Tkn) (en L:Int) (w:World) (h:RdS T0 w R ts en) :
  Calls Tryz.prog 40 #[.pointer (some ⟨R,0,none⟩),.int .i64 L] w fun e w' => e = .returned (.int .i64 (opR L ts)) ∧ Below w.heap.size w w':=by
 have hsh:∀ i v,shapesC[i]? = some v → w.cell? ⟨R,2 + i,none⟩ = some v:=by
  obtain ⟨A,c,⟨_,_,h2,_⟩,_⟩:=h
  exact h2
 have HH:=Lib.hid h
 have HSH:=Lib.hid hsh
 have HIX:=Lib.hid sh_ix
 obtain ⟨q,hq⟩:∃ q,q = opR L ts:=⟨_,rfl⟩
 rw [← hq]
 have HQ:=Lib.hid hq
 clear h hsh hq
 go_enter Tryz.func40,Tryz.ntmps40
 go_wp2_with (refine wpList_load_cells rfl 50 _ rfl R 2 rfl shapesC _ HSH.out Tryz.underlying50 rfl (by kernel_rfl) ?_)
 obtain ⟨shv,hshv⟩:∃ v,v = Value.agg shapesC.toArray:=⟨_,rfl⟩
 simp only [← hshv] at *
 clear hshv
 go_loopw [11] (fun i wr => ∃ k:Nat,k ≤ 19 ∧ i = .int .i64 k ∧ Hid (NoOp L ts k) ∧ Below w.heap.size w wr) (fun i _ => 19 - (intOf i).toNat)
 case atStart => exact ⟨0,by omega,rfl,Lib.hid (fun j hj => by omega),Below.refl _ _⟩
 case round =>
  obtain ⟨k,hk,rfl,hno,hb⟩:=hrel
  by_cases hlt:k < 19
  ·obtain ⟨s,l,a,ix,hcs⟩:=HIX.out k hlt
   have hlt':(k:Int) < 19:=by omega
   have hRS:=HH.out.keep hb
   have HRS:=Lib.hid hRS
   clear hRS
   rcases hcs with ⟨rfl,hm,hs,hl⟩ | ⟨ha,hm⟩
   ·by_cases hL:l = L
    ·have g1:(l == L) = true:=by simpa using hL
     cases ht:isTk s ts with
     | true =>
      have hx:q = (k:Int):=by rw [HQ.out];exact opR_hit hm (hl ▸ hL) (hs ▸ ht)
      have his:=fun w h => reader_is T0 R ts en s w h
      rw [ht] at his
      have HX:=Lib.hid (And.intro hx his)
      clear hx his hs hl hL hm ht
      go_wp2_with (go_at_call 87;refine (HX.out.2 _ (HRS.out.keep bel)).mono ?_;rintro e w1 ⟨rfl,rfl⟩)
      go_ret
      rw [HX.out.1]
      exact ⟨rfl,below_chain hb bel⟩
     | false =>
      have hn:=noOp_next hno.out (fun _ _ => by rw [← hs];exact ht)
      have his:=fun w h => reader_is T0 R ts en s w h
      rw [ht] at his
      have HX:=Lib.hid (And.intro hn his)
      clear hn his hs hl hL hm ht
      go_wp2_with (go_at_call 87;refine (HX.out.2 _ (HRS.out.keep bel)).mono ?_;rintro e w1 ⟨rfl,rfl⟩)
      go_roundw
      case rel => exact ⟨k + 1,by omega,by go_num,Lib.hid HX.out.1,below_chain hb bel⟩
      case measure => simp [intOf];omega
    ·have g1:(l == L) = false:=by simpa using hL
     have hn:=noOp_next hno.out (fun _ h => absurd (hl.trans h) hL)
     have HX:=Lib.hid hn
     clear hn hs hl hm
     go_wp2_with fail
     go_roundw
     case rel => exact ⟨k + 1,by omega,by go_num,HX,below_chain hb bel⟩
     case measure => simp [intOf];omega
   ·have g1:(a == 2) = false:=by simpa using ha
    have hn:=noOp_next hno.out (fun h => absurd h hm)
    have HX:=Lib.hid hn
    clear hn hm ha
    go_wp2_with fail
    go_roundw
    case rel => exact ⟨k + 1,by omega,by go_num,HX,below_chain hb bel⟩
    case measure => simp [intOf];omega
  ·have hke:k = 19:=by omega
   subst hke
   have hx:q = 0:=by rw [HQ.out];exact opR_none hno.out
   have HX:=Lib.hid hx
   clear hx
   go_wp2_with fail
   go_ret
   rw [HX.out]
   exact ⟨rfl,hb⟩
end Go.Proofs.YtldbpmlgbbomcaaGreatDoor
