/- The reference's climber: a formula, given what stands ahead. -/
import Derived.Test.YtldbpmlgbbomcaaGreatDoorCb0
namespace Go.Proofs.YtldbpmlgbbomcaaGreatDoor
open Go.RowKit

def atOf (R:Nat) (w:World):Nat:=(match w.cell? ⟨R,2,none⟩ with | some (.bool true) => 0 | _ => 200) + match w.cell? ⟨R,1,none⟩ with | some (.int _ p) => 160 - p.toNat | _ => 0
theorem atOf_no {T0:Nat} {w:World} {R:Nat} {l:List Tkn} {p:Nat} (h:CbS T0 w R l p false):atOf R w = 200 + (160 - p):=by
 obtain ⟨A,c,⟨_,h1,h2,_⟩,_⟩:=h
 unfold atOf
 rw [h1,h2]
 rfl
theorem atOf_yes {T0:Nat} {w:World} {R:Nat} {l:List Tkn} {p:Nat} (h:CbS T0 w R l p true):atOf R w = 160 - p:=by
 obtain ⟨A,c,⟨_,h1,h2,_⟩,_⟩:=h
 unfold atOf
 rw [h1,h2]
 show 0 + (160 - p) = _
 omega
def fnd (o:Option Int) (k:Int):Int:=match o with | none => 0 | some op => if op < k then op else 0
theorem fnd_start {L h:Int} {ts:List Tkn}:fnd (binAt L h ts) 5 = 0:=by
 cases hb:binAt L h ts with
 | none => rfl
 | some op =>
  have:=binOps_range (opOf_some (binAt_some.1 hb).1).1
  exact if_neg (by omega)
theorem fnd_hit {o:Option Int} {k:Int} (h:o = some k):fnd o (k + 1) = k:=by subst h;exact if_pos (by omega)
theorem fnd_miss {o:Option Int} {k:Int} (h:o ≠ some k):fnd o (k + 1) = fnd o k:=by
 cases o with
 | none => rfl
 | some op =>
  have:op ≠ k:=fun e => h (by rw [e])
  show (if op < k + 1 then op else 0) = if op < k then op else 0
  by_cases h1:op < k
  ·rw [if_pos h1,if_pos (by omega)]
  ·rw [if_neg h1,if_neg (by omega)]
theorem fnd_hitN {o:Option Int} {k:Nat} (h:o = some (k:Int)):(k:Int) = fnd o ((k + 1:Nat):Int):=by rw [Int.natCast_add];exact (fnd_hit h).symm
theorem fnd_missN {o:Option Int} {k:Nat} {v:Int} (h:o ≠ some (k:Int)) (hv:v = fnd o (k:Int)):v = fnd o ((k + 1:Nat):Int):=by rw [Int.natCast_add];exact hv.trans (fnd_miss h).symm
theorem fnd_none {L h:Int} {ts:List Tkn} (hb:binAt L h ts = none) (k:Int):fnd (binAt L h ts) k = 0:=by rw [hb];rfl
theorem fnd_end {L h:Int} {ts:List Tkn} {op:Int} (hb:binAt L h ts = some op):fnd (binAt L h ts) 17 = op:=by
 have:=binOps_range (opOf_some (binAt_some.1 hb).1).1
 rw [hb]
 exact if_pos (by omega)
theorem cls_sgn {op:Int} (h1:5 ≤ op) (h2:op ≤ 16):clsS op = sgnN op:=by rw [clsS,if_neg (by omega),if_pos (by omega)]
theorem op_bin (k:Nat) (h1:5 ≤ k) (h2:k ≤ 16):(k:Int) ∈ binOps:=by
 rcases (by omega:k = 5 ∨ k = 6 ∨ k = 7 ∨ k = 8 ∨ k = 9 ∨ k = 10 ∨ k = 11 ∨ k = 12 ∨ k = 13 ∨ k = 14 ∨ k = 15 ∨ k = 16) with rfl | rfl | rfl | rfl | rfl | rfl | rfl | rfl | rfl | rfl | rfl | rfl <;> decide
theorem sgn_ne {op:Int} (h:op ∈ binOps):sgnN op ≠ ⟨#[]⟩:=by
 simp only [binOps,List.mem_cons,List.not_mem_nil,or_false] at h
 rcases h with rfl | rfl | rfl | rfl | rfl | rfl | rfl | rfl | rfl | rfl | rfl | rfl <;> decide
theorem binAt_top (L:Int) (ts:List Tkn):binAt L 8 ts = binAt L 6 ts:=by
 cases h8:binAt L 8 ts with
 | none =>
  cases h6:binAt L 6 ts with
  | none => rfl
  | some op =>
   obtain ⟨a,b,c⟩:=binAt_some.1 h6
   rw [binAt_some.2 ⟨a,b,by omega⟩] at h8
   cases h8
 | some op =>
  obtain ⟨a,b,c⟩:=binAt_some.1 h8
  have:=lvl_range (opOf_some a).1
  exact (binAt_some.2 ⟨a,b,by omega⟩).symm
theorem rdClimb_top (L:Int) (x:Exp) (ts:List Tkn):rdClimb L 6 x ts = rdClimb L 8 x ts:=by
 cases hb:binAt L 6 ts with
 | none => rw [rdClimb_none hb,rdClimb_none ((binAt_top L ts).trans hb)]
 | some op => rw [rdClimb_some hb,rdClimb_some ((binAt_top L ts).trans hb)]
def ClimbAt (L h:Int) (x:Exp) (ts:List Tkn) (b:Bool) (G:PR Exp):Prop:=match b with
 | true => G = .bad ts
 | false => rdClimb L h x ts = G
def AhdAt (T0 R:Nat) (l:List Tkn) (n:Nat) (L:Int) (w:World) (G:PR Exp) (e:Ending) (w':World):Prop :=
 ∃ x p b,CbX T0 R l w x p b e w' ∧ (b = false → (l.drop p).length < n) ∧ ClimbAt L 8 x (l.drop p) b G
theorem drop_tail (l:List Tkn) (p:Nat):(l.drop p).tail = l.drop (p + 1):=by rw [List.tail_drop]
theorem form_then {T0 R:Nat} {l:List Tkn} {n q:Nat} {L M h:Int} {op:Int} {x:Exp} {G:PR Exp} {w w':World} {e:Ending} (hc:CPost T0 R l w (rdForm M (l.drop q)) e w') (hG:(rdForm M (l.drop q)).then (fun y r => rdClimb L h (binX op x y) r) = G) (hn:(l.drop q).length ≤ n) :
  ∃ y p b,CbX T0 R l w y p b e w' ∧ (b = false → (l.drop p).length < n ∧ (l.drop p).length < (l.drop q).length) ∧ ClimbAt L h (binX op x y) (l.drop p) b G:=by
 cases hq:rdForm M (l.drop q) with
 | ok y r =>
  rw [hq] at hc hG
  have hs:=rdForm_shr hq
  obtain ⟨p,rfl,hx⟩:=hc
  exact ⟨y,p,false,hx,(fun _ => ⟨by omega,hs⟩),hG⟩
 | bad r =>
  rw [hq] at hc hG
  obtain ⟨y,p,rfl,hx⟩:=hc
  exact ⟨y,p,true,hx,(fun e => by cases e),hG.symm⟩
theorem bin_in {op:Int} (h:op ∈ binOps):inI op:=by
 simp only [binOps,List.mem_cons,List.not_mem_nil,or_false] at h
 rcases h with rfl | rfl | rfl | rfl | rfl | rfl | rfl | rfl | rfl | rfl | rfl | rfl <;> rfl
set_option maxRecDepth 100000 in
set_option maxHeartbeats 8000000 in
theorem formula_step (T0 R:Nat) (l:List Tkn) (n:Nat) (L:Int) (hL1:1 ≤ L) (hL6:L ≤ 6) (p0:Nat) (b0:Bool) (G:PR Exp) (hF:FrmN T0 R l n)
  (hA:∀ w,CbS T0 w R l p0 b0 → Calls Tryz.prog 48 #[.pointer (some ⟨R,0,none⟩)] w (AhdAt T0 R l n L w G)) (w:World) (h:CbS T0 w R l p0 b0) :
  Calls Tryz.prog 21 #[.pointer (some ⟨R,0,none⟩),.int .i64 L] w (CPost T0 R l w G):=by
 have hRlt:=h.lt
 have n0:¬ w.heap.size = R:=by omega
 have HH:=Lib.hid (And.intro h hA)
 have HF:=Lib.hid hF
 clear h hA hF
 go_enter Tryz.func21,Tryz.ntmps21
 go_wp2_with (go_at_call 48;refine (HH.out.2 _ (HH.out.1.keep bel)).mono ?_;rintro e w1 ⟨x1,p1,b1,⟨A1,c1,rfl,hr1,hs1,hb1⟩,hn9,hcl9⟩;obtain ⟨hc1,hf1⟩:=bcells hb1;(try simp only [bqh,bqc,bqf] at hc1 hf1);have hz1:=hb1.size;(try simp at hz1);(try have hy1:=nl1 hz1);(try have hx1:=nl2 hy1);refine szz w1 w ?_;intros;have m1:¬ w1.heap.size = R:=(by omega))
 have hzw1:w.heap.size < w1.heap.size:=by omega
 generalize hXd:w1.heap.size = X at *
 go_loopw [6] (fun v wr => ∃ (x:Exp) (A:Option Addr) (c:Nat) (p:Nat) (b:Bool) (h:Int),v = .int .i64 h ∧ (1 ≤ h ∧ h ≤ 8) ∧ Hid (XBX wr X x A c) ∧ Hid (ZBX wr w.heap.size) ∧ Hid (XRep wr (part w X wr) [.int .i64 x.op,.int .i64 x.v.k,.int .i64 x.v.n,.string x.v.s,.string x.name,.slice A x.args.length c] x) ∧ Hid (CbS T0 wr R l p b ∧ (b = false → (l.drop p).length < n)) ∧ Hid (ClimbAt L h x (l.drop p) b G) ∧ Bes R w wr ∧ X < wr.heap.size) (fun _ wr => atOf R wr)
 case atStart =>
  subst hXd
  refine ⟨x1,A1,c1,p1,b1,8,rfl,by omega,Lib.hid ?_,Lib.hid ?_,Lib.hid ?_,Lib.hid ⟨hs1.keep bel,hn9⟩,Lib.hid hcl9,bes,by simp⟩
  ·unfold XBX;and_intros <;> go_simp
  ·unfold ZBX;and_intros <;> go_simp
  ·exact hr1.keep fun b hb => ⟨⟨by have:=hb.1;simp at this;omega,by have:=hb.2;simp;omega,by have:=hb.2;omega⟩,((Below.refl w1.heap.size w1).alloc (Nat.le_refl _) _).block b hb.2⟩
 case round =>
  obtain ⟨x,A,c,p,b,h,rfl,⟨hh1,hh2⟩,HXB,HZB,HXR,hrs,hcl,hb,hXl⟩:=hrel
  have hXw:w.heap.size < X:=by omega
  have hXR:X ≠ R:=by omega
  have hXR':¬ X = R:=hXR
  have hzr:=hb.size
  clear hXd hcl9 hn9 hs1 hr1
  obtain ⟨AA,cc,⟨k0,k1,k2,k3,k4⟩,⟨kc,kp,k160⟩,_⟩:=id hrs.out.1
  cases b with
  | true =>
   have hG:G = .bad (l.drop p):=hcl.out
   subst hG
   obtain ⟨⟨z0,z1,z2,z3,z4,z5⟩,q0,q1,q2,q3,q4,q5⟩:=HZB.out
   have hwr:w.heap.size < wr.heap.size:=by omega
   go_wp2_with fail
   exact bodyPost_ret (v:=.agg #[.int .i64 0,.int .i64 0,.int .i64 0,.string ⟨#[]⟩,.string ⟨#[]⟩,.slice none 0 0]) (by first | (simp [results,Tryz.results21,go_sem];done) | (simp [results,Tryz.results21,go_sem, *];done)) rfl ⟨zE,p,rfl,none,0,rfl,zE_rep,hrs.out.1.under (n:=R + 1) bel (by omega),bes⟩
  | false =>
   have hln:(l.drop p).length < n:=hrs.out.2 rfl
   have hcx:rdClimb L h x (l.drop p) = G:=hcl.out
   obtain ⟨o,ho⟩:∃ o,o = binAt L h (l.drop p):=⟨_,rfl⟩
   have HO:=Lib.hid (And.intro ho (And.intro hcx hln))
   clear ho hcx hcl hln
   go_wp2_with fail
   generalize hwq:wr = wq at *
   have HWQ:=Lib.hid hwq
   clear hwq
   go_loopw [7,8] (fun f i wr => ∃ (k:Nat) (v:Int),5 ≤ k ∧ k ≤ 17 ∧ i = .int .i64 k ∧ f = .int .i64 v ∧ Hid (v = fnd o k) ∧ Below wq.heap.size wq wr) (fun _ i _ => 17 - (intOf i).toNat)
   case atStart => exact ⟨5,0,by omega,by omega,rfl,rfl,Lib.hid (by rw [HO.out.1];exact fnd_start.symm),Below.refl _ _⟩
   case round =>
    obtain ⟨k,v,hk1,hk2,rfl,rfl,hv,hbk⟩:=hrel
    have hsr:=Lib.hid (hrs.out.1.keep hbk)
    by_cases hlt:k ≤ 16
    ·have hk16:(k:Int) ≤ 16:=by omega
     have hcls:=fun w => ref_closeness (k:Int) w (by omega) (by omega)
     rw [cls_sgn (by omega) hk16] at hcls
     have hkm:=op_bin k hk1 hlt
     have hnx:=fun w h => climb_next T0 R l p false w h
     have hq:((sgnN k).toList == (nxtT (l.drop p)).toList) = isTk (sgnN k) (l.drop p):=nxtT_beq' (sgn_ne hkm)
     have hba:o = some (k:Int) ↔ isTk (sgnN k) (l.drop p) = true ∧ L ≤ lvlN k ∧ lvlN k < h:=by
      rw [HO.out.1,binAt_some,opOf_iff]
      exact ⟨fun h => ⟨h.1.2,h.2⟩,fun h => ⟨⟨hkm,h.1⟩,h.2⟩⟩
     generalize nxtT (l.drop p) = s at hnx hq
     generalize lvlN k = m at hcls hba
     generalize sgnN k = sg at hcls hba hq
     have HCL:=Lib.hid hcls
     have HNX:=Lib.hid hnx
     clear hcls hnx hkm
     cases ht:isTk sg (l.drop p) with
     | false =>
      rw [ht] at hq
      have hne:o ≠ some (k:Int):=fun e => by rw [hba,ht] at e;cases e.1
      have HV:=Lib.hid (fnd_missN hne hv.out)
      clear hba hne ht
      go_wp2_with (first
       | (go_at_call 49;refine (HCL.out _).mono ?_;rintro e w2 ⟨rfl,hb2⟩;obtain ⟨hc2,hf2⟩:=bcell hb2;(try simp only [bqh,bqc,bqf] at hc2 hf2);have hz2:=hb2.size;(try simp at hz2);(try have hy2:=nl1 hz2);(try have hx2:=nl2 hy2);refine szz w2 wr ?_;intros)
       | (go_at_call 50;refine (HNX.out _ (hsr.out.keep bel)).mono ?_;rintro e w3 ⟨rfl,hb3⟩;obtain ⟨hc3,hf3⟩:=bcell hb3;(try simp only [bqh,bqc,bqf] at hc3 hf3);have hz3:=hb3.size;(try simp at hz3);(try have hy3:=nl1 hz3);(try have hx3:=nl2 hy3);refine szz w3 wr ?_;intros;refine szz w3 w2 ?_;intros))
      go_roundw
      case rel => exact ⟨k + 1,v,by omega,by omega,by go_num,rfl,Lib.hid HV.out,below_chain hbk bel⟩
      case measure => simp [intOf];omega
     | true =>
      rw [ht] at hq
      rw [ht] at hba
      by_cases hm1:L ≤ m
      ·have hm1':m ≥ L:=hm1
       by_cases hm2:m < h
       ·have HV:=Lib.hid (fnd_hitN (hba.2 ⟨rfl,hm1,hm2⟩))
        clear hba ht
        go_wp2_with (first
         | (go_at_call 49;refine (HCL.out _).mono ?_;rintro e w2 ⟨rfl,hb2⟩;obtain ⟨hc2,hf2⟩:=bcell hb2;(try simp only [bqh,bqc,bqf] at hc2 hf2);have hz2:=hb2.size;(try simp at hz2);(try have hy2:=nl1 hz2);(try have hx2:=nl2 hy2);refine szz w2 wr ?_;intros)
         | (go_at_call 50;refine (HNX.out _ (hsr.out.keep bel)).mono ?_;rintro e w3 ⟨rfl,hb3⟩;obtain ⟨hc3,hf3⟩:=bcell hb3;(try simp only [bqh,bqc,bqf] at hc3 hf3);have hz3:=hb3.size;(try simp at hz3);(try have hy3:=nl1 hz3);(try have hx3:=nl2 hy3);refine szz w3 wr ?_;intros;refine szz w3 w2 ?_;intros))
        go_roundw
        case rel => exact ⟨k + 1,(k:Int),by omega,by omega,by go_num,rfl,Lib.hid HV.out,below_chain hbk bel⟩
        case measure => simp [intOf];omega
       ·have hne:o ≠ some (k:Int):=fun e => hm2 (hba.1 e).2.2
        have HV:=Lib.hid (fnd_missN hne hv.out)
        clear hba hne ht
        go_wp2_with (first
         | (go_at_call 49;refine (HCL.out _).mono ?_;rintro e w2 ⟨rfl,hb2⟩;obtain ⟨hc2,hf2⟩:=bcell hb2;(try simp only [bqh,bqc,bqf] at hc2 hf2);have hz2:=hb2.size;(try simp at hz2);(try have hy2:=nl1 hz2);(try have hx2:=nl2 hy2);refine szz w2 wr ?_;intros)
         | (go_at_call 50;refine (HNX.out _ (hsr.out.keep bel)).mono ?_;rintro e w3 ⟨rfl,hb3⟩;obtain ⟨hc3,hf3⟩:=bcell hb3;(try simp only [bqh,bqc,bqf] at hc3 hf3);have hz3:=hb3.size;(try simp at hz3);(try have hy3:=nl1 hz3);(try have hx3:=nl2 hy3);refine szz w3 wr ?_;intros;refine szz w3 w2 ?_;intros))
        go_roundw
        case rel => exact ⟨k + 1,v,by omega,by omega,by go_num,rfl,Lib.hid HV.out,below_chain hbk bel⟩
        case measure => simp [intOf];omega
      ·have hne:o ≠ some (k:Int):=fun e => hm1 (hba.1 e).2.1
       have hm1':¬ m ≥ L:=hm1
       have HV:=Lib.hid (fnd_missN hne hv.out)
       clear hba hne ht
       go_wp2_with (first
        | (go_at_call 49;refine (HCL.out _).mono ?_;rintro e w2 ⟨rfl,hb2⟩;obtain ⟨hc2,hf2⟩:=bcell hb2;(try simp only [bqh,bqc,bqf] at hc2 hf2);have hz2:=hb2.size;(try simp at hz2);(try have hy2:=nl1 hz2);(try have hx2:=nl2 hy2);refine szz w2 wr ?_;intros)
        | (go_at_call 50;refine (HNX.out _ (hsr.out.keep bel)).mono ?_;rintro e w3 ⟨rfl,hb3⟩;obtain ⟨hc3,hf3⟩:=bcell hb3;(try simp only [bqh,bqc,bqf] at hc3 hf3);have hz3:=hb3.size;(try simp at hz3);(try have hy3:=nl1 hz3);(try have hx3:=nl2 hy3);refine szz w3 wr ?_;intros;refine szz w3 w2 ?_;intros))
       go_roundw
       case rel => exact ⟨k + 1,v,by omega,by omega,by go_num,rfl,Lib.hid HV.out,below_chain hbk bel⟩
       case measure => simp [intOf];omega
    ·have hk17:k = 17:=by omega
     subst hk17
     have HXB:=Lib.hid (XBX.block HXB.out (hbk.block X hXl))
     have HZB:=Lib.hid (ZBX.block HZB.out (hbk.block w.heap.size (by omega)))
     have hzk:=hbk.size
     have HXR:=Lib.hid (show XRep wr (part w X wr) [.int .i64 x.op,.int .i64 x.v.k,.int .i64 x.v.n,.string x.v.s,.string x.name,.slice A x.args.length c] x from HXR.out.keep fun b hb' => ⟨⟨hb'.1,Nat.lt_of_lt_of_le hb'.2.1 hzk,hb'.2.2⟩,hbk.block b hb'.2.1⟩)
     have hXlr:X < wr.heap.size:=by omega
     have hb:Bes R w wr:=hb.trans (Bes.of hbk)
     have hmq:=atOf_no hrs.out.1
     obtain ⟨AA2,cc2,⟨j0,j1,j2,j3,j4⟩,_⟩:=id hsr.out
     clear k0 k1 k2 k3 k4
     cases hbn:binAt L h (l.drop p) with
     | none =>
      have hv0:v = 0:=by rw [hv.out,HO.out.1];exact fnd_none hbn _
      subst hv0
      have hcx:=HO.out.2.1
      rw [rdClimb_none hbn] at hcx
      subst hcx
      obtain ⟨⟨y0,y1,y2,y3,y4,y5⟩,g0,g1,g2,g3,g4,g5⟩:=HXB.out
      obtain ⟨⟨z0,z1,z2,z3,z4,z5⟩,q0,q1,q2,q3,q4,q5⟩:=HZB.out
      have hwr:w.heap.size < wr.heap.size:=by omega
      have HP:Hid (∀ W,Bes w.heap.size wr W → XRep W (fresh w W) [.int .i64 x.op,.int .i64 x.v.k,.int .i64 x.v.n,.string x.v.s,.string x.name,.slice A x.args.length c] x):=Lib.hid fun W h => HXR.out.keep fun b hb' => ⟨⟨by have:=hb'.1;omega,by have:=hb'.2.1;have:=h.size;omega⟩,h.block b hb'.2.1 (by have:=hb'.1;omega)⟩
      clear hbn
      go_wp2_with fail
      exact bodyPost_ret (v:=.agg #[.int .i64 x.op,.int .i64 x.v.k,.int .i64 x.v.n,.string x.v.s,.string x.name,.slice A x.args.length c]) (by first | (simp [results,Tryz.results21,go_sem];done) | (simp [results,Tryz.results21,go_sem, *];done)) rfl ⟨p,rfl,A,c,rfl,HP.out _ bes,hsr.out.under (n:=R + 1) bel (by omega),bes⟩
     | some op =>
      have hv0:v = op:=by rw [hv.out,HO.out.1];exact fnd_end hbn
      subst hv0
      have hop:=binAt_some.1 hbn
      have hom:=opOf_some hop.1
      have hor:=binOps_range hom.1
      have hlv:=lvl_range hom.1
      have g0:(v == 0) = false:=by simp only [beq_eq_false_iff_ne,ne_eq];omega
      have hcx:=HO.out.2.1
      rw [rdClimb_some hbn,drop_tail] at hcx
      have hpl:p < l.length:=by have:=binAt_tail hbn;rw [List.length_tail,List.length_drop] at this;omega
      have hql:(l.drop (p + 1)).length < (l.drop p).length:=by rw [List.length_drop,List.length_drop];omega
      have hln:=HO.out.2.2
      have hcls:=fun w => ref_closeness v w (by omega) (by omega)
      have hwl:IntKind.i64.wrap (lvlN v + 1) = lvlN v + 1:=IntWalk.i64_in _ (by omega)
      have hlf:=fun w h => HF.out (lvlN v + 1) (p + 1) w (by omega) (by omega) (by omega) h
      have HM:=Lib.hid (And.intro hcx (And.intro (bin_in hom.1) (And.intro hql (And.intro hpl (And.intro hln (show nextH v = if lvlN v = 3 then 3 else lvlN v + 1 from rfl))))))
      generalize clsS v = sg at hcls
      generalize lvlN v = m at hcls hwl hlf HM hlv
      have HCL:=Lib.hid hcls
      have HLV:=Lib.hid hlf
      clear hcx hcls hlf hbn hop hom hln hql
      go_wp2_with (go_at_call 49;refine calls_world ?_;intro W2 hW2;have hs2':CbS T0 W2 R l (p + 1) false:=(by rw [hW2];exact hsr.out.next HM.out.2.2.2.1);have hb2':Bes R wr W2:=(by rw [hW2];exact bes);clear hW2;refine (HCL.out _).mono ?_;rintro e w2 ⟨rfl,hb2⟩;have hs2:=hs2'.keep hb2;have hb22:Bes R wr w2:=hb2'.trans (Bes.of hb2);have hz2:=hb22.size)
      have HX2:=Lib.hid (show XBX w2 X x A c from XBX.block HXB.out (hb22.block X hXlr hXR))
      have hS0:w2.drew.cell? ⟨X,0,none⟩ = some (.int .i64 x.op) ∧ w2.drew.cell? ⟨X,1,none⟩ = some (.int .i64 x.v.k) ∧ w2.drew.cell? ⟨X,2,none⟩ = some (.int .i64 x.v.n) ∧ w2.drew.cell? ⟨X,3,none⟩ = some (.string x.v.s) ∧ w2.drew.cell? ⟨X,4,none⟩ = some (.string x.name) ∧ w2.drew.cell? ⟨X,5,none⟩ = some (.slice A x.args.length c):=by have h:=HX2.out.1;simpa only [World.cell?_drew] using h
      refine wp_region_T (fun w' => w'.cell? ⟨X,0,none⟩ = some (.int .i64 x.op) ∧ w'.cell? ⟨X,1,none⟩ = some (.int .i64 x.v.k) ∧ w'.cell? ⟨X,2,none⟩ = some (.int .i64 x.v.n) ∧ w'.cell? ⟨X,3,none⟩ = some (.string x.v.s) ∧ w'.cell? ⟨X,4,none⟩ = some (.string x.name) ∧ w'.cell? ⟨X,5,none⟩ = some (.slice A x.args.length c)) 8 (by kernel_rfl) ?_
      refine wpAnyT_take (i:=0) (oi:=_) (v:=?_) rfl (by kernel_rfl) (fun _ _ _ h => h) hS0 (by rfl) ?_ ?_
      rotate_left
      ·intro w' hS';(try dsimp only at hS');(try go_split_ands);go_simp;(try rw [if_neg (by omega)]);try with_reducible rfl
      simp only [Act.put,List.setIfInBounds_toArray,List.set_cons_zero,List.set_cons_succ]
      refine wpAnyT_take (i:=1) (oi:=_) (v:=?_) rfl (by kernel_rfl) (fun _ _ _ h => h) hS0 (by rfl) ?_ ?_
      rotate_left
      ·intro w' hS';(try dsimp only at hS');(try go_split_ands);go_simp;(try rw [if_neg (by omega)]);try with_reducible rfl
      simp only [Act.put,List.setIfInBounds_toArray,List.set_cons_zero,List.set_cons_succ]
      refine wpAnyT_take (i:=2) (oi:=_) (v:=?_) rfl (by kernel_rfl) (fun _ _ _ h => h) hS0 (by rfl) ?_ ?_
      rotate_left
      ·intro w' hS';(try dsimp only at hS');(try go_split_ands);go_simp;(try rw [if_neg (by omega)]);try with_reducible rfl
      simp only [Act.put,List.setIfInBounds_toArray,List.set_cons_zero,List.set_cons_succ]
      refine wpAnyT_take (i:=3) (oi:=_) (v:=?_) rfl (by kernel_rfl) (fun _ _ _ h => h) hS0 (by rfl) ?_ ?_
      rotate_left
      ·intro w' hS';(try dsimp only at hS');(try go_split_ands);go_simp;(try rw [if_neg (by omega)]);try with_reducible rfl
      simp only [Act.put,List.setIfInBounds_toArray,List.set_cons_zero,List.set_cons_succ]
      refine wpAnyT_take (i:=4) (oi:=_) (v:=?_) rfl (by kernel_rfl) (fun _ _ _ h => h) hS0 (by rfl) ?_ ?_
      rotate_left
      ·intro w' hS';(try dsimp only at hS');(try go_split_ands);go_simp;(try rw [if_neg (by omega)]);try with_reducible rfl
      simp only [Act.put,List.setIfInBounds_toArray,List.set_cons_zero,List.set_cons_succ]
      refine wpAnyT_one (i:=5) (o:=_) rfl (by kernel_rfl) (fun K hK => ?_)
      go_simp
      go_at_call 21;refine (HLV.out _ (hs2.keep (Below.drew (Below.refl _ _)))).mono ?_
      rintro e w3 hc3
      obtain ⟨y,p3,b3,⟨A3,c3,rfl,hr3,hs3,hb3⟩,hn3,hcl3⟩:=form_then (n:=n) hc3 HM.out.1 (by have:=HM.out.2.2.1;have:=HM.out.2.2.2.2.1;omega)
      have HM3:=Lib.hid (And.intro hn3 hcl3)
      clear hc3 hn3 hcl3
      have hz3:w2.heap.size ≤ w3.heap.size:=hb3.size
      have hb3':Bes R w2 w3:=(bes_drew (Bes.refl R w2)).trans hb3
      have hX3:=HX2.out.block (hb3'.block X (by omega) hXR)
      have hS3:=hX3.1
      have HX3:=Lib.hid hX3
      obtain ⟨⟨y0,y1,y2,y3,y4,y5⟩,g0,g1,g2,g3,g4,g5⟩:=id hX3
      refine hK.out _ _ (fun _ => hS3) ?_
      clear hK K
      try simp only [Act.put,List.setIfInBounds_toArray,List.set_cons_zero,List.set_cons_succ]
      refine wpAnyT_one (i:=6) (o:=_) rfl (by kernel_rfl) (fun K hK => ?_)
      go_simp
      refine hK.out _ _ (fun _ => (XBX.block HX3.out ((Below.refl w3.heap.size w3).alloc (Nat.le_refl _) _ |>.block X (by omega))).1) ?_
      clear hK K
      try simp only [Act.put,List.setIfInBounds_toArray,List.set_cons_zero,List.set_cons_succ]
      refine wpAnyT_one (i:=7) (o:=_) rfl (by kernel_rfl) (fun K hK => ?_)
      go_simp
      refine hK.out _ _ (fun _ => (XBX.block HX3.out ((Below.refl w3.heap.size w3).alloc (Nat.le_refl _) _ |>.block X (by omega))).1) ?_
      clear hK K
      try simp only [Act.put,List.setIfInBounds_toArray,List.set_cons_zero,List.set_cons_succ]
      have hX3l:X < w3.heap.size:=by omega
      refine wpAnyT_one (i:=8) (o:=_) rfl (by kernel_rfl) (fun K hK => ?_)
      go_simp
      refine hK.out _ _ (fun h => absurd h (by decide)) ?_
      clear hK K
      refine wpAnyT_done (by kernel_rfl) ?_ _
      refine exit_world ?_;intro W hW
      have hbW:Bes X w3 W:=by rw [hW];exact bes
      have hnW:W.heap[w3.heap.size]? = some (.cells #[.int .i64 x.op,.int .i64 x.v.k,.int .i64 x.v.n,.string x.v.s,.string x.name,.slice A x.args.length c,.int .i64 y.op,.int .i64 y.v.k,.int .i64 y.v.n,.string y.v.s,.string y.name,.slice A3 y.args.length c3] 26 (0,0)):=by rw [hW];exact new_at (by simp)
      have hXW:XBX W X (binX v x y) (some ⟨w3.heap.size,0,none⟩) 2:=by
       rw [hW]
       unfold XBX
       and_intros <;> first | (go_simp;done) | (go_simp;rfl)
      clear hW
      have hxw2:XRep w2 (part w X w2) [.int .i64 x.op,.int .i64 x.v.k,.int .i64 x.v.n,.string x.v.s,.string x.name,.slice A x.args.length c] x:=HXR.out.keep fun b hb' => ⟨⟨hb'.1,Nat.lt_of_lt_of_le hb'.2.1 hz2,hb'.2.2⟩,hb22.block b hb'.2.1 (by have:=hb'.1;omega)⟩
      have HXW:=Lib.hid (bin_rep (w:=w) (w2:=w2) (W:=W) v HM.out.2.1 hxw2 hr3 (fun b h1 h2 => hb3'.block b h2 (by omega)) hz3 (by omega) hXw hbW hnW)
      have HZW:=Lib.hid (HZB.out.block ((hbW.block w.heap.size (by omega) (by omega)).trans ((hb3'.block w.heap.size (by omega) n0).trans (hb22.block w.heap.size (by omega) n0))))
      have hbw3:Bes R w W:=bes_mix ((hb.trans hb22).trans hb3') hbW (by omega)
      have hsW:=hs3.bes hbW (by omega) (by omega)
      have hXlW:X < W.heap.size:=by have:=hbW.size;omega
      have hwW:w.heap.size < W.heap.size:=by omega
      have HXB2:=Lib.hid hXW
      have hdec:atOf R W < atOf R wq:=by
       rw [hmq]
       cases b3 with
       | true => rw [atOf_yes hsW];omega
       | false =>
        have h1:=HM3.out.1 rfl
        have h2:=hsW.bd
        rw [atOf_no hsW]
        simp only [List.length_drop] at h1
        omega
      have hHD:=Lib.hid hdec
      clear hxw2 hr3 hnW hS0 hS3 hX3 HX3 HX2 y0 y1 y2 y3 y4 y5 g0 g1 g2 g3 g4 g5 hmq hdec
      by_cases hL3:m = 3
      ·have g3:(m == 3) = true:=by simpa using hL3
       have hnx:nextH v = 3:=HM.out.2.2.2.2.2.trans (if_pos hL3)
       have HC:=HM3.out.2
       rw [hnx] at HC
       have HCX:=Lib.hid HC
       clear HC
       go_wp2_with fail
       go_roundw
       case rel => exact ⟨binX v x y,some ⟨w3.heap.size,0,none⟩,2,p3,b3,3,rfl,by omega,HXB2,HZW,HXW,Lib.hid ⟨hsW,fun e => (HM3.out.1 e).1⟩,HCX,hbw3,hXlW⟩
       case measure => rw [HWQ.out];exact hHD.out
      ·have g3:(m == 3) = false:=by simpa using hL3
       have hnx:nextH v = m + 1:=HM.out.2.2.2.2.2.trans (if_neg hL3)
       have HC:=HM3.out.2
       rw [hnx] at HC
       have HCX:=Lib.hid HC
       clear HC
       go_wp2_with fail
       go_roundw
       case rel => exact ⟨binX v x y,some ⟨w3.heap.size,0,none⟩,2,p3,b3,m + 1,rfl,by omega,HXB2,HZW,HXW,Lib.hid ⟨hsW,fun e => (HM3.out.1 e).1⟩,HCX,hbw3,hXlW⟩
       case measure => rw [HWQ.out];exact hHD.out
end Go.Proofs.YtldbpmlgbbomcaaGreatDoor
