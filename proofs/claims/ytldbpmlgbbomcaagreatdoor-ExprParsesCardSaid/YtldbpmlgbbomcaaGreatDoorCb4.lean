/- The reference's climber: ahead at if and len; all of it. (printed by mkcb4.py) -/
import Derived.Test.YtldbpmlgbbomcaaGreatDoorCb3
namespace Go.Proofs.YtldbpmlgbbomcaaGreatDoor
open Go.RowKit

def FormAt (l:List Tkn) (m:Nat) (acc:List Exp) (q:Nat) (b:Bool) (G:PR (List Exp)):Prop:=match b with
 | true => G = .bad (l.drop q)
 | false => ((rdForm 1 (l.drop q)).then fun x r => rdArgs m tComma (acc ++ [x]) r) = G
def ArgAt (l:List Tkn) (m:Nat) (acc:List Exp) (q:Nat) (b:Bool) (G:PR (List Exp)):Prop:=match b with
 | true => G = .bad (l.drop q)
 | false => rdArgs m tComma acc (l.drop q) = G
def ArgRel (l:List Tkn) (k j:Nat) (acc:List Exp) (q:Nat) (b:Bool) (G:PR (List Exp)):Prop:=(j = 0 ∧ FormAt l (k - 1) acc q b G) ∨ (0 < j ∧ ArgAt l (k - j) acc q b G)
theorem args_pass {l:List Tkn} {m q:Nat} {b:Bool} {g:ByteArray} {acc:List Exp} {G:PR (List Exp)} (h0:b = true → G = .bad (l.drop q)) (h:b = false → rdArgs (m + 1) g acc (l.drop q) = G):FormAt l m acc (pasP l g q b).1 (pasP l g q b).2 G:=by
 cases b with
 | true =>
  rw [pasP,if_neg (fun h => by cases h.1)]
  exact h0 rfl
 | false =>
  have h:=h rfl
  by_cases ht:isTk g (l.drop q) = true
  ·rw [pasP,if_pos ⟨rfl,ht⟩]
   rw [rdArgs_next ht,drop_tail] at h
   exact h
  ·rw [pasP,if_neg (fun h => ht h.2)]
   rw [rdArgs_bad (by simpa using ht)] at h
   exact h.symm
def FrmOut (l:List Tkn) (q:Nat) (b:Bool) (y:Exp) (p':Nat) (b':Bool):Prop:=(b = false → CbRes l y p' b' (rdForm 1 (l.drop q))) ∧ (b = true → b' = true ∧ l.drop p' = l.drop q)
theorem args_form {l:List Tkn} {m q p':Nat} {b b':Bool} {acc:List Exp} {y:Exp} {G:PR (List Exp)} (h:FormAt l m acc q b G) (ho:FrmOut l q b y p' b'):ArgAt l m (acc ++ [y]) p' b' G:=by
 cases b with
 | true =>
  obtain ⟨rfl,h2⟩:=ho.2 rfl
  show G = .bad (l.drop p')
  rw [h2]
  exact h
 | false =>
  have hc:=ho.1 rfl
  replace h:((rdForm 1 (l.drop q)).then fun x r => rdArgs m tComma (acc ++ [x]) r) = G:=h
  cases b' with
  | false =>
   replace hc:rdForm 1 (l.drop q) = .ok y (l.drop p'):=hc
   rw [hc] at h
   exact h
  | true =>
   replace hc:rdForm 1 (l.drop q) = .bad (l.drop p'):=hc
   rw [hc] at h
   exact h.symm
theorem args_close {l:List Tkn} {q:Nat} {b:Bool} {acc:List Exp} {G:PR (List Exp)} (op:Int) (h:ArgAt l 0 acc q b G):CbRes l (callX op acc) (pasP l tClose q b).1 (pasP l tClose q b).2 (G.then fun l r => .ok (callX op l) r):=by
 cases b with
 | true =>
  replace h:G = .bad (l.drop q):=h
  subst h
  rw [pasP,if_neg (fun h => by cases h.1)]
  rfl
 | false =>
  replace h:rdArgs 0 tComma acc (l.drop q) = G:=h
  rw [rdArgs_zero] at h
  subst h
  by_cases ht:isTk tClose (l.drop q) = true
  ·rw [pasP,if_pos ⟨rfl,ht⟩,wantT,if_pos ht,drop_tail]
   rfl
  ·rw [pasP,if_neg (fun h => ht h.2),wantT,if_neg ht]
   rfl
theorem pas_len {l:List Tkn} {g:ByteArray} {q n:Nat} {b:Bool} (h:b = false → (l.drop q).length < n):(pasP l g q b).2 = false → (l.drop (pasP l g q b).1).length < n:=by
 unfold pasP
 split
 ·rename_i hc
  intro _
  have:=h hc.1
  have:=(tk_lt hc.2).2
  show (l.drop (q + 1)).length < n
  omega
 ·intro e;cases e
theorem out_len {l:List Tkn} {q p' n:Nat} {b b':Bool} {y:Exp} (h:b = false → (l.drop q).length < n) (ho:FrmOut l q b y p' b'):b' = false → (l.drop p').length < n:=by
 intro e
 subst e
 cases b with
 | true => cases (ho.2 rfl).1
 | false =>
  have h1:=rdForm_shr (show rdForm 1 (l.drop q) = .ok y (l.drop p') from ho.1 rfl)
  have:=h rfl
  omega
theorem formula_any (T0 R:Nat) (l:List Tkn) (n:Nat) (hF:FrmN T0 R l n) (q:Nat) (b:Bool) (hb:b = false → (l.drop q).length < n) (w:World) (h:CbS T0 w R l q b) :
  Calls Tryz.prog 21 #[.pointer (some ⟨R,0,none⟩),.int .i64 1] w fun e w' => ∃ y p' b',CbX T0 R l w y p' b' e w' ∧ FrmOut l q b y p' b':=by
 cases b with
 | false =>
  refine (hF 1 q w (by omega) (by omega) (hb rfl) h).mono ?_
  intro e w' hc
  obtain ⟨y,p',b',h1,h2⟩:=cpost_open hc
  exact ⟨y,p',b',h1,fun _ => h2,fun e => by cases e⟩
 | true =>
  refine (formula_step T0 R l 0 1 (by omega) (by omega) q true (.bad (l.drop q)) (fun _ _ _ _ _ h => absurd h (Nat.not_lt_zero _)) (fun w h => (ahead_lost T0 R l q w h).mono fun e w' hx => ⟨zE,q,true,hx,(fun e => by cases e),rfl⟩) w h).mono ?_
  rintro e w' ⟨y,p',h1,h2⟩
  exact ⟨y,p',true,h2,(fun e => by cases e),fun _ => ⟨rfl,h1⟩⟩
def CaX (w:World) (X:Nat) (op:Int) (v:Value):Prop:=(w.cell? ⟨X,0,none⟩ = some (.int .i64 op) ∧ w.cell? ⟨X,1,none⟩ = some (.int .i64 0) ∧ w.cell? ⟨X,2,none⟩ = some (.int .i64 0) ∧ w.cell? ⟨X,3,none⟩ = some (.string ⟨#[]⟩) ∧ w.cell? ⟨X,4,none⟩ = some (.string ⟨#[]⟩) ∧ w.cell? ⟨X,5,none⟩ = some v) ∧ w.frozen? ⟨X,5,none⟩ = false
theorem CaX.block {w w':World} {X:Nat} {op:Int} {v:Value} (h:CaX w X op v) (hb:w'.heap[X]? = w.heap[X]?):CaX w' X op v:=by
 have f:=fun o => World.cell?_of_block (w:=w) (w':=w') (a:=⟨X,o,none⟩) hb
 have g:=fun o => World.frozen?_of_block (w:=w) (w':=w') (a:=⟨X,o,none⟩) hb
 unfold CaX at h ⊢
 simp only [f,g]
 exact h
set_option maxRecDepth 100000 in
set_option maxHeartbeats 8000000 in
theorem ahead_if (T0 R:Nat) (l:List Tkn) (n:Nat) (ihF:FrmN T0 R l n) (p:Nat) (w:World) (hlen:(l.drop p).length ≤ n) (hs:CbS T0 w R l p false) (ht:isTk (sgnN 17) (l.drop p) = true) :
  Calls Tryz.prog 48 #[.pointer (some ⟨R,0,none⟩)] w (CPost T0 R l w (rdOne (l.drop p))):=by
 obtain ⟨i0,ei,ez0,ez1,ez2⟩:=info_parts Tryz.infoExpR
 have hRlt:=hs.lt
 have n0:¬ w.heap.size = R:=by omega
 have n1:¬ w.heap.size + 1 = R:=by omega
 obtain ⟨kp,k160⟩:=hs.bd
 have hnx:=fun w h => climb_next T0 R l p false w h
 rw [rdOne_if ht,drop_tail]
 rw [nxt_eq ht,show sgnN 17 = ⟨#[105,102]⟩ from rfl] at hnx
 obtain ⟨hpl,hql⟩:=tk_lt ht
 obtain ⟨AA,cc,⟨k0,k1,k2,k3,k4⟩,_⟩:=id hs
 obtain ⟨G,hG⟩:∃ G,G = rdArgs 3 tOpen [] (l.drop (p + 1)):=⟨_,rfl⟩
 rw [← hG]
 have hao:∀ w,Calls Tryz.prog 93 #[.int .i64 17] w fun e w' => e = .returned (.int .i64 3) ∧ Below w.heap.size w w':=fun w => ref_argsOf 17 w
 have HAO:=Lib.hid hao
 have HG:=Lib.hid hG
 have HNX:=Lib.hid hnx
 have HF:=Lib.hid ihF
 have HS:=Lib.hid hs
 have HLN:=Lib.hid (show (l.drop (p + 1)).length < n by omega)
 clear hs hnx hao hG ihF hlen hql ht
 go_enter Tryz.func48,Tryz.ntmps48
 go_wp2_with (first
  | (go_at_call 50;refine (HNX.out _ (HS.out.keep bel)).mono ?_;rintro e w1 ⟨rfl,hb1⟩;obtain ⟨hc1,hf1⟩:=bcell hb1;(try simp only [bqh,bqc,bqf] at hc1 hf1);have hz1:=hb1.size;(try simp at hz1);(try have hy1:=nl1 hz1);(try have hx1:=nl2 hy1);refine szz w1 w ?_;intros)
  | (go_at_call 92;refine calls_world ?_;intro W2 hW2;have hs2:CbS T0 W2 R l (p + 1) false:=(by rw [hW2];exact ((HS.out.keep (show Below w.heap.size w w1 from bel)).next hpl).under (n:=R + 1) bel (by omega));have hbW2:Bes R w W2:=(by rw [hW2];exact bes);have hz2:ZBX W2 w.heap.size:=(by rw [hW2];unfold ZBX;and_intros <;> go_simp);have hca2:CaX W2 w1.heap.size 17 (.slice none 0 0):=(by rw [hW2];unfold CaX;and_intros <;> go_simp);have hlW:w1.heap.size < W2.heap.size:=(by rw [hW2];simp);clear hW2;refine (climb_pass_any T0 R l (p + 1) false ⟨#[40]⟩ W2 hs2 (by decide)).mono ?_;rintro e w3 ⟨rfl,hs3,hb3⟩;have hz3:=hb3.size))
 have hw1:w.heap.size < w1.heap.size:=by omega
 have HZ3:=Lib.hid (hz2.block (hb3.block w.heap.size (by omega) n0))
 have HC3:=Lib.hid (hca2.block (hb3.block w1.heap.size hlW (by omega)))
 have HB3:=Lib.hid (And.intro (hbW2.trans hb3) (show w1.heap.size < w3.heap.size by omega))
 have HS3:=Lib.hid hs3
 clear hs2 hbW2 hz2 hca2 hs3 hb3 hc1 hf1 hb1
 generalize hXd:w1.heap.size = X at *
 obtain ⟨op,hop⟩:∃ op:Int,op = 17:=⟨_,rfl⟩
 obtain ⟨k,hk⟩:∃ k:Nat,k = 3:=⟨_,rfl⟩
 rw [← hop] at HC3
 have HOP:=Lib.hid (And.intro hop hk)
 clear hop hk hXd k0 k1 k2 k3 k4
 go_loopw [7] (fun i wr => ∃ (j:Nat) (acc:List Exp) (q:Nat) (b:Bool) (v:Value),j ≤ k ∧ acc.length = j ∧ i = .int .i64 j ∧ Hid (CaX wr X op v) ∧ Hid (ZBX wr w.heap.size) ∧ Hid (Own wr (X + 1) 26 6 XRep v acc) ∧ Hid (CbS T0 wr R l q b ∧ (b = false → (l.drop q).length < n)) ∧ Hid (ArgRel l k j acc q b G) ∧ Bes R w wr ∧ X < wr.heap.size) (fun i _ => k - (intOf i).toNat)
 case atStart => exact ⟨0,[],_,_,_,by omega,rfl,rfl,HC3,HZ3,Lib.hid Own.nil,Lib.hid ⟨HS3.out,pas_len (fun _ => HLN.out)⟩,Lib.hid (.inl ⟨rfl,by rw [HOP.out.2];exact args_pass (fun e => by cases e) (fun _ => HG.out.symm)⟩),HB3.out.1,HB3.out.2⟩
 case round =>
  obtain ⟨j,acc,q,b,v,hj,hacc,rfl,hca,hzb,hown,hrs,har,hb,hXl⟩:=hrel
  have hXR:X ≠ R:=by omega
  have hXR':¬ X = R:=hXR
  have hzw:=hb.size
  have hRr:R < wr.heap.size:=by omega
  have y0:wr.cell? ⟨X,0,none⟩ = some (.int .i64 17):=by rw [← HOP.out.1];exact hca.out.1.1
  have hk3:=HOP.out.2
  by_cases hlt:j < k
  ·have hjk:(j:Int) < 3:=by omega
   have hjk2:j < 3:=by omega
   have HK:=Lib.hid hk3
   rcases har.out with ⟨rfl,hfa⟩ | ⟨hj0,haa⟩
   ·have hacc0:acc.length = 0:=hacc
    clear hk3
    go_wp2_with (go_at_call 93;refine (HAO.out _).mono ?_;rintro e w4 ⟨rfl,hb4⟩;obtain ⟨hc4,hf4⟩:=bcell hb4;(try simp only [bqh,bqc,bqf] at hc4 hf4);have hz4:=hb4.size;(try simp at hz4);(try have hy4:=nl1 hz4);(try have hx4:=nl2 hy4);refine szz w4 wr ?_;intros)
    refine wp_world ?_;intro W5 hW5
    ·have hb45:Bes R wr W5:=by rw [hW5];exact bes
     have hs5:CbS T0 W5 R l q b:=hrs.out.1.keep (by rw [hW5];exact bel)
     clear hW5
     have hz5:=hb45.size
     have hbw5:=hb.trans hb45
     have hca5:CaX W5 X op v:=hca.out.block (hb45.block X hXl hXR)
     have HZ5:=Lib.hid (hzb.out.block (hb45.block w.heap.size (by omega) n0))
     have hown5:Own W5 (X + 1) 26 6 XRep v acc:=Own.ovr keeps_Exp hown.out hz5 (fun b h1 h2 => hb45.block b h2 (by omega))
     obtain ⟨q5,hq5⟩:∃ q5,q5 = q:=⟨_,rfl⟩
     obtain ⟨b5,hb5⟩:∃ b5,b5 = b:=⟨_,rfl⟩
     rw [← hq5,← hb5] at hs5
     have hln5:b5 = false → (l.drop q5).length < n:=by rw [hq5,hb5];exact hrs.out.2
     have hfa5:FormAt l (k - 1) acc q5 b5 G:=by rw [hq5,hb5];exact hfa
     clear hq5 hb5 hfa
     have HC5:=Lib.hid hca5
     have HO5:=Lib.hid hown5
     have HS5:=Lib.hid (And.intro hs5 (And.intro hln5 hfa5))
     clear hca5 hown5 hs5 hln5 hfa5
     have hS0:W5.drew.cell? ⟨X,5,none⟩ = some v:=by have h:=HC5.out.1.2.2.2.2.2;simpa only [World.cell?_drew] using h
     refine wp_region_T (fun w' => w'.cell? ⟨X,5,none⟩ = some v) 7 (by kernel_rfl) ?_
     refine wpAnyT_take (i:=0) (oi:=_) (v:=?_) rfl (by kernel_rfl) (fun _ _ _ h => h) hS0 (by rfl) ?_ ?_
     rotate_left
     ·intro w' hS';(try dsimp only at hS');(try go_split_ands);go_simp;(try rw [if_neg (by omega)]);try with_reducible rfl
     simp only [Act.put,List.setIfInBounds_toArray,List.set_cons_zero,List.set_cons_succ]
     refine wpAnyT_take (i:=1) (oi:=_) (v:=?_) rfl (by kernel_rfl) (fun _ _ _ h => h) hS0 (by rfl) ?_ ?_
     rotate_left
     ·intro w' hS';(try dsimp only at hS');(try go_split_ands);go_simp;(try rw [if_neg (by omega)]);try with_reducible rfl
     simp only [Act.put,List.setIfInBounds_toArray,List.set_cons_zero,List.set_cons_succ]
     refine wpAnyT_take (i:=2) (oi:=_) (v:=?_) rfl (by kernel_rfl) (fun _ _ _ h => h) hS0 (by rfl) ?_ ?_
     rotate_left
     ·intro w' hS';(try dsimp only at hS');(try go_split_ands);go_simp;(try rw [if_neg (by omega)]);try with_reducible rfl
     simp only [Act.put,List.setIfInBounds_toArray,List.set_cons_zero,List.set_cons_succ]
     refine wpAnyT_one (i:=3) (o:=_) rfl (by kernel_rfl) (fun K hK => ?_)
     go_simp
     go_at_call 21;refine (formula_any T0 R l n HF.out q5 b5 HS5.out.2.1 _ (HS5.out.1.keep (Below.drew (Below.refl _ _)))).mono ?_
     rintro e w6 ⟨y,p6,b6,⟨A6,c6,rfl,hr6,hs6,hb6⟩,ho6⟩
     have hz6:W5.heap.size ≤ w6.heap.size:=hb6.size
     have hb56:Bes R W5 w6:=(bes_drew (Bes.refl R W5)).trans hb6
     have hS6:w6.cell? ⟨X,5,none⟩ = some v:=(World.cell?_of_block (a:=⟨X,5,none⟩) (hb56.block X (by omega) hXR)).trans HC5.out.1.2.2.2.2.2
     have HO6:=Lib.hid (Own.ovr keeps_Exp HO5.out hz6 (fun b h1 h2 => hb56.block b h2 (by omega)))
     refine hK.out _ _ (fun _ => hS6) ?_
     clear hK K
     try simp only [Act.put,List.setIfInBounds_toArray,List.set_cons_zero,List.set_cons_succ]
     refine wpAnyT_one (i:=4) (o:=_) rfl (by kernel_rfl) (fun K hK => ?_)
     go_simp
     refine hK.out _ _ (fun _ => cell_keep hS6 ((Below.refl _ _).alloc (Nat.le_refl _) _)) ?_
     clear hK K
     try simp only [Act.put,List.setIfInBounds_toArray,List.set_cons_zero,List.set_cons_succ]
     refine wpAnyT_one (i:=5) (o:=_) rfl (by kernel_rfl) (fun K hK => ?_)
     refine step_append_Own keeps_Exp rfl (.tmp 76) (.tmp 79) 24 rfl (X + 1) 26 i0 _ 6 80 Tryz.underlying24 ei ez0 ez1 ez2 rfl (by decide) v acc rfl HO6.out [.int .i64 y.op,.int .i64 y.v.k,.int .i64 y.v.n,.string y.v.s,.string y.name,.slice A6 y.args.length c6] 26 rfl _ rfl rfl rfl (by simp [Value.oneCell']) (by omega) (by unfold maxLen;omega) (by omega) y (hr6.keep fun b hb => ⟨⟨by have:=hb.1;simp [heap_drew] at this;omega,hb.2,fun e => by have h1:=(HO5.out.lt b e.symm).2;have h2:=hb.1;simp [heap_drew] at h2;omega⟩,rfl⟩) ?_
     intro g' cap w7 hown7 hb7 hz7 hk7 _
     have hkX:=hk7 X (by omega) (fun e => by have:=(HO6.out.lt _ e.symm).1;omega)
     have hkw:=hk7 w.heap.size (by omega) (fun e => by have:=(HO6.out.lt _ e.symm).1;omega)
     have hS7:=(World.cell?_of_block (a:=⟨X,5,none⟩) hkX).trans hS6
     refine hK.out _ _ (fun _ => hS7) ?_
     clear hK K
     try simp only [Act.put,List.setIfInBounds_toArray,List.set_cons_zero,List.set_cons_succ]
     refine wpAnyT_take (i:=6) (oi:=_) (v:=?_) rfl (by kernel_rfl) (fun _ _ _ h => h) hS7 (by rfl) ?_ ?_
     rotate_left
     ·intro w' hS';(try dsimp only at hS');(try go_split_ands);go_simp;(try rw [if_neg (by omega)]);try with_reducible rfl
     simp only [Act.put,List.setIfInBounds_toArray,List.set_cons_zero,List.set_cons_succ]
     refine wpAnyT_one (i:=7) (o:=_) rfl (by kernel_rfl) (fun K hK => ?_)
     have hc7:CaX w7 X op v:=HC5.out.block (hkX.trans (hb56.block X (by omega) hXR))
     have hf7:=hc7.2
     have hl7:X < w7.heap.size:=by omega
     go_simp
     refine hK.out _ _ (fun h => absurd h (by decide)) ?_
     clear hK K
     refine wpAnyT_done (by kernel_rfl) ?_ _
     try simp only [Act.put,List.setIfInBounds_toArray,List.set_cons_zero,List.set_cons_succ]
     have HC7:=Lib.hid hc7
     clear hc7 hf7 hS0 hS6 hS7
     refine exit_world ?_;intro W8 hW8
     have hc8:CaX W8 X op (.slice (some ⟨g',0,none⟩) (acc.length + 1) cap):=by
      have h:=HC7.out
      unfold CaX at h
      obtain ⟨⟨c0,c1,c2,c3,c4,c5⟩,c6⟩:=h
      rw [hW8]
      unfold CaX
      and_intros <;> go_simp
     have hown8:Own W8 (X + 1) 26 6 XRep (.slice (some ⟨g',0,none⟩) (acc.length + 1) cap) (acc ++ [y]):=by rw [hW8];exact hown7.set keeps_Exp _ _ (by simp)
     have hb8:Bes X w7 W8:=by rw [hW8];exact bes
     clear hW8
     have hs7:CbS T0 w7 R l p6 b6:=hs6.under hb7 (by omega)
     have hz8:=hb8.size
     have hbw8:Bes R w W8:=bes_mix (((hbw5.trans hb56).of_step hb7 (by omega))) hb8 (by omega)
     have HX8:=Lib.hid (And.intro hc8 hown8)
     have HZ8:=Lib.hid (HZ5.out.block ((hb8.block w.heap.size (by omega) (by omega)).trans (hkw.trans (hb56.block w.heap.size (by omega) n0))))
     have HS8:=Lib.hid (And.intro (hs7.bes hb8 (by omega) (by omega)) (out_len HS5.out.2.1 ho6))
     have HA8:=Lib.hid (show ArgRel l k (0 + 1) (acc ++ [y]) p6 b6 G from .inr ⟨by omega,by rw [show k - (0 + 1) = k - 1 by omega];exact args_form HS5.out.2.2 ho6⟩)
     clear hc8 hown8 hs7
     go_wp2_with fail
     go_roundw
     case rel => exact ⟨0 + 1,acc ++ [y],p6,b6,_,by omega,by rw [List.length_append,hacc];rfl,by go_num,Lib.hid HX8.out.1,HZ8,Lib.hid HX8.out.2,HS8,HA8,hbw8,by omega⟩
     case measure => simp [intOf];omega
   ·have hj0':(0:Int) < (j:Int):=by omega
    clear hk3
    go_wp2_with (first
     | (go_at_call 93;refine (HAO.out _).mono ?_;rintro e w4 ⟨rfl,hb4⟩;obtain ⟨hc4,hf4⟩:=bcell hb4;(try simp only [bqh,bqc,bqf] at hc4 hf4);have hz4:=hb4.size;(try simp at hz4);(try have hy4:=nl1 hz4);(try have hx4:=nl2 hy4);refine szz w4 wr ?_;intros)
     | (go_at_call 92;refine calls_world ?_;intro W4 hW4;have hs4p:CbS T0 W4 R l q b:=(by rw [hW4];exact hrs.out.1.keep bel);have hb4p:Bes R wr W4:=(by rw [hW4];exact bes);clear hW4;refine (climb_pass_any T0 R l q b ⟨#[44]⟩ W4 hs4p (by decide)).mono ?_;rintro e w5 ⟨rfl,hs5p,hb5⟩))
    refine wp_world ?_;intro W5 hW5
    ·have hb45:Bes R wr W5:=by rw [hW5];exact hb4p.trans hb5
     have hs5:CbS T0 W5 R l (pasP l tComma q b).1 (pasP l tComma q b).2:=by rw [hW5];exact hs5p
     clear hW5 hs5p hb4p hs4p hb5
     have hz5:=hb45.size
     have hbw5:=hb.trans hb45
     have hca5:CaX W5 X op v:=hca.out.block (hb45.block X hXl hXR)
     have HZ5:=Lib.hid (hzb.out.block (hb45.block w.heap.size (by omega) n0))
     have hown5:Own W5 (X + 1) 26 6 XRep v acc:=Own.ovr keeps_Exp hown.out hz5 (fun b h1 h2 => hb45.block b h2 (by omega))
     have hln5:(pasP l tComma q b).2 = false → (l.drop (pasP l tComma q b).1).length < n:=pas_len hrs.out.2
     have hfa5:FormAt l (k - (j + 1)) acc (pasP l tComma q b).1 (pasP l tComma q b).2 G:=args_pass (fun e => by subst e;exact haa) (fun e => by subst e;rw [show k - (j + 1) + 1 = k - j by omega];exact haa)
     generalize (pasP l tComma q b).1 = q5 at *
     generalize (pasP l tComma q b).2 = b5 at *
     clear haa
     have HC5:=Lib.hid hca5
     have HO5:=Lib.hid hown5
     have HS5:=Lib.hid (And.intro hs5 (And.intro hln5 hfa5))
     clear hca5 hown5 hs5 hln5 hfa5
     have hS0:W5.drew.cell? ⟨X,5,none⟩ = some v:=by have h:=HC5.out.1.2.2.2.2.2;simpa only [World.cell?_drew] using h
     refine wp_region_T (fun w' => w'.cell? ⟨X,5,none⟩ = some v) 7 (by kernel_rfl) ?_
     refine wpAnyT_take (i:=0) (oi:=_) (v:=?_) rfl (by kernel_rfl) (fun _ _ _ h => h) hS0 (by rfl) ?_ ?_
     rotate_left
     ·intro w' hS';(try dsimp only at hS');(try go_split_ands);go_simp;(try rw [if_neg (by omega)]);try with_reducible rfl
     simp only [Act.put,List.setIfInBounds_toArray,List.set_cons_zero,List.set_cons_succ]
     refine wpAnyT_take (i:=1) (oi:=_) (v:=?_) rfl (by kernel_rfl) (fun _ _ _ h => h) hS0 (by rfl) ?_ ?_
     rotate_left
     ·intro w' hS';(try dsimp only at hS');(try go_split_ands);go_simp;(try rw [if_neg (by omega)]);try with_reducible rfl
     simp only [Act.put,List.setIfInBounds_toArray,List.set_cons_zero,List.set_cons_succ]
     refine wpAnyT_take (i:=2) (oi:=_) (v:=?_) rfl (by kernel_rfl) (fun _ _ _ h => h) hS0 (by rfl) ?_ ?_
     rotate_left
     ·intro w' hS';(try dsimp only at hS');(try go_split_ands);go_simp;(try rw [if_neg (by omega)]);try with_reducible rfl
     simp only [Act.put,List.setIfInBounds_toArray,List.set_cons_zero,List.set_cons_succ]
     refine wpAnyT_one (i:=3) (o:=_) rfl (by kernel_rfl) (fun K hK => ?_)
     go_simp
     go_at_call 21;refine (formula_any T0 R l n HF.out q5 b5 HS5.out.2.1 _ (HS5.out.1.keep (Below.drew (Below.refl _ _)))).mono ?_
     rintro e w6 ⟨y,p6,b6,⟨A6,c6,rfl,hr6,hs6,hb6⟩,ho6⟩
     have hz6:W5.heap.size ≤ w6.heap.size:=hb6.size
     have hb56:Bes R W5 w6:=(bes_drew (Bes.refl R W5)).trans hb6
     have hS6:w6.cell? ⟨X,5,none⟩ = some v:=(World.cell?_of_block (a:=⟨X,5,none⟩) (hb56.block X (by omega) hXR)).trans HC5.out.1.2.2.2.2.2
     have HO6:=Lib.hid (Own.ovr keeps_Exp HO5.out hz6 (fun b h1 h2 => hb56.block b h2 (by omega)))
     refine hK.out _ _ (fun _ => hS6) ?_
     clear hK K
     try simp only [Act.put,List.setIfInBounds_toArray,List.set_cons_zero,List.set_cons_succ]
     refine wpAnyT_one (i:=4) (o:=_) rfl (by kernel_rfl) (fun K hK => ?_)
     go_simp
     refine hK.out _ _ (fun _ => cell_keep hS6 ((Below.refl _ _).alloc (Nat.le_refl _) _)) ?_
     clear hK K
     try simp only [Act.put,List.setIfInBounds_toArray,List.set_cons_zero,List.set_cons_succ]
     refine wpAnyT_one (i:=5) (o:=_) rfl (by kernel_rfl) (fun K hK => ?_)
     refine step_append_Own keeps_Exp rfl (.tmp 76) (.tmp 79) 24 rfl (X + 1) 26 i0 _ 6 80 Tryz.underlying24 ei ez0 ez1 ez2 rfl (by decide) v acc rfl HO6.out [.int .i64 y.op,.int .i64 y.v.k,.int .i64 y.v.n,.string y.v.s,.string y.name,.slice A6 y.args.length c6] 26 rfl _ rfl rfl rfl (by simp [Value.oneCell']) (by omega) (by unfold maxLen;omega) (by omega) y (hr6.keep fun b hb => ⟨⟨by have:=hb.1;simp [heap_drew] at this;omega,hb.2,fun e => by have h1:=(HO5.out.lt b e.symm).2;have h2:=hb.1;simp [heap_drew] at h2;omega⟩,rfl⟩) ?_
     intro g' cap w7 hown7 hb7 hz7 hk7 _
     have hkX:=hk7 X (by omega) (fun e => by have:=(HO6.out.lt _ e.symm).1;omega)
     have hkw:=hk7 w.heap.size (by omega) (fun e => by have:=(HO6.out.lt _ e.symm).1;omega)
     have hS7:=(World.cell?_of_block (a:=⟨X,5,none⟩) hkX).trans hS6
     refine hK.out _ _ (fun _ => hS7) ?_
     clear hK K
     try simp only [Act.put,List.setIfInBounds_toArray,List.set_cons_zero,List.set_cons_succ]
     refine wpAnyT_take (i:=6) (oi:=_) (v:=?_) rfl (by kernel_rfl) (fun _ _ _ h => h) hS7 (by rfl) ?_ ?_
     rotate_left
     ·intro w' hS';(try dsimp only at hS');(try go_split_ands);go_simp;(try rw [if_neg (by omega)]);try with_reducible rfl
     simp only [Act.put,List.setIfInBounds_toArray,List.set_cons_zero,List.set_cons_succ]
     refine wpAnyT_one (i:=7) (o:=_) rfl (by kernel_rfl) (fun K hK => ?_)
     have hc7:CaX w7 X op v:=HC5.out.block (hkX.trans (hb56.block X (by omega) hXR))
     have hf7:=hc7.2
     have hl7:X < w7.heap.size:=by omega
     go_simp
     refine hK.out _ _ (fun h => absurd h (by decide)) ?_
     clear hK K
     refine wpAnyT_done (by kernel_rfl) ?_ _
     try simp only [Act.put,List.setIfInBounds_toArray,List.set_cons_zero,List.set_cons_succ]
     have HC7:=Lib.hid hc7
     clear hc7 hf7 hS0 hS6 hS7
     refine exit_world ?_;intro W8 hW8
     have hc8:CaX W8 X op (.slice (some ⟨g',0,none⟩) (acc.length + 1) cap):=by
      have h:=HC7.out
      unfold CaX at h
      obtain ⟨⟨c0,c1,c2,c3,c4,c5⟩,c6⟩:=h
      rw [hW8]
      unfold CaX
      and_intros <;> go_simp
     have hown8:Own W8 (X + 1) 26 6 XRep (.slice (some ⟨g',0,none⟩) (acc.length + 1) cap) (acc ++ [y]):=by rw [hW8];exact hown7.set keeps_Exp _ _ (by simp)
     have hb8:Bes X w7 W8:=by rw [hW8];exact bes
     clear hW8
     have hs7:CbS T0 w7 R l p6 b6:=hs6.under hb7 (by omega)
     have hz8:=hb8.size
     have hbw8:Bes R w W8:=bes_mix (((hbw5.trans hb56).of_step hb7 (by omega))) hb8 (by omega)
     have HX8:=Lib.hid (And.intro hc8 hown8)
     have HZ8:=Lib.hid (HZ5.out.block ((hb8.block w.heap.size (by omega) (by omega)).trans (hkw.trans (hb56.block w.heap.size (by omega) n0))))
     have HS8:=Lib.hid (And.intro (hs7.bes hb8 (by omega) (by omega)) (out_len HS5.out.2.1 ho6))
     have HA8:=Lib.hid (show ArgRel l k (j + 1) (acc ++ [y]) p6 b6 G from .inr ⟨by omega,by rw [show k - (j + 1) = k - (j + 1) by omega];exact args_form HS5.out.2.2 ho6⟩)
     clear hc8 hown8 hs7
     go_wp2_with fail
     go_roundw
     case rel => exact ⟨j + 1,acc ++ [y],p6,b6,_,by omega,by rw [List.length_append,hacc];rfl,by go_num,Lib.hid HX8.out.1,HZ8,Lib.hid HX8.out.2,HS8,HA8,hbw8,by omega⟩
     case measure => simp [intOf];omega
  ·have hjk:j = k:=by omega
   subst hjk
   have haa:ArgAt l 0 acc q b G:=by
    rcases har.out with ⟨h,_⟩ | ⟨_,h⟩
    ·omega
    ·rw [Nat.sub_self] at h;exact h
   have hjk':¬ (j:Int) < 3:=by omega
   have hac3:acc.length ≤ 3:=by omega
   have HAA:=Lib.hid (And.intro haa hac3)
   obtain ⟨A9,c9,rfl,hc9,hsl⟩:=hown.out.sl keeps_Exp
   have HSL:=Lib.hid (And.intro hsl hc9)
   clear hk3 haa hac3 hsl hc9 hacc
   go_wp2_with (first
    | (go_at_call 93;refine (HAO.out _).mono ?_;rintro e w4 ⟨rfl,hb4⟩;obtain ⟨hc4,hf4⟩:=bcell hb4;(try simp only [bqh,bqc,bqf] at hc4 hf4);have hz4:=hb4.size;(try simp at hz4);(try have hy4:=nl1 hz4);(try have hx4:=nl2 hy4);refine szz w4 wr ?_;intros)
    | (go_at_call 92;refine calls_world ?_;intro W4 hW4;have hs4p:CbS T0 W4 R l q b:=(by rw [hW4];exact hrs.out.1.keep bel);have hb4p:Bes R wr W4:=(by rw [hW4];exact bes);clear hW4;refine (climb_pass_any T0 R l q b ⟨#[41]⟩ W4 hs4p (by decide)).mono ?_;rintro e w5 ⟨rfl,hs5p,hb5⟩;have hb45:=hb4p.trans hb5;have hz5:=hb45.size;have hbw5:=hb.trans hb45;obtain ⟨⟨c0,c1,c2,c3,c4,c5⟩,_⟩:=hca.out.block (hb45.block X hXl hXR);rw [HOP.out.1] at c0;obtain ⟨⟨z0,z1,z2,z3,z4,z5⟩,q0,q1,q2,q3,q4,q5⟩:=hzb.out.block (hb45.block w.heap.size (by omega) n0);have lR5:R < w5.heap.size:=(by omega);have lw5:w.heap.size < w5.heap.size:=(by omega);have lX5:X < w5.heap.size:=(by omega);have nX5:¬ w.heap.size = X:=(by omega);have hpp:∀ W,Bes w.heap.size w5 W → Sl W (fresh w W) 6 (XRep W (fresh w W)) A9 acc.length acc:=(fun W h => HSL.out.1.keepN keeps_Exp fun b hb' => ⟨⟨by have:=hb'.1;omega,by have:=hb'.2;have:=h.size;omega⟩,(h.block b (by have:=hb'.2;omega) (by have:=hb'.1;omega)).trans (hb45.block b hb'.2 (by have:=hb'.1;omega))⟩)))
   have HS5:=Lib.hid hs5p
   exact bodyPost_ret (v:=.agg #[.int .i64 17,.int .i64 0,.int .i64 0,.string ⟨#[]⟩,.string ⟨#[]⟩,.slice A9 acc.length c9]) (by first | (simp [results,Tryz.results48,go_sem];done) | (simp [results,Tryz.results48,go_sem, *];done)) rfl (cpost_shut (x:=callX 17 acc) ⟨A9,c9,rfl,call_rep (l:=acc) 17 rfl HAA.out.2 HSL.out.2 (hpp _ bes),HS5.out.under (n:=R + 1) bel (by omega),bes⟩ (args_close 17 HAA.out.1))
set_option maxRecDepth 100000 in
set_option maxHeartbeats 8000000 in
theorem ahead_len (T0 R:Nat) (l:List Tkn) (n:Nat) (ihF:FrmN T0 R l n) (p:Nat) (w:World) (hlen:(l.drop p).length ≤ n) (hs:CbS T0 w R l p false) (ht:isTk (sgnN 18) (l.drop p) = true) :
  Calls Tryz.prog 48 #[.pointer (some ⟨R,0,none⟩)] w (CPost T0 R l w (rdOne (l.drop p))):=by
 obtain ⟨i0,ei,ez0,ez1,ez2⟩:=info_parts Tryz.infoExpR
 have hRlt:=hs.lt
 have n0:¬ w.heap.size = R:=by omega
 have n1:¬ w.heap.size + 1 = R:=by omega
 obtain ⟨kp,k160⟩:=hs.bd
 have hnx:=fun w h => climb_next T0 R l p false w h
 rw [rdOne_len ht,drop_tail]
 rw [nxt_eq ht,show sgnN 18 = ⟨#[108,101,110]⟩ from rfl] at hnx
 obtain ⟨hpl,hql⟩:=tk_lt ht
 obtain ⟨AA,cc,⟨k0,k1,k2,k3,k4⟩,_⟩:=id hs
 obtain ⟨G,hG⟩:∃ G,G = rdArgs 1 tOpen [] (l.drop (p + 1)):=⟨_,rfl⟩
 rw [← hG]
 have hao:∀ w,Calls Tryz.prog 93 #[.int .i64 18] w fun e w' => e = .returned (.int .i64 1) ∧ Below w.heap.size w w':=fun w => ref_argsOf 18 w
 have HAO:=Lib.hid hao
 have HG:=Lib.hid hG
 have HNX:=Lib.hid hnx
 have HF:=Lib.hid ihF
 have HS:=Lib.hid hs
 have HLN:=Lib.hid (show (l.drop (p + 1)).length < n by omega)
 clear hs hnx hao hG ihF hlen hql ht
 go_enter Tryz.func48,Tryz.ntmps48
 go_wp2_with (first
  | (go_at_call 50;refine (HNX.out _ (HS.out.keep bel)).mono ?_;rintro e w1 ⟨rfl,hb1⟩;obtain ⟨hc1,hf1⟩:=bcell hb1;(try simp only [bqh,bqc,bqf] at hc1 hf1);have hz1:=hb1.size;(try simp at hz1);(try have hy1:=nl1 hz1);(try have hx1:=nl2 hy1);refine szz w1 w ?_;intros)
  | (go_at_call 92;refine calls_world ?_;intro W2 hW2;have hs2:CbS T0 W2 R l (p + 1) false:=(by rw [hW2];exact ((HS.out.keep (show Below w.heap.size w w1 from bel)).next hpl).under (n:=R + 1) bel (by omega));have hbW2:Bes R w W2:=(by rw [hW2];exact bes);have hz2:ZBX W2 w.heap.size:=(by rw [hW2];unfold ZBX;and_intros <;> go_simp);have hca2:CaX W2 w1.heap.size 18 (.slice none 0 0):=(by rw [hW2];unfold CaX;and_intros <;> go_simp);have hlW:w1.heap.size < W2.heap.size:=(by rw [hW2];simp);clear hW2;refine (climb_pass_any T0 R l (p + 1) false ⟨#[40]⟩ W2 hs2 (by decide)).mono ?_;rintro e w3 ⟨rfl,hs3,hb3⟩;have hz3:=hb3.size))
 have hw1:w.heap.size < w1.heap.size:=by omega
 have HZ3:=Lib.hid (hz2.block (hb3.block w.heap.size (by omega) n0))
 have HC3:=Lib.hid (hca2.block (hb3.block w1.heap.size hlW (by omega)))
 have HB3:=Lib.hid (And.intro (hbW2.trans hb3) (show w1.heap.size < w3.heap.size by omega))
 have HS3:=Lib.hid hs3
 clear hs2 hbW2 hz2 hca2 hs3 hb3 hc1 hf1 hb1
 generalize hXd:w1.heap.size = X at *
 obtain ⟨op,hop⟩:∃ op:Int,op = 18:=⟨_,rfl⟩
 obtain ⟨k,hk⟩:∃ k:Nat,k = 1:=⟨_,rfl⟩
 rw [← hop] at HC3
 have HOP:=Lib.hid (And.intro hop hk)
 clear hop hk hXd k0 k1 k2 k3 k4
 go_loopw [7] (fun i wr => ∃ (j:Nat) (acc:List Exp) (q:Nat) (b:Bool) (v:Value),j ≤ k ∧ acc.length = j ∧ i = .int .i64 j ∧ Hid (CaX wr X op v) ∧ Hid (ZBX wr w.heap.size) ∧ Hid (Own wr (X + 1) 26 6 XRep v acc) ∧ Hid (CbS T0 wr R l q b ∧ (b = false → (l.drop q).length < n)) ∧ Hid (ArgRel l k j acc q b G) ∧ Bes R w wr ∧ X < wr.heap.size) (fun i _ => k - (intOf i).toNat)
 case atStart => exact ⟨0,[],_,_,_,by omega,rfl,rfl,HC3,HZ3,Lib.hid Own.nil,Lib.hid ⟨HS3.out,pas_len (fun _ => HLN.out)⟩,Lib.hid (.inl ⟨rfl,by rw [HOP.out.2];exact args_pass (fun e => by cases e) (fun _ => HG.out.symm)⟩),HB3.out.1,HB3.out.2⟩
 case round =>
  obtain ⟨j,acc,q,b,v,hj,hacc,rfl,hca,hzb,hown,hrs,har,hb,hXl⟩:=hrel
  have hXR:X ≠ R:=by omega
  have hXR':¬ X = R:=hXR
  have hzw:=hb.size
  have hRr:R < wr.heap.size:=by omega
  have y0:wr.cell? ⟨X,0,none⟩ = some (.int .i64 18):=by rw [← HOP.out.1];exact hca.out.1.1
  have hk3:=HOP.out.2
  by_cases hlt:j < k
  ·have hjk:(j:Int) < 1:=by omega
   have hjk2:j < 1:=by omega
   have HK:=Lib.hid hk3
   rcases har.out with ⟨rfl,hfa⟩ | ⟨hj0,haa⟩
   ·have hacc0:acc.length = 0:=hacc
    clear hk3
    go_wp2_with (go_at_call 93;refine (HAO.out _).mono ?_;rintro e w4 ⟨rfl,hb4⟩;obtain ⟨hc4,hf4⟩:=bcell hb4;(try simp only [bqh,bqc,bqf] at hc4 hf4);have hz4:=hb4.size;(try simp at hz4);(try have hy4:=nl1 hz4);(try have hx4:=nl2 hy4);refine szz w4 wr ?_;intros)
    refine wp_world ?_;intro W5 hW5
    ·have hb45:Bes R wr W5:=by rw [hW5];exact bes
     have hs5:CbS T0 W5 R l q b:=hrs.out.1.keep (by rw [hW5];exact bel)
     clear hW5
     have hz5:=hb45.size
     have hbw5:=hb.trans hb45
     have hca5:CaX W5 X op v:=hca.out.block (hb45.block X hXl hXR)
     have HZ5:=Lib.hid (hzb.out.block (hb45.block w.heap.size (by omega) n0))
     have hown5:Own W5 (X + 1) 26 6 XRep v acc:=Own.ovr keeps_Exp hown.out hz5 (fun b h1 h2 => hb45.block b h2 (by omega))
     obtain ⟨q5,hq5⟩:∃ q5,q5 = q:=⟨_,rfl⟩
     obtain ⟨b5,hb5⟩:∃ b5,b5 = b:=⟨_,rfl⟩
     rw [← hq5,← hb5] at hs5
     have hln5:b5 = false → (l.drop q5).length < n:=by rw [hq5,hb5];exact hrs.out.2
     have hfa5:FormAt l (k - 1) acc q5 b5 G:=by rw [hq5,hb5];exact hfa
     clear hq5 hb5 hfa
     have HC5:=Lib.hid hca5
     have HO5:=Lib.hid hown5
     have HS5:=Lib.hid (And.intro hs5 (And.intro hln5 hfa5))
     clear hca5 hown5 hs5 hln5 hfa5
     have hS0:W5.drew.cell? ⟨X,5,none⟩ = some v:=by have h:=HC5.out.1.2.2.2.2.2;simpa only [World.cell?_drew] using h
     refine wp_region_T (fun w' => w'.cell? ⟨X,5,none⟩ = some v) 7 (by kernel_rfl) ?_
     refine wpAnyT_take (i:=0) (oi:=_) (v:=?_) rfl (by kernel_rfl) (fun _ _ _ h => h) hS0 (by rfl) ?_ ?_
     rotate_left
     ·intro w' hS';(try dsimp only at hS');(try go_split_ands);go_simp;(try rw [if_neg (by omega)]);try with_reducible rfl
     simp only [Act.put,List.setIfInBounds_toArray,List.set_cons_zero,List.set_cons_succ]
     refine wpAnyT_take (i:=1) (oi:=_) (v:=?_) rfl (by kernel_rfl) (fun _ _ _ h => h) hS0 (by rfl) ?_ ?_
     rotate_left
     ·intro w' hS';(try dsimp only at hS');(try go_split_ands);go_simp;(try rw [if_neg (by omega)]);try with_reducible rfl
     simp only [Act.put,List.setIfInBounds_toArray,List.set_cons_zero,List.set_cons_succ]
     refine wpAnyT_take (i:=2) (oi:=_) (v:=?_) rfl (by kernel_rfl) (fun _ _ _ h => h) hS0 (by rfl) ?_ ?_
     rotate_left
     ·intro w' hS';(try dsimp only at hS');(try go_split_ands);go_simp;(try rw [if_neg (by omega)]);try with_reducible rfl
     simp only [Act.put,List.setIfInBounds_toArray,List.set_cons_zero,List.set_cons_succ]
     refine wpAnyT_one (i:=3) (o:=_) rfl (by kernel_rfl) (fun K hK => ?_)
     go_simp
     go_at_call 21;refine (formula_any T0 R l n HF.out q5 b5 HS5.out.2.1 _ (HS5.out.1.keep (Below.drew (Below.refl _ _)))).mono ?_
     rintro e w6 ⟨y,p6,b6,⟨A6,c6,rfl,hr6,hs6,hb6⟩,ho6⟩
     have hz6:W5.heap.size ≤ w6.heap.size:=hb6.size
     have hb56:Bes R W5 w6:=(bes_drew (Bes.refl R W5)).trans hb6
     have hS6:w6.cell? ⟨X,5,none⟩ = some v:=(World.cell?_of_block (a:=⟨X,5,none⟩) (hb56.block X (by omega) hXR)).trans HC5.out.1.2.2.2.2.2
     have HO6:=Lib.hid (Own.ovr keeps_Exp HO5.out hz6 (fun b h1 h2 => hb56.block b h2 (by omega)))
     refine hK.out _ _ (fun _ => hS6) ?_
     clear hK K
     try simp only [Act.put,List.setIfInBounds_toArray,List.set_cons_zero,List.set_cons_succ]
     refine wpAnyT_one (i:=4) (o:=_) rfl (by kernel_rfl) (fun K hK => ?_)
     go_simp
     refine hK.out _ _ (fun _ => cell_keep hS6 ((Below.refl _ _).alloc (Nat.le_refl _) _)) ?_
     clear hK K
     try simp only [Act.put,List.setIfInBounds_toArray,List.set_cons_zero,List.set_cons_succ]
     refine wpAnyT_one (i:=5) (o:=_) rfl (by kernel_rfl) (fun K hK => ?_)
     refine step_append_Own keeps_Exp rfl (.tmp 76) (.tmp 79) 24 rfl (X + 1) 26 i0 _ 6 80 Tryz.underlying24 ei ez0 ez1 ez2 rfl (by decide) v acc rfl HO6.out [.int .i64 y.op,.int .i64 y.v.k,.int .i64 y.v.n,.string y.v.s,.string y.name,.slice A6 y.args.length c6] 26 rfl _ rfl rfl rfl (by simp [Value.oneCell']) (by omega) (by unfold maxLen;omega) (by omega) y (hr6.keep fun b hb => ⟨⟨by have:=hb.1;simp [heap_drew] at this;omega,hb.2,fun e => by have h1:=(HO5.out.lt b e.symm).2;have h2:=hb.1;simp [heap_drew] at h2;omega⟩,rfl⟩) ?_
     intro g' cap w7 hown7 hb7 hz7 hk7 _
     have hkX:=hk7 X (by omega) (fun e => by have:=(HO6.out.lt _ e.symm).1;omega)
     have hkw:=hk7 w.heap.size (by omega) (fun e => by have:=(HO6.out.lt _ e.symm).1;omega)
     have hS7:=(World.cell?_of_block (a:=⟨X,5,none⟩) hkX).trans hS6
     refine hK.out _ _ (fun _ => hS7) ?_
     clear hK K
     try simp only [Act.put,List.setIfInBounds_toArray,List.set_cons_zero,List.set_cons_succ]
     refine wpAnyT_take (i:=6) (oi:=_) (v:=?_) rfl (by kernel_rfl) (fun _ _ _ h => h) hS7 (by rfl) ?_ ?_
     rotate_left
     ·intro w' hS';(try dsimp only at hS');(try go_split_ands);go_simp;(try rw [if_neg (by omega)]);try with_reducible rfl
     simp only [Act.put,List.setIfInBounds_toArray,List.set_cons_zero,List.set_cons_succ]
     refine wpAnyT_one (i:=7) (o:=_) rfl (by kernel_rfl) (fun K hK => ?_)
     have hc7:CaX w7 X op v:=HC5.out.block (hkX.trans (hb56.block X (by omega) hXR))
     have hf7:=hc7.2
     have hl7:X < w7.heap.size:=by omega
     go_simp
     refine hK.out _ _ (fun h => absurd h (by decide)) ?_
     clear hK K
     refine wpAnyT_done (by kernel_rfl) ?_ _
     try simp only [Act.put,List.setIfInBounds_toArray,List.set_cons_zero,List.set_cons_succ]
     have HC7:=Lib.hid hc7
     clear hc7 hf7 hS0 hS6 hS7
     refine exit_world ?_;intro W8 hW8
     have hc8:CaX W8 X op (.slice (some ⟨g',0,none⟩) (acc.length + 1) cap):=by
      have h:=HC7.out
      unfold CaX at h
      obtain ⟨⟨c0,c1,c2,c3,c4,c5⟩,c6⟩:=h
      rw [hW8]
      unfold CaX
      and_intros <;> go_simp
     have hown8:Own W8 (X + 1) 26 6 XRep (.slice (some ⟨g',0,none⟩) (acc.length + 1) cap) (acc ++ [y]):=by rw [hW8];exact hown7.set keeps_Exp _ _ (by simp)
     have hb8:Bes X w7 W8:=by rw [hW8];exact bes
     clear hW8
     have hs7:CbS T0 w7 R l p6 b6:=hs6.under hb7 (by omega)
     have hz8:=hb8.size
     have hbw8:Bes R w W8:=bes_mix (((hbw5.trans hb56).of_step hb7 (by omega))) hb8 (by omega)
     have HX8:=Lib.hid (And.intro hc8 hown8)
     have HZ8:=Lib.hid (HZ5.out.block ((hb8.block w.heap.size (by omega) (by omega)).trans (hkw.trans (hb56.block w.heap.size (by omega) n0))))
     have HS8:=Lib.hid (And.intro (hs7.bes hb8 (by omega) (by omega)) (out_len HS5.out.2.1 ho6))
     have HA8:=Lib.hid (show ArgRel l k (0 + 1) (acc ++ [y]) p6 b6 G from .inr ⟨by omega,by rw [show k - (0 + 1) = k - 1 by omega];exact args_form HS5.out.2.2 ho6⟩)
     clear hc8 hown8 hs7
     go_wp2_with fail
     go_roundw
     case rel => exact ⟨0 + 1,acc ++ [y],p6,b6,_,by omega,by rw [List.length_append,hacc];rfl,by go_num,Lib.hid HX8.out.1,HZ8,Lib.hid HX8.out.2,HS8,HA8,hbw8,by omega⟩
     case measure => simp [intOf];omega
   ·omega
  ·have hjk:j = k:=by omega
   subst hjk
   have haa:ArgAt l 0 acc q b G:=by
    rcases har.out with ⟨h,_⟩ | ⟨_,h⟩
    ·omega
    ·rw [Nat.sub_self] at h;exact h
   have hjk':¬ (j:Int) < 1:=by omega
   have hac3:acc.length ≤ 3:=by omega
   have HAA:=Lib.hid (And.intro haa hac3)
   obtain ⟨A9,c9,rfl,hc9,hsl⟩:=hown.out.sl keeps_Exp
   have HSL:=Lib.hid (And.intro hsl hc9)
   clear hk3 haa hac3 hsl hc9 hacc
   go_wp2_with (first
    | (go_at_call 93;refine (HAO.out _).mono ?_;rintro e w4 ⟨rfl,hb4⟩;obtain ⟨hc4,hf4⟩:=bcell hb4;(try simp only [bqh,bqc,bqf] at hc4 hf4);have hz4:=hb4.size;(try simp at hz4);(try have hy4:=nl1 hz4);(try have hx4:=nl2 hy4);refine szz w4 wr ?_;intros)
    | (go_at_call 92;refine calls_world ?_;intro W4 hW4;have hs4p:CbS T0 W4 R l q b:=(by rw [hW4];exact hrs.out.1.keep bel);have hb4p:Bes R wr W4:=(by rw [hW4];exact bes);clear hW4;refine (climb_pass_any T0 R l q b ⟨#[41]⟩ W4 hs4p (by decide)).mono ?_;rintro e w5 ⟨rfl,hs5p,hb5⟩;have hb45:=hb4p.trans hb5;have hz5:=hb45.size;have hbw5:=hb.trans hb45;obtain ⟨⟨c0,c1,c2,c3,c4,c5⟩,_⟩:=hca.out.block (hb45.block X hXl hXR);rw [HOP.out.1] at c0;obtain ⟨⟨z0,z1,z2,z3,z4,z5⟩,q0,q1,q2,q3,q4,q5⟩:=hzb.out.block (hb45.block w.heap.size (by omega) n0);have lR5:R < w5.heap.size:=(by omega);have lw5:w.heap.size < w5.heap.size:=(by omega);have lX5:X < w5.heap.size:=(by omega);have nX5:¬ w.heap.size = X:=(by omega);have hpp:∀ W,Bes w.heap.size w5 W → Sl W (fresh w W) 6 (XRep W (fresh w W)) A9 acc.length acc:=(fun W h => HSL.out.1.keepN keeps_Exp fun b hb' => ⟨⟨by have:=hb'.1;omega,by have:=hb'.2;have:=h.size;omega⟩,(h.block b (by have:=hb'.2;omega) (by have:=hb'.1;omega)).trans (hb45.block b hb'.2 (by have:=hb'.1;omega))⟩)))
   have HS5:=Lib.hid hs5p
   exact bodyPost_ret (v:=.agg #[.int .i64 18,.int .i64 0,.int .i64 0,.string ⟨#[]⟩,.string ⟨#[]⟩,.slice A9 acc.length c9]) (by first | (simp [results,Tryz.results48,go_sem];done) | (simp [results,Tryz.results48,go_sem, *];done)) rfl (cpost_shut (x:=callX 18 acc) ⟨A9,c9,rfl,call_rep (l:=acc) 18 rfl HAA.out.2 HSL.out.2 (hpp _ bes),HS5.out.under (n:=R + 1) bel (by omega),bes⟩ (args_close 18 HAA.out.1))
end Go.Proofs.YtldbpmlgbbomcaaGreatDoor
