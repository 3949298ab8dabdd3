/- Texts merged (mergeh.py): Rul Bkw. -/
import Derived.Test.YtldhlpjjcnlbcaaGreatTypes
import Derived.RangeFuncNested
import Derived.RangeFuncBound
import Derived.RangeFuncCalls
import Derived.RangeFuncLeaves
import Derived.RangeFuncBox
import Derived.Shelf.Abstract
import Derived.Shelf.RegionOpen
import Derived.OwnWalkIn
import Derived.TacticsInMore
import Derived.LoopNIn
import Derived.LoopIn
import Derived.StringKeys
/- The walk of typing.rules: a map of eleven rules, filled in any order. -/
set_option maxRecDepth 100000
set_option maxHeartbeats 8000000
namespace Go.Proofs.YtldhlpjjcnlbcaaGreat
open Go.RowKit Go.Maps
def z8l (op:Int):Option (Int×Nat × Int) :=
 if op=3 then some (1,1,1) else if op=4 then some (2,1,2) else if op=18 then some (3,1,1)
 else if op=5\/op=6\/op=7\/op=8\/op=9 then some (1,2,1) else if op=10 then some (3,2,3) else if op=15\/op=16 then some (2,2,2) else none
def Row3 (w:World)(g:Nat)(t:Int):Prop:=w.cell? ⟨g,0,none⟩=some (.int .i64 t)/\w.cell? ⟨g,1,none⟩=some (.int .i64 t)
def Rules (w:World)(b g:Nat):Prop:=g+2<w.heap.size/\Row3 w g 1/\Row3 w (g+1) 2/\Row3 w (g+2) 3 /\
 ∃ f,MapIs w Tryz.prog 3 b 11 f/\∀ op:Int,f (.int .i64 op)=(z8l op).map fun q=>.agg #[.slice (some ⟨g+(q.1.toNat - 1),0,none⟩) q.2.1 2,.int .i64 q.2.2]
theorem Rules.below {w w':World}{b g B:Nat}(h:Rules w b g)(hb:Below B w w')(hl:b<B)(hg:g+2<B):Rules w' b g:=by
 obtain⟨h1,h2,h3,h4,f,h5,h6⟩:=h
 have hc:∀ k j,k<B->w'.cell? ⟨k,j,none⟩=w.cell? ⟨k,j,none⟩:=fun k j hk=>hb.cell (p:=⟨k,j,none⟩) hk
 refine⟨Nat.lt_of_lt_of_le h1 hb.size,⟨?_,?_⟩,⟨?_,?_⟩,⟨?_,?_⟩,f,h5.below hb hl,h6⟩
 ·rw[hc _ _ (by omega)];exact h2.1
 ·rw[hc _ _ (by omega)];exact h2.2
 ·rw[hc _ _ (by omega)];exact h3.1
 ·rw[hc _ _ (by omega)];exact h3.2
 ·rw[hc _ _ (by omega)];exact h4.1
 rw[hc _ _ (by omega)];exact h4.2
theorem Rules.now {w w':World}{b g:Nat}(h:Rules w b g)(hb:Below w.heap.size w w'):Rules w' b g:=by
 have h0:=h
 obtain⟨h1,_,_,_,f,h5,_⟩:=h0
 exact h.below hb h5.lt h1
def insT (g:Nat):List (Nat × Int×Value) :=
 [(4,3,.agg #[.slice (some ⟨g,0,none⟩) 1 2,.int .i64 1]),(8,4,.agg #[.slice (some ⟨g+1,0,none⟩) 1 2,.int .i64 2]),(12,18,.agg #[.slice (some ⟨g+2,0,none⟩) 1 2,.int .i64 1]),
  (15,5,.agg #[.slice (some ⟨g,0,none⟩) 2 2,.int .i64 1]),(18,6,.agg #[.slice (some ⟨g,0,none⟩) 2 2,.int .i64 1]),(21,7,.agg #[.slice (some ⟨g,0,none⟩) 2 2,.int .i64 1]),
  (24,8,.agg #[.slice (some ⟨g,0,none⟩) 2 2,.int .i64 1]),(27,9,.agg #[.slice (some ⟨g,0,none⟩) 2 2,.int .i64 1]),(30,10,.agg #[.slice (some ⟨g+2,0,none⟩) 2 2,.int .i64 3]),
  (33,15,.agg #[.slice (some ⟨g+1,0,none⟩) 2 2,.int .i64 2]),(36,16,.agg #[.slice (some ⟨g+1,0,none⟩) 2 2,.int .i64 2])]
def RulesJ (b g:Nat)(w0:World)(rem:List Nat)(w:World):Prop :=
 Below w0.heap.size w0 w/\g+2<w.heap.size/\Row3 w g 1/\Row3 w (g+1) 2/\Row3 w (g+2) 3/\rem.length<=11 /\
 ∃ (f:Lit->Option Value),MapIs w Tryz.prog 3 b (11-rem.length) f /\
  (∀ t∈insT g,t.1 ∉ rem->f (.int .i64 t.2.1)=some t.2.2)/\(∀ kl,(∀ t∈insT g,kl≠.int .i64 t.2.1)->f kl=none)
theorem insT_apart (g:Nat):∀ t∈insT g,∀ t'∈insT g,t.2.1=t'.2.1->t=t':=by
 intro t ht t' ht' h
 simp only[insT,List.mem_cons,List.not_mem_nil,or_false] at ht ht'
 rcases ht with rfl | rfl | rfl | rfl | rfl | rfl | rfl | rfl | rfl | rfl | rfl<;>rcases ht' with rfl | rfl | rfl | rfl | rfl | rfl | rfl | rfl | rfl | rfl | rfl<;>first | rfl | (simp at h)
theorem insT_places (g:Nat):∀ t∈insT g,∀ t'∈insT g,t.1=t'.1->t=t':=by
 intro t ht t' ht' h
 simp only[insT,List.mem_cons,List.not_mem_nil,or_false] at ht ht'
 rcases ht with rfl | rfl | rfl | rfl | rfl | rfl | rfl | rfl | rfl | rfl | rfl<;>rcases ht' with rfl | rfl | rfl | rfl | rfl | rfl | rfl | rfl | rfl | rfl | rfl<;>first | rfl | (simp at h)
theorem RulesJ.next {b g:Nat}{w0 w w':World}{rem:List Nat}{f:Lit->Option Value}{t:Nat × Int×Value}(ht:t∈insT g)(hr:t.1∈rem)(hn:rem.Nodup)
  (h0:Below w0.heap.size w0 w)(h1:g+2<w.heap.size)(h2:Row3 w g 1)(h3:Row3 w (g+1) 2)(h4:Row3 w (g+2) 3)(h5:rem.length<=11)(hb:g+2<b)(hb0:w0.heap.size<=b)
  (h7:∀ t∈insT g,t.1 ∉ rem->f (.int .i64 t.2.1)=some t.2.2)(h8:∀ kl,(∀ t∈insT g,kl≠.int .i64 t.2.1)->f kl=none)
  (h9:MapIs w' Tryz.prog 3 b (11-rem.length+1) (putAt f (.int .i64 t.2.1) t.2.2))(hg:w.grownBy w' (some b)):RulesJ b g w0 (rem.erase t.1) w':=by
 have hlr:0<rem.length:=List.length_pos_of_mem hr
 have hle:(rem.erase t.1).length=rem.length-1:=List.length_erase_of_mem hr
 have hc:∀ k j,k<=g+2->w'.cell? ⟨k,j,none⟩=w.cell? ⟨k,j,none⟩:=fun k j hk=>World.cell?_of_block (w:=w) (a:=⟨k,j,none⟩) (hg.block k (by omega) (fun e=>by cases e;omega))
 refine⟨h0.grown hg h0.size (fun k e=>by cases e;exact hb0),Nat.lt_of_lt_of_le h1 hg.size,⟨?_,?_⟩,⟨?_,?_⟩,⟨?_,?_⟩,by omega,putAt f (.int .i64 t.2.1) t.2.2,?_,?_,?_⟩
 ·rw[hc _ _ (by omega)];exact h2.1
 ·rw[hc _ _ (by omega)];exact h2.2
 ·rw[hc _ _ (by omega)];exact h3.1
 ·rw[hc _ _ (by omega)];exact h3.2
 ·rw[hc _ _ (by omega)];exact h4.1
 ·rw[hc _ _ (by omega)];exact h4.2
 ·rw[hle,show 11-(rem.length-1)=11-rem.length+1 by omega];exact h9
 ·intro t' ht' hnr
  by_cases e:t'=t
  ·subst e;exact z4q (by simp[WideAt.IsKeyLit])
  have h10:t'.1≠t.1:=fun h=>e (insT_places g _ ht' _ ht h)
  have h11:t'.2.1≠t.2.1:=fun h=>e (insT_apart g _ ht' _ ht h)
  rw[z3j (by simpa using h11)]
  exact h7 t' ht' (fun h=>hnr (by rw[hn.mem_erase_iff];exact⟨h10,h⟩))
 intro kl hkl
 rw[z3j (hkl t ht)]
 exact h8 kl hkl
theorem RulesJ.done {b g:Nat}{w0 w:World}(h:RulesJ b g w0 [] w):Rules w b g:=by
 obtain⟨_,h1,h2,h3,h4,_,f,h6,h7,h8⟩:=h
 refine⟨h1,h2,h3,h4,f,h6,fun op=>?_⟩
 have hh:=fun t ht=>h7 t ht (by simp)
 by_cases ho:op=3\/op=4\/op=18\/op=5\/op=6\/op=7\/op=8\/op=9\/op=10\/op=15\/op=16
 ·rcases ho with rfl | rfl | rfl | rfl | rfl | rfl | rfl | rfl | rfl | rfl | rfl
  ·exact hh _ (.head _)
  ·exact hh _ (.tail _ (.head _))
  ·exact hh _ (.tail _ (.tail _ (.head _)))
  ·exact hh _ (.tail _ (.tail _ (.tail _ (.head _))))
  ·exact hh _ (.tail _ (.tail _ (.tail _ (.tail _ (.head _)))))
  ·exact hh _ (.tail _ (.tail _ (.tail _ (.tail _ (.tail _ (.head _))))))
  ·exact hh _ (.tail _ (.tail _ (.tail _ (.tail _ (.tail _ (.tail _ (.head _)))))))
  ·exact hh _ (.tail _ (.tail _ (.tail _ (.tail _ (.tail _ (.tail _ (.tail _ (.head _))))))))
  ·exact hh _ (.tail _ (.tail _ (.tail _ (.tail _ (.tail _ (.tail _ (.tail _ (.tail _ (.head _)))))))))
  ·exact hh _ (.tail _ (.tail _ (.tail _ (.tail _ (.tail _ (.tail _ (.tail _ (.tail _ (.tail _ (.head _))))))))))
  exact hh _ (.tail _ (.tail _ (.tail _ (.tail _ (.tail _ (.tail _ (.tail _ (.tail _ (.tail _ (.tail _ (.head _)))))))))))
 have hn:z8l op=none:=by unfold z8l;simp only[not_or] at ho;simp[ho]
 rw[hn]
 refine h8 _ fun t ht e=>?_
 simp only[insT,List.mem_cons,List.not_mem_nil,or_false] at ht
 rcases ht with rfl | rfl | rfl | rfl | rfl | rfl | rfl | rfl | rfl | rfl | rfl<;>(simp at e;omega)
theorem inT_cases {i:Nat}(h:i∈[4,8,12,15,18,21,24,27,30,33,36]):i=4\/i=8\/i=12\/i=15\/i=18\/i=21\/i=24\/i=27\/i=30\/i=33\/i=36:=by simpa using h
theorem Tryz.keyInt (a:Int)(h:(Lit.int .i64 a).wf=true):keyOf Tryz.prog 3 (.int .i64 a)=some (.int .i64 a):=Maps.keyOf_int_mk Tryz.underlying3 h
theorem typing_rules (w:World):Calls Tryz.prog 179 #[] w fun e w'=>e=.returned (.map (some (w.heap.size+3)))/\Rules w' (w.heap.size+3) w.heap.size/\Below w.heap.size w w':=by
 have hmm:=@run_makeMap Tryz.prog
 go_enter Tryz.func179,Tryz.ntmps179
 go_wp2_with fail
 refine z0r (fun _=>True) 38 (by kernel_rfl) ?_
 have hS0:=True.intro
 refine zt 1 hS0 ?_
 simp only[Act.put,pq]
 refine zt 2 hS0 ?_
 simp only[Act.put,pq]
 refine zt 3 hS0 ?_
 simp only[Act.put,pq]
 refine zt 5 hS0 ?_
 simp only[Act.put,pq]
 refine zt 6 hS0 ?_
 simp only[Act.put,pq]
 refine zt 7 hS0 ?_
 simp only[Act.put,pq]
 refine zt 9 hS0 ?_
 simp only[Act.put,pq]
 refine zt 10 hS0 ?_
 simp only[Act.put,pq]
 refine zt 11 hS0 ?_
 simp only[Act.put,pq]
 refine zt 13 hS0 ?_
 simp only[Act.put,pq]
 refine zt 14 hS0 ?_
 simp only[Act.put,pq]
 refine zt 16 hS0 ?_
 simp only[Act.put,pq]
 refine zt 17 hS0 ?_
 simp only[Act.put,pq]
 refine zt 19 hS0 ?_
 simp only[Act.put,pq]
 refine zt 20 hS0 ?_
 simp only[Act.put,pq]
 refine zt 22 hS0 ?_
 simp only[Act.put,pq]
 refine zt 23 hS0 ?_
 simp only[Act.put,pq]
 refine zt 25 hS0 ?_
 simp only[Act.put,pq]
 refine zt 26 hS0 ?_
 simp only[Act.put,pq]
 refine zt 28 hS0 ?_
 simp only[Act.put,pq]
 refine zt 29 hS0 ?_
 simp only[Act.put,pq]
 refine zt 31 hS0 ?_
 simp only[Act.put,pq]
 refine zt 32 hS0 ?_
 simp only[Act.put,pq]
 refine zt 34 hS0 ?_
 simp only[Act.put,pq]
 refine zt 35 hS0 ?_
 simp only[Act.put,pq]
 refine z06 (i:=0) (o:=_) rfl (by kernel_rfl) (fun K hK=>?_)
 go_simp
 refine hK.out _ _ (fun _=>trivial) ?_
 clear hK K
 refine wpAnyT_listed (L':=mkL 39 37 [4,8,12,15,18,21,24,27,30,33,36]) (by kernel_rfl) ?_
 refine wpAnyT_bag (bag:=[4,8,12,15,18,21,24,27,30,33,36]) (m:=37) (by kernel_rfl) _ (RulesJ (w.heap.size+3) w.heap.size w) 2 ?step ?fin 11 [4,8,12,15,18,21,24,27,30,33,36] _ rfl (fun _ h=>h) (by decide) ?start
 case start =>
  refine⟨bel,by simp,⟨by go_simp,by go_simp⟩,⟨by go_simp,by go_simp⟩,⟨by go_simp,by go_simp⟩,by decide,fun _=>none,?_,?_,?_⟩
  ·have h:=MapIs.made (((w.alloc (.cells #[.int .i64 1,.int .i64 1] 3)).alloc (.cells #[.int .i64 2,.int .i64 2] 3)).alloc (.cells #[.int .i64 3,.int .i64 3] 3)) Tryz.prog 3
   simp only[World.size_alloc] at h
   exact h
  ·intro t ht hnr
   exfalso
   simp only[insT,List.mem_cons,List.not_mem_nil,or_false] at ht
   rcases ht with rfl | rfl | rfl | rfl | rfl | rfl | rfl | rfl | rfl | rfl | rfl<;>simp at hnr
  intro _ _;rfl
 case step =>
  intro rem W i hir hib hnd hJ
  obtain⟨hb0,hb1,hr1,hr2,hr3,hln,f,hf1,hf2,hf3⟩:=hJ
  have HN:=zh (fun t ht hr w' h9 hg=>RulesJ.next (t:=t) (w':=w') ht hr hnd hb0 hb1 hr1 hr2 hr3 hln (b:=w.heap.size+3) (by omega) (by omega) hf2 hf3 h9 hg)
  clear hb0 hb1 hr1 hr2 hr3 hf2 hf3 hnd
  rcases inT_cases hib with rfl | rfl | rfl | rfl | rfl | rfl | rfl | rfl | rfl | rfl | rfl
  ·refine z4a (o:=_) rfl rfl (fun K hK=>?_)
   refine z2h (.tmp 7) (.const (.int .i64 3)) (.tmp 10) 195 rfl 3 210 (Maps.int_keyed Tryz.underlying3) Tryz.underlying195 (w.heap.size+3) (11-rem.length) f rfl hf1 (by unfold maxLen;omega) _ _ _ rfl rfl (Tryz.keyInt 3 (by decide)) ?_
   intro w' h9 hg
   exact hK _ _ ⟨rfl,fun _=>trivial,HN.out _ (.head _) hir w' h9 hg⟩
  ·refine z4a (o:=_) rfl rfl (fun K hK=>?_)
   refine z2h (.tmp 7) (.const (.int .i64 4)) (.tmp 13) 195 rfl 3 210 (Maps.int_keyed Tryz.underlying3) Tryz.underlying195 (w.heap.size+3) (11-rem.length) f rfl hf1 (by unfold maxLen;omega) _ _ _ rfl rfl (Tryz.keyInt 4 (by decide)) ?_
   intro w' h9 hg
   exact hK _ _ ⟨rfl,fun _=>trivial,HN.out _ (.tail _ (.head _)) hir w' h9 hg⟩
  ·refine z4a (o:=_) rfl rfl (fun K hK=>?_)
   refine z2h (.tmp 7) (.const (.int .i64 18)) (.tmp 16) 195 rfl 3 210 (Maps.int_keyed Tryz.underlying3) Tryz.underlying195 (w.heap.size+3) (11-rem.length) f rfl hf1 (by unfold maxLen;omega) _ _ _ rfl rfl (Tryz.keyInt 18 (by decide)) ?_
   intro w' h9 hg
   exact hK _ _ ⟨rfl,fun _=>trivial,HN.out _ (.tail _ (.tail _ (.head _))) hir w' h9 hg⟩
  ·refine z4a (o:=_) rfl rfl (fun K hK=>?_)
   refine z2h (.tmp 7) (.const (.int .i64 5)) (.tmp 18) 195 rfl 3 210 (Maps.int_keyed Tryz.underlying3) Tryz.underlying195 (w.heap.size+3) (11-rem.length) f rfl hf1 (by unfold maxLen;omega) _ _ _ rfl rfl (Tryz.keyInt 5 (by decide)) ?_
   intro w' h9 hg
   exact hK _ _ ⟨rfl,fun _=>trivial,HN.out _ (.tail _ (.tail _ (.tail _ (.head _)))) hir w' h9 hg⟩
  ·refine z4a (o:=_) rfl rfl (fun K hK=>?_)
   refine z2h (.tmp 7) (.const (.int .i64 6)) (.tmp 20) 195 rfl 3 210 (Maps.int_keyed Tryz.underlying3) Tryz.underlying195 (w.heap.size+3) (11-rem.length) f rfl hf1 (by unfold maxLen;omega) _ _ _ rfl rfl (Tryz.keyInt 6 (by decide)) ?_
   intro w' h9 hg
   exact hK _ _ ⟨rfl,fun _=>trivial,HN.out _ (.tail _ (.tail _ (.tail _ (.tail _ (.head _))))) hir w' h9 hg⟩
  ·refine z4a (o:=_) rfl rfl (fun K hK=>?_)
   refine z2h (.tmp 7) (.const (.int .i64 7)) (.tmp 22) 195 rfl 3 210 (Maps.int_keyed Tryz.underlying3) Tryz.underlying195 (w.heap.size+3) (11-rem.length) f rfl hf1 (by unfold maxLen;omega) _ _ _ rfl rfl (Tryz.keyInt 7 (by decide)) ?_
   intro w' h9 hg
   exact hK _ _ ⟨rfl,fun _=>trivial,HN.out _ (.tail _ (.tail _ (.tail _ (.tail _ (.tail _ (.head _)))))) hir w' h9 hg⟩
  ·refine z4a (o:=_) rfl rfl (fun K hK=>?_)
   refine z2h (.tmp 7) (.const (.int .i64 8)) (.tmp 24) 195 rfl 3 210 (Maps.int_keyed Tryz.underlying3) Tryz.underlying195 (w.heap.size+3) (11-rem.length) f rfl hf1 (by unfold maxLen;omega) _ _ _ rfl rfl (Tryz.keyInt 8 (by decide)) ?_
   intro w' h9 hg
   exact hK _ _ ⟨rfl,fun _=>trivial,HN.out _ (.tail _ (.tail _ (.tail _ (.tail _ (.tail _ (.tail _ (.head _))))))) hir w' h9 hg⟩
  ·refine z4a (o:=_) rfl rfl (fun K hK=>?_)
   refine z2h (.tmp 7) (.const (.int .i64 9)) (.tmp 26) 195 rfl 3 210 (Maps.int_keyed Tryz.underlying3) Tryz.underlying195 (w.heap.size+3) (11-rem.length) f rfl hf1 (by unfold maxLen;omega) _ _ _ rfl rfl (Tryz.keyInt 9 (by decide)) ?_
   intro w' h9 hg
   exact hK _ _ ⟨rfl,fun _=>trivial,HN.out _ (.tail _ (.tail _ (.tail _ (.tail _ (.tail _ (.tail _ (.tail _ (.head _)))))))) hir w' h9 hg⟩
  ·refine z4a (o:=_) rfl rfl (fun K hK=>?_)
   refine z2h (.tmp 7) (.const (.int .i64 10)) (.tmp 28) 195 rfl 3 210 (Maps.int_keyed Tryz.underlying3) Tryz.underlying195 (w.heap.size+3) (11-rem.length) f rfl hf1 (by unfold maxLen;omega) _ _ _ rfl rfl (Tryz.keyInt 10 (by decide)) ?_
   intro w' h9 hg
   exact hK _ _ ⟨rfl,fun _=>trivial,HN.out _ (.tail _ (.tail _ (.tail _ (.tail _ (.tail _ (.tail _ (.tail _ (.tail _ (.head _))))))))) hir w' h9 hg⟩
  ·refine z4a (o:=_) rfl rfl (fun K hK=>?_)
   refine z2h (.tmp 7) (.const (.int .i64 15)) (.tmp 30) 195 rfl 3 210 (Maps.int_keyed Tryz.underlying3) Tryz.underlying195 (w.heap.size+3) (11-rem.length) f rfl hf1 (by unfold maxLen;omega) _ _ _ rfl rfl (Tryz.keyInt 15 (by decide)) ?_
   intro w' h9 hg
   exact hK _ _ ⟨rfl,fun _=>trivial,HN.out _ (.tail _ (.tail _ (.tail _ (.tail _ (.tail _ (.tail _ (.tail _ (.tail _ (.tail _ (.head _)))))))))) hir w' h9 hg⟩
  refine z4a (o:=_) rfl rfl (fun K hK=>?_)
  refine z2h (.tmp 7) (.const (.int .i64 16)) (.tmp 32) 195 rfl 3 210 (Maps.int_keyed Tryz.underlying3) Tryz.underlying195 (w.heap.size+3) (11-rem.length) f rfl hf1 (by unfold maxLen;omega) _ _ _ rfl rfl (Tryz.keyInt 16 (by decide)) ?_
  intro w' h9 hg
  exact hK _ _ ⟨rfl,fun _=>trivial,HN.out _ (.tail _ (.tail _ (.tail _ (.tail _ (.tail _ (.tail _ (.tail _ (.tail _ (.tail _ (.tail _ (.head _))))))))))) hir w' h9 hg⟩
 case fin =>
  intro W hJ
  have HR:=zh (ai hJ.done hJ.1)
  clear hJ
  refine z06 (i:=37) (o:=_) rfl (by kernel_rfl) (fun K hK=>?_)
  go_simp
  refine hK.out _ _ (fun _=>trivial) ?_
  clear hK K
  try simp only[Act.put,pq]
  refine z06 (i:=38) (o:=_) rfl (by kernel_rfl) (fun K hK=>?_)
  go_simp
  refine hK.out _ _ (fun h=>absurd h (by decide)) ?_
  clear hK K
  refine z0f (by kernel_rfl) ?_ _
  try simp only[Act.put,pq]
  go_wp2_with fail
  go_ret
  exact⟨rfl,HR.out.1,HR.out.2⟩
open Go.RowKit Go.Shelf Go.Maps
attribute [local go_sem] Oper.semAt_some
abbrev FIt:={ p:Nat × Fld×Option Addr×Nat // inS p.2.1.name }
abbrev Fld.agg (f:Fld)(X:Option Addr)(C:Nat):Value:=.agg #[.string f.name,.int .i64 f.kind,.int .i64 f.type,.int .i64 f.source.op,.int .i64 f.source.v.k,.int .i64 f.source.v.n,.string f.source.v.s,.string f.source.name,.slice X f.source.args.length C]
abbrev encF (x:FIt):Array Value:=#[.int .i64 (x.1.1:Int),.agg #[.string x.1.2.1.name,.int .i64 x.1.2.1.kind,.int .i64 x.1.2.1.type,.int .i64 x.1.2.1.source.op,.int .i64 x.1.2.1.source.v.k,.int .i64 x.1.2.1.source.v.n,.string x.1.2.1.source.v.s,.string x.1.2.1.source.name,.slice x.1.2.2.1 x.1.2.1.source.args.length x.1.2.2.2]]
def Kb (n₀ Bs:Nat)(A B:World):Prop:=∀ k,k<n₀\/k=Bs->B.heap[k]?=A.heap[k]?
theorem Kb.trans {n₀ Bs:Nat}{A B C:World}(h:Kb n₀ Bs A B)(k:Kb n₀ Bs B C):Kb n₀ Bs A C:=fun i hi=>(k i hi).trans (h i hi)
def fldsOf (l:List FIt):List Fld:=l.map (·.1.2.1)
theorem zcy (F:Fence)(n:Nat)(h7:F.fn 216)(hro:F.round=none)(hn:1<=n)(l Bs n₀:Nat)(A:Option Addr)(len cap:Nat)(fs:List Fld)(hreach:inB 112 len)(J Jx:List FIt->World->Prop)
  (hY:∀ pre x W,J pre W->pre.length<len->YieldAt F (n-1) Tryz.prog l (encF x) W fun e W' =>
   (e=.returned (.bool true)/\J (pre++[x]) W'/\Kb n₀ Bs W W')\/(e=.returned (.bool false)/\Jx (pre++[x]) W'))
  (W:World)(hBs:W.cell? ⟨Bs,0,none⟩=some (.slice A len cap))(hc:Sl W (fun b=>b<n₀) 9 (RFld W (fun b=>b<n₀)) A len fs)(h0:J [] W) :
  CallsIn F n Tryz.prog 216 #[.func (.yield l) #[] #[],.pointer (some ⟨Bs,0,none⟩)] W fun e W'=>(∃ v,e=.returned v) /\
   ((∃ ys,fldsOf ys=fs.reverse/\J ys W')\/(∃ pre,True/\Jx pre W')):=by
 unfold inB at hreach
 have hlf:=hc.len
 have HH:=zh hc
 clear hc
 refine callsIn_of_wp Tryz.func216 rfl h7 ?_ hro
 simp only[Tryz.ntmps216,List.size_toArray,List.length_cons,List.length_nil,Nat.reduceAdd,Nat.reduceSub,Array.replicate_succ,Array.replicate_zero,List.push_toArray,List.append_toArray,List.nil_append,List.cons_append]
 gi_wp2
 gi_loopw [3] (fun i wr=>∃ (k:Nat) (pre:List FIt),k<=len/\i=.int .i64 ((k:Int)-1)/\pre.length+k=len/\fldsOf pre=(fs.drop k).reverse/\J pre wr/\Kb n₀ Bs W wr)
  (fun i _=>(intOf i+1).toNat)
 case atStart=>exact⟨len,[],nr _,rfl,by simp,by rw[List.drop_of_length_le (by omega)];rfl,h0,fun _ _=>rfl⟩
 case round =>
  obtain⟨k,pre,hk,hi,hpl,hpf,hJs,hnx⟩:=hrel
  rcases k with _ | m
  ·have hi':=hi.trans (congrArg (Value.int .i64) (by omega:((0:Nat):Int)-1=-1))
   clear hi
   subst hi'
   have HP:=zh hpf
   clear hpf
   gi_wp2
   go_end0
   exact⟨⟨_,rfl⟩,.inl ⟨pre,by simpa using HP.out,hJs⟩⟩
  have hi':=hi.trans (congrArg (Value.int .i64) (by omega:((m+1:Nat):Int)-1=(m:Int)))
  clear hi
  subst hi'
  have hcb:wr.cell? ⟨Bs,0,none⟩=some (.slice A len cap):=(World.cell?_of_block (w:=W) (a:=⟨Bs,0,none⟩) (hnx Bs (.inr rfl))).trans hBs
  obtain⟨b,o,f,X,C,rfl,hbl,hl,hrep,x0,x1,x2,x3,x4,x5,x6,x7,x8⟩:=z25 (Sl.keepN z02 (w':=wr) (S':=fun b=>b<n₀) HH.out (fun b hb=>⟨hb,hnx b (.inl hb)⟩)) (show m<len by omega)
  have hin:inS f.name:=by obtain⟨h1,_⟩:=hrep;exact h1
  obtain⟨fn,tmps,assign,body,hy,hR⟩:=hY pre ⟨(m,f,X,C),hin⟩ wr hJs (by omega)
  unfold encF at hy
  dsimp only at hy
  have HL:=zh (ai hl hpf)
  clear hl hpf hrep hbl
  gi_wp2
  refine hR.mono ?_
  rintro e W3 (⟨rfl,hJ3,hk3⟩ | ⟨rfl,hJx3⟩)
  ·gi_wp2
   go_roundw
   case rel =>
    refine⟨m,pre++[⟨(m,f,X,C),hin⟩],by omega,by go_num,by simp;omega,?_,hJ3,hnx.trans hk3⟩
    have h1:=HL.out.1
    have h2:=HL.out.2
    have hm:m<fs.length:=(List.getElem?_eq_some_iff.1 h1).1
    have h3:fs[m]=f:=by rw[gq hm] at h1;exact Option.some.inj h1
    unfold fldsOf at h2 ⊢
    rw[List.map_append,h2,List.drop_eq_getElem_cons hm,h3,List.reverse_cons]
    rfl
   case measure=>simp[intOf]
  gi_wp2
  refine bodyPost_ret (results_none rfl _ _ _) rfl ?_
  exact⟨⟨_,rfl⟩,.inr ⟨pre++[_],trivial,hJx3⟩⟩
theorem zdo (F:Fence)(n:Nat)(h5:F.fn 201)(hro:F.round=none)(a:Option Addr)(len cap:Nat)(w:World) :
  CallsIn F n Tryz.prog 201 #[.slice a len cap] w fun e w'=>e=.returned (.func (.func 216) #[] #[.pointer (some ⟨w.heap.size,0,none⟩)])/\w'=w.alloc (.cells #[.slice a len cap] 22):=by
 refine callsIn_of_wp Tryz.func201 rfl h5 ?_ hro
 simp only[Tryz.ntmps201,List.size_toArray,List.length_cons,List.length_nil,Nat.reduceAdd,Nat.reduceSub,Array.replicate_succ,Array.replicate_zero,List.push_toArray,List.append_toArray,List.nil_append,List.cons_append]
 gi_wp2
 go_ret
 exact⟨rfl,rfl⟩
theorem zax (F:Fence)(n:Nat)(h7:F.fn 216)(hro:F.round=none)(hn:1<=n)(Bs n₀:Nat)(A:Option Addr)(len cap:Nat)(fs:List Fld)(hreach:inB 112 len)(w:World)
  (hBn:Bs<w.heap.size)(hn₀:n₀<=w.heap.size)(hBs:w.cell? ⟨Bs,0,none⟩=some (.slice A len cap))(hc:Sl w (fun b=>b<n₀) 9 (RFld w (fun b=>b<n₀)) A len fs) :
  SeqStopsK F n Tryz.prog 216 #[.pointer (some ⟨Bs,0,none⟩)] encF (Kb n₀ Bs) (fun ys=>fldsOf ys=fs.reverse) (fun _=>True) len w:=fun l J Jx W hW _ _ hY h0 =>
 zcy F n h7 hro hn l Bs n₀ A len cap fs hreach J Jx hY W ((hW.cell (p:=⟨Bs,0,none⟩) hBn).trans hBs)
  (Sl.keepN z02 hc (fun b hb=>⟨hb,hW.block b (by omega)⟩)) h0
def zbh (l:List Fld):Lit->Option Value:=l.foldl (fun f x=>putAt f (.string x.name.data.toList) (.int .i64 x.type)) (fun _=>none)
theorem zgr (l:List Fld)(x:Fld):zbh (l++[x])=putAt (zbh l) (.string x.name.data.toList) (.int .i64 x.type):=by simp[zbh]
theorem Tryz.keyStr (s:ByteArray)(h:inS s):keyOf Tryz.prog 9 (.string s)=some (.string s.data.toList):=WideMaps.keyOf_string_mk Tryz.underlying9 (z0s h)
theorem typing_types (A:Option Addr)(n c:Nat)(l:List Fld)(w:World)(hn:inB 112 n)(h:Sl w (old w) 9 (RFld w (old w)) A n l) :
  Calls Tryz.prog 178 #[.slice A n c] w fun e w'=>e=.returned (.map (some w.heap.size))/\MapIs w' Tryz.prog 9 w.heap.size n (zbh l.reverse)/\Below w.heap.size w w':=by
 have hmm:=@run_makeMap Tryz.prog
 have HH:=zh h
 have hmx:n<maxLen:=by unfold inB at hn;unfold maxLen;omega
 clear h
 refine (callsIn_wide (n:=3)).1 ?_
 refine callsIn_of_wp_marks Tryz.func178 rfl trivial ?_ rfl
 simp only[Tryz.ntmps178,List.size_toArray,List.length_cons,List.length_nil,Nat.reduceAdd,Nat.reduceSub,Array.replicate_succ,Array.replicate_zero,List.push_toArray,List.append_toArray,List.nil_append,List.cons_append]
 gi_wp2_with (refine⟨trivial,?_⟩;gi_at_call 201;refine (zdo _ _ trivial rfl _ _ _ _).mono ?_;rintro e w' ⟨rfl,rfl⟩)
 have hm0:=MapIs.made w Tryz.prog 9
 have bM:=(Boxed.new (w.alloc (.map #[] 0)) 134 (.map (some w.heap.size))).alloc (.cells #[.slice A n c] 22)
 have bS:=Boxed.new ((w.alloc (.map #[] 0)).alloc (.cells #[.map (some w.heap.size)] 134)) 22 (.slice A n c)
 have hm1:=(hm0.kept (World.grownBy_alloc _ (.cells #[.map (some w.heap.size)] 134) none) (by simp)).kept (World.grownBy_alloc _ (.cells #[.slice A n c] 22) none) (by simp)
 simp only[World.size_alloc] at bM bS
 have hB0:Below w.heap.size w (((w.alloc (.map #[] 0)).alloc (.cells #[.map (some w.heap.size)] 134)).alloc (.cells #[.slice A n c] 22)):=(((Below.refl _ w).alloc (nr _) _).alloc (by simp) _).alloc (by simp;omega) _
 have hsz:(((w.alloc (.map #[] 0)).alloc (.cells #[.map (some w.heap.size)] 134)).alloc (.cells #[.slice A n c] 22)).heap.size=w.heap.size+3:=by simp
 obtain⟨W0,hW0⟩:∃ W0,((w.alloc (.map #[] 0)).alloc (.cells #[.map (some w.heap.size)] 134)).alloc (.cells #[.slice A n c] 22)=W0:=⟨_,rfl⟩
 rw[hW0] at bM bS hm1 hB0 hsz ⊢
 clear hW0 hm0
 have hsl:Sl W0 (fun b=>b<w.heap.size) 9 (RFld W0 (fun b=>b<w.heap.size)) A n l:=Sl.keepN z02 HH.out (fun b hb=>⟨hb,hB0.block b hb⟩)
 refine wpIn_rangeFunc_ownH rfl (by omega) (gf:=216) (lb:=#[.pointer (some ⟨w.heap.size+1+1,0,none⟩)]) rfl trivial (enters_of Tryz.func216 (by kernel_rfl) rfl)
  (zax _ _ trivial rfl (by omega) (w.heap.size+1+1) w.heap.size A n c l hn W0 (by omega) (by omega) bS.cell hsl) Kb.trans (fun W l o o' hl ho _ _ k hk=>World.putObj_heap_other (fun e=>by subst e;omega)) (Below.refl _ _) (fun _=>rfl)
  (fun pre W=>((Boxed W (w.heap.size+1) 134 (.map (some w.heap.size))/\Boxed W (w.heap.size+1+1) 22 (.slice A n c))/\MapIs W Tryz.prog 9 w.heap.size pre.length (zbh (fldsOf pre)))/\Below w.heap.size w W)
  (fun _ _ _=>False)
  (OwnFrom.and (OwnFrom.and (OwnFrom.and (Own.from (boxed_own _ _ _) _) (Own.from (boxed_own _ _ _) _)) (fun s X Y row hs hg hr=>hs.kept hg (fun e=>by have:=(hr _ e.symm).1;omega))) (ownFrom_below (nr _) (by omega)))
  (fun _ _ _ _ _ hs _ _=>hs)
  ⟨⟨⟨bM,bS⟩,hm1⟩,hB0⟩
  (fun x a' W=>∃ Bx,w.heap.size+1<Bx/\W.heap[Bx]?=some (.cells #[.string x.1.2.1.name,.int .i64 x.1.2.1.kind,.int .i64 x.1.2.1.type,.int .i64 x.1.2.1.source.op,.int .i64 x.1.2.1.source.v.k,.int .i64 x.1.2.1.source.v.n,.string x.1.2.1.source.v.s,.string x.1.2.1.source.name,.slice x.1.2.2.1 x.1.2.1.source.args.length x.1.2.2.2] 80 (0,0))/\a'={ tmps:=#[.slice A n c,undef,.map none,.pointer (some ⟨w.heap.size+1,0,none⟩),undef,.pointer (some ⟨Bx,0,none⟩),.map (some w.heap.size),.slice A n c,.func (.func 216) #[] #[.pointer (some ⟨w.heap.size+1+1,0,none⟩)],.int .i64 (x.1.1:Int),.agg #[.string x.1.2.1.name,.int .i64 x.1.2.1.kind,.int .i64 x.1.2.1.type,.int .i64 x.1.2.1.source.op,.int .i64 x.1.2.1.source.v.k,.int .i64 x.1.2.1.source.v.n,.string x.1.2.1.source.v.s,.string x.1.2.1.source.name,.slice x.1.2.2.1 x.1.2.1.source.args.length x.1.2.2.2],undef,undef,undef,undef,undef,undef],defers:=[] })
  (fun x a' _ X Y row hs hg hr=>by
   obtain⟨Bx,h1,h2,h3⟩:=hs
   refine⟨Bx,h1,(hg.block Bx (Array.getElem?_eq_some_iff.1 h2).1 (fun e=>?_)).trans h2,h3⟩
   obtain⟨_,o,ho,hoc⟩:=hr _ e.symm
   rw[h2] at ho
   cases ho
   cases hoc)
  ?assign ?body ?done ?stop
 case assign =>
  rintro l pre x W K ⟨⟨⟨bM1,bS1⟩,hm2⟩,hB1⟩ hK
  gi_wp2
  exact hK _ _ ((KeepsOthers.alloc _ _).from _) (fun k hk=>Below.heap_alloc W _ k (by have:=hB1.size;have:=bS1.lt;omega)) ⟨⟨⟨bM1.alloc _,bS1.alloc _⟩,hm2.kept (World.grownBy_alloc W _ none) (by simp)⟩,hB1.alloc hB1.size _⟩ ⟨W.heap.size,bM1.lt,World.alloc_heap_new W _,rfl⟩
 case body =>
  rintro l pre x a' W hl ⟨r,hr⟩ ⟨⟨⟨bM1,bS1⟩,hm2⟩,hB1⟩ ⟨Bx,hBx,hcx,rfl⟩ hlt
  obtain⟨⟨m,f,X,C⟩,hin⟩:=x
  have cM:=bM1.cell
  have c0:W.cell? ⟨Bx,0,none⟩=some (.string f.name):=by simp[World.cell?,hcx]
  have c2:W.cell? ⟨Bx,2,none⟩=some (.int .i64 f.type):=by simp[World.cell?,hcx]
  have hks:=Tryz.keyStr f.name hin
  clear hcx
  gi_wp2_with (gi_at_mapUpdate;refine z7c _ rfl _ _ _ 134 rfl 9 3 (Maps.string_keyed Tryz.underlying9) Tryz.underlying134 w.heap.size pre.length _ rfl hm2 (by omega) _ _ _ rfl rfl hks ?_;intro w1 hm3 hgrow1)
  refine⟨KeepsFrom.of_grownBy hgrow1 (fun j e=>by cases e;omega),fun k hk=>hgrow1.block k (by have:=hB1.size;have:=bS1.lt;omega) (fun e=>by cases e;omega),⟨⟨⟨bM1.kept hgrow1 (by simp),bS1.kept hgrow1 (by simp;omega)⟩,?_⟩,hB1.grown hgrow1 hB1.size (fun k e=>by cases e;exact nr _)⟩⟩
  rw[List.length_append,fldsOf,List.map_append]
  exact (zgr _ _)▸hm3
 case done =>
  rintro D ys W hD hys ⟨⟨⟨bM1,bS1⟩,hm2⟩,hB1⟩ hK
  have cM:=bM1.cell
  gi_wp2
  refine⟨by simp,.inl ⟨_,_,rfl,run_takeDeferred hK,?_⟩⟩
  have hyl:ys.length=l.length:=by have h1:=congrArg List.length hys;simpa [fldsOf] using h1
  rw[hys] at hm2
  exact⟨_,results_tmp rfl _ _ _,rfl,(hm2.mono (by rw[hyl,HH.out.len];exact nr _)).kept (grownBy_putObj' W D _) (fun e=>by cases e;omega),hB1.trans (belowK_b (w:=w) (nr _) W D _ _ (by omega) hK rfl rfl)⟩
 case stop =>
  rintro D c pre W _ _ h _
  exact h.elim
end Go.Proofs.YtldhlpjjcnlbcaaGreat
