/- The walk of typing.rules: a map of eleven rules, filled in any order. -/
import Derived.Test.YtldbpmlgbbomcaaGreatDoorTypes
namespace Go.Proofs.YtldbpmlgbbomcaaGreatDoor
open Go.RowKit Go.Maps

def wantOf (op:Int):Option (Int × Nat × Int) :=
 if op = 3 then some (1,1,1) else if op = 4 then some (2,1,2) else if op = 18 then some (3,1,1)
 else if op = 5 ∨ op = 6 ∨ op = 7 ∨ op = 8 ∨ op = 9 then some (1,2,1) else if op = 10 then some (3,2,3) else if op = 15 ∨ op = 16 then some (2,2,2) else none
def Row3 (w:World) (g:Nat) (t:Int):Prop:=w.cell? ⟨g,0,none⟩ = some (.int .i64 t) ∧ w.cell? ⟨g,1,none⟩ = some (.int .i64 t)
def Rules (w:World) (b g:Nat):Prop:=g + 2 < w.heap.size ∧ Row3 w g 1 ∧ Row3 w (g + 1) 2 ∧ Row3 w (g + 2) 3 ∧
 ∃ f,MapIs w Tryz.prog 3 b 11 f ∧ ∀ op:Int,f (.int .i64 op) = (wantOf op).map fun q => .agg #[.slice (some ⟨g + (q.1.toNat - 1),0,none⟩) q.2.1 2,.int .i64 q.2.2]
theorem Rules.below {w w':World} {b g B:Nat} (h:Rules w b g) (hb:Below B w w') (hl:b < B) (hg:g + 2 < B):Rules w' b g:=by
 obtain ⟨h1,h2,h3,h4,f,h5,h6⟩:=h
 have hc:∀ k j,k < B → w'.cell? ⟨k,j,none⟩ = w.cell? ⟨k,j,none⟩:=fun k j hk => hb.cell (p:=⟨k,j,none⟩) hk
 refine ⟨Nat.lt_of_lt_of_le h1 hb.size,⟨?_,?_⟩,⟨?_,?_⟩,⟨?_,?_⟩,f,h5.below hb hl,h6⟩
 ·rw [hc _ _ (by omega)];exact h2.1
 ·rw [hc _ _ (by omega)];exact h2.2
 ·rw [hc _ _ (by omega)];exact h3.1
 ·rw [hc _ _ (by omega)];exact h3.2
 ·rw [hc _ _ (by omega)];exact h4.1
 ·rw [hc _ _ (by omega)];exact h4.2
theorem Rules.now {w w':World} {b g:Nat} (h:Rules w b g) (hb:Below w.heap.size w w'):Rules w' b g:=by
 have h0:=h
 obtain ⟨h1,_,_,_,f,h5,_⟩:=h0
 exact h.below hb h5.lt h1

def insT (g:Nat):List (Nat × Int × Value) :=
 [(4,3,.agg #[.slice (some ⟨g,0,none⟩) 1 2,.int .i64 1]),(8,4,.agg #[.slice (some ⟨g + 1,0,none⟩) 1 2,.int .i64 2]),(12,18,.agg #[.slice (some ⟨g + 2,0,none⟩) 1 2,.int .i64 1]),
  (15,5,.agg #[.slice (some ⟨g,0,none⟩) 2 2,.int .i64 1]),(18,6,.agg #[.slice (some ⟨g,0,none⟩) 2 2,.int .i64 1]),(21,7,.agg #[.slice (some ⟨g,0,none⟩) 2 2,.int .i64 1]),
  (24,8,.agg #[.slice (some ⟨g,0,none⟩) 2 2,.int .i64 1]),(27,9,.agg #[.slice (some ⟨g,0,none⟩) 2 2,.int .i64 1]),(30,10,.agg #[.slice (some ⟨g + 2,0,none⟩) 2 2,.int .i64 3]),
  (33,15,.agg #[.slice (some ⟨g + 1,0,none⟩) 2 2,.int .i64 2]),(36,16,.agg #[.slice (some ⟨g + 1,0,none⟩) 2 2,.int .i64 2])]
def RulesJ (b g:Nat) (w0:World) (rem:List Nat) (w:World):Prop :=
 Below w0.heap.size w0 w ∧ g + 2 < w.heap.size ∧ Row3 w g 1 ∧ Row3 w (g + 1) 2 ∧ Row3 w (g + 2) 3 ∧ rem.length ≤ 11 ∧
 ∃ (f:Lit → Option Value),MapIs w Tryz.prog 3 b (11 - rem.length) f ∧
  (∀ t ∈ insT g,t.1 ∉ rem → f (.int .i64 t.2.1) = some t.2.2) ∧ (∀ kl,(∀ t ∈ insT g,kl ≠ .int .i64 t.2.1) → f kl = none)
theorem insT_apart (g:Nat):∀ t ∈ insT g,∀ t' ∈ insT g,t.2.1 = t'.2.1 → t = t':=by
 intro t ht t' ht' h
 simp only [insT,List.mem_cons,List.not_mem_nil,or_false] at ht ht'
 rcases ht with rfl | rfl | rfl | rfl | rfl | rfl | rfl | rfl | rfl | rfl | rfl <;> rcases ht' with rfl | rfl | rfl | rfl | rfl | rfl | rfl | rfl | rfl | rfl | rfl <;> first | rfl | (simp at h)
theorem insT_places (g:Nat):∀ t ∈ insT g,∀ t' ∈ insT g,t.1 = t'.1 → t = t':=by
 intro t ht t' ht' h
 simp only [insT,List.mem_cons,List.not_mem_nil,or_false] at ht ht'
 rcases ht with rfl | rfl | rfl | rfl | rfl | rfl | rfl | rfl | rfl | rfl | rfl <;> rcases ht' with rfl | rfl | rfl | rfl | rfl | rfl | rfl | rfl | rfl | rfl | rfl <;> first | rfl | (simp at h)
theorem RulesJ.next {b g:Nat} {w0 w w':World} {rem:List Nat} {f:Lit → Option Value} {t:Nat × Int × Value} (ht:t ∈ insT g) (hr:t.1 ∈ rem) (hn:rem.Nodup)
  (h0:Below w0.heap.size w0 w) (h1:g + 2 < w.heap.size) (h2:Row3 w g 1) (h3:Row3 w (g + 1) 2) (h4:Row3 w (g + 2) 3) (h5:rem.length ≤ 11) (hb:g + 2 < b) (hb0:w0.heap.size ≤ b)
  (h7:∀ t ∈ insT g,t.1 ∉ rem → f (.int .i64 t.2.1) = some t.2.2) (h8:∀ kl,(∀ t ∈ insT g,kl ≠ .int .i64 t.2.1) → f kl = none)
  (h9:MapIs w' Tryz.prog 3 b (11 - rem.length + 1) (putAt f (.int .i64 t.2.1) t.2.2)) (hg:w.grownBy w' (some b)):RulesJ b g w0 (rem.erase t.1) w':=by
 have hlr:0 < rem.length:=List.length_pos_of_mem hr
 have hle:(rem.erase t.1).length = rem.length - 1:=List.length_erase_of_mem hr
 have hc:∀ k j,k ≤ g + 2 → w'.cell? ⟨k,j,none⟩ = w.cell? ⟨k,j,none⟩:=fun k j hk => World.cell?_of_block (w:=w) (a:=⟨k,j,none⟩) (hg.block k (by omega) (fun e => by cases e;omega))
 refine ⟨h0.grown hg h0.size (fun k e => by cases e;exact hb0),Nat.lt_of_lt_of_le h1 hg.size,⟨?_,?_⟩,⟨?_,?_⟩,⟨?_,?_⟩,by omega,putAt f (.int .i64 t.2.1) t.2.2,?_,?_,?_⟩
 ·rw [hc _ _ (by omega)];exact h2.1
 ·rw [hc _ _ (by omega)];exact h2.2
 ·rw [hc _ _ (by omega)];exact h3.1
 ·rw [hc _ _ (by omega)];exact h3.2
 ·rw [hc _ _ (by omega)];exact h4.1
 ·rw [hc _ _ (by omega)];exact h4.2
 ·rw [hle,show 11 - (rem.length - 1) = 11 - rem.length + 1 by omega];exact h9
 ·intro t' ht' hnr
  by_cases e:t' = t
  ·subst e;exact putAt_same (by simp [WideAt.IsKeyLit])
  ·have h10:t'.1 ≠ t.1:=fun h => e (insT_places g _ ht' _ ht h)
   have h11:t'.2.1 ≠ t.2.1:=fun h => e (insT_apart g _ ht' _ ht h)
   rw [putAt_other (by simpa using h11)]
   exact h7 t' ht' (fun h => hnr (by rw [hn.mem_erase_iff];exact ⟨h10,h⟩))
 ·intro kl hkl
  rw [putAt_other (hkl t ht)]
  exact h8 kl hkl
theorem RulesJ.done {b g:Nat} {w0 w:World} (h:RulesJ b g w0 [] w):Rules w b g:=by
 obtain ⟨_,h1,h2,h3,h4,_,f,h6,h7,h8⟩:=h
 refine ⟨h1,h2,h3,h4,f,h6,fun op => ?_⟩
 have hh:=fun t ht => h7 t ht (by simp)
 by_cases ho:op = 3 ∨ op = 4 ∨ op = 18 ∨ op = 5 ∨ op = 6 ∨ op = 7 ∨ op = 8 ∨ op = 9 ∨ op = 10 ∨ op = 15 ∨ op = 16
 ·rcases ho with rfl | rfl | rfl | rfl | rfl | rfl | rfl | rfl | rfl | rfl | rfl
  ·exact hh _ (.head _)
  ·exact hh _ (.tail _ (.head _))
  ·exact hh _ (.tail _ (.tail _ (.head _)))
  ·exact hh _ (.tail _ (.tail _ (.tail _ (.head _))))
  ·exact hh _ (.tail _ (.tail _ (.tail _ (.tail _ (.head _)))))
  ·exact hh _ (.tail _ (.tail _ (.tail _ (.tail _ (.tail _ (.head _))))))
  ·exact hh _ (.tail _ (.tail _ (.tail _ (.tail _ (.tail _ (.tail _ (.head _)))))))
  ·exact hh _ (.tail _ (.tail _ (.tail _ (.tail _ (.tail _ (.tail _ (.tail _ (.head _))))))))
  ·exact hh _ (.tail _ (.tail _ (.tail _ (.tail _ (.tail _ (.tail _ (.tail _ (.tail _ (.head _)))))))))
  ·exact hh _ (.tail _ (.tail _ (.tail _ (.tail _ (.tail _ (.tail _ (.tail _ (.tail _ (.tail _ (.head _))))))))))
  ·exact hh _ (.tail _ (.tail _ (.tail _ (.tail _ (.tail _ (.tail _ (.tail _ (.tail _ (.tail _ (.tail _ (.head _)))))))))))
 ·have hn:wantOf op = none:=by unfold wantOf;simp only [not_or] at ho;simp [ho]
  rw [hn]
  refine h8 _ fun t ht e => ?_
  simp only [insT,List.mem_cons,List.not_mem_nil,or_false] at ht
  rcases ht with rfl | rfl | rfl | rfl | rfl | rfl | rfl | rfl | rfl | rfl | rfl <;> (simp at e;omega)
theorem inT_cases {i:Nat} (h:i ∈ [4,8,12,15,18,21,24,27,30,33,36]):i = 4 ∨ i = 8 ∨ i = 12 ∨ i = 15 ∨ i = 18 ∨ i = 21 ∨ i = 24 ∨ i = 27 ∨ i = 30 ∨ i = 33 ∨ i = 36:=by simpa using h
theorem Tryz.keyInt (a:Int) (h:(Lit.int .i64 a).wf = true):keyOf Tryz.prog 3 (.int .i64 a) = some (.int .i64 a):=Maps.keyOf_int_mk Tryz.underlying3 h

set_option maxRecDepth 100000 in
set_option maxHeartbeats 1000000 in
theorem typing_rules (w:World):Calls Tryz.prog 173 #[] w fun e w' => e = .returned (.map (some (w.heap.size + 3))) ∧ Rules w' (w.heap.size + 3) w.heap.size ∧ Below w.heap.size w w':=by
 have hmm:=@run_makeMap Tryz.prog
 go_enter Tryz.func173,Tryz.ntmps173
 go_wp2_with fail
 refine wp_region_T (fun _ => True) 38 (by kernel_rfl) ?_
 have hS0:=True.intro
 refine wpAnyT_take (i:=1) (oi:=_) (v:=?_) rfl (by kernel_rfl) (fun _ _ _ h => h) hS0 (by rfl) ?_ ?_
 rotate_left
 ·intro w' hS';(try dsimp only at hS');(try go_split_ands);go_simp;(try rw [if_neg (by omega)]);try with_reducible rfl
 simp only [Act.put,List.setIfInBounds_toArray,List.set_cons_zero,List.set_cons_succ]
 refine wpAnyT_take (i:=2) (oi:=_) (v:=?_) rfl (by kernel_rfl) (fun _ _ _ h => h) hS0 (by rfl) ?_ ?_
 rotate_left
 ·intro w' hS';(try dsimp only at hS');(try go_split_ands);go_simp;(try rw [if_neg (by omega)]);try with_reducible rfl
 simp only [Act.put,List.setIfInBounds_toArray,List.set_cons_zero,List.set_cons_succ]
 refine wpAnyT_take (i:=3) (oi:=_) (v:=?_) rfl (by kernel_rfl) (fun _ _ _ h => h) hS0 (by rfl) ?_ ?_
 rotate_left
 ·intro w' hS';(try dsimp only at hS');(try go_split_ands);go_simp;(try rw [if_neg (by omega)]);try with_reducible rfl
 simp only [Act.put,List.setIfInBounds_toArray,List.set_cons_zero,List.set_cons_succ]
 refine wpAnyT_take (i:=5) (oi:=_) (v:=?_) rfl (by kernel_rfl) (fun _ _ _ h => h) hS0 (by rfl) ?_ ?_
 rotate_left
 ·intro w' hS';(try dsimp only at hS');(try go_split_ands);go_simp;(try rw [if_neg (by omega)]);try with_reducible rfl
 simp only [Act.put,List.setIfInBounds_toArray,List.set_cons_zero,List.set_cons_succ]
 refine wpAnyT_take (i:=6) (oi:=_) (v:=?_) rfl (by kernel_rfl) (fun _ _ _ h => h) hS0 (by rfl) ?_ ?_
 rotate_left
 ·intro w' hS';(try dsimp only at hS');(try go_split_ands);go_simp;(try rw [if_neg (by omega)]);try with_reducible rfl
 simp only [Act.put,List.setIfInBounds_toArray,List.set_cons_zero,List.set_cons_succ]
 refine wpAnyT_take (i:=7) (oi:=_) (v:=?_) rfl (by kernel_rfl) (fun _ _ _ h => h) hS0 (by rfl) ?_ ?_
 rotate_left
 ·intro w' hS';(try dsimp only at hS');(try go_split_ands);go_simp;(try rw [if_neg (by omega)]);try with_reducible rfl
 simp only [Act.put,List.setIfInBounds_toArray,List.set_cons_zero,List.set_cons_succ]
 refine wpAnyT_take (i:=9) (oi:=_) (v:=?_) rfl (by kernel_rfl) (fun _ _ _ h => h) hS0 (by rfl) ?_ ?_
 rotate_left
 ·intro w' hS';(try dsimp only at hS');(try go_split_ands);go_simp;(try rw [if_neg (by omega)]);try with_reducible rfl
 simp only [Act.put,List.setIfInBounds_toArray,List.set_cons_zero,List.set_cons_succ]
 refine wpAnyT_take (i:=10) (oi:=_) (v:=?_) rfl (by kernel_rfl) (fun _ _ _ h => h) hS0 (by rfl) ?_ ?_
 rotate_left
 ·intro w' hS';(try dsimp only at hS');(try go_split_ands);go_simp;(try rw [if_neg (by omega)]);try with_reducible rfl
 simp only [Act.put,List.setIfInBounds_toArray,List.set_cons_zero,List.set_cons_succ]
 refine wpAnyT_take (i:=11) (oi:=_) (v:=?_) rfl (by kernel_rfl) (fun _ _ _ h => h) hS0 (by rfl) ?_ ?_
 rotate_left
 ·intro w' hS';(try dsimp only at hS');(try go_split_ands);go_simp;(try rw [if_neg (by omega)]);try with_reducible rfl
 simp only [Act.put,List.setIfInBounds_toArray,List.set_cons_zero,List.set_cons_succ]
 refine wpAnyT_take (i:=13) (oi:=_) (v:=?_) rfl (by kernel_rfl) (fun _ _ _ h => h) hS0 (by rfl) ?_ ?_
 rotate_left
 ·intro w' hS';(try dsimp only at hS');(try go_split_ands);go_simp;(try rw [if_neg (by omega)]);try with_reducible rfl
 simp only [Act.put,List.setIfInBounds_toArray,List.set_cons_zero,List.set_cons_succ]
 refine wpAnyT_take (i:=14) (oi:=_) (v:=?_) rfl (by kernel_rfl) (fun _ _ _ h => h) hS0 (by rfl) ?_ ?_
 rotate_left
 ·intro w' hS';(try dsimp only at hS');(try go_split_ands);go_simp;(try rw [if_neg (by omega)]);try with_reducible rfl
 simp only [Act.put,List.setIfInBounds_toArray,List.set_cons_zero,List.set_cons_succ]
 refine wpAnyT_take (i:=16) (oi:=_) (v:=?_) rfl (by kernel_rfl) (fun _ _ _ h => h) hS0 (by rfl) ?_ ?_
 rotate_left
 ·intro w' hS';(try dsimp only at hS');(try go_split_ands);go_simp;(try rw [if_neg (by omega)]);try with_reducible rfl
 simp only [Act.put,List.setIfInBounds_toArray,List.set_cons_zero,List.set_cons_succ]
 refine wpAnyT_take (i:=17) (oi:=_) (v:=?_) rfl (by kernel_rfl) (fun _ _ _ h => h) hS0 (by rfl) ?_ ?_
 rotate_left
 ·intro w' hS';(try dsimp only at hS');(try go_split_ands);go_simp;(try rw [if_neg (by omega)]);try with_reducible rfl
 simp only [Act.put,List.setIfInBounds_toArray,List.set_cons_zero,List.set_cons_succ]
 refine wpAnyT_take (i:=19) (oi:=_) (v:=?_) rfl (by kernel_rfl) (fun _ _ _ h => h) hS0 (by rfl) ?_ ?_
 rotate_left
 ·intro w' hS';(try dsimp only at hS');(try go_split_ands);go_simp;(try rw [if_neg (by omega)]);try with_reducible rfl
 simp only [Act.put,List.setIfInBounds_toArray,List.set_cons_zero,List.set_cons_succ]
 refine wpAnyT_take (i:=20) (oi:=_) (v:=?_) rfl (by kernel_rfl) (fun _ _ _ h => h) hS0 (by rfl) ?_ ?_
 rotate_left
 ·intro w' hS';(try dsimp only at hS');(try go_split_ands);go_simp;(try rw [if_neg (by omega)]);try with_reducible rfl
 simp only [Act.put,List.setIfInBounds_toArray,List.set_cons_zero,List.set_cons_succ]
 refine wpAnyT_take (i:=22) (oi:=_) (v:=?_) rfl (by kernel_rfl) (fun _ _ _ h => h) hS0 (by rfl) ?_ ?_
 rotate_left
 ·intro w' hS';(try dsimp only at hS');(try go_split_ands);go_simp;(try rw [if_neg (by omega)]);try with_reducible rfl
 simp only [Act.put,List.setIfInBounds_toArray,List.set_cons_zero,List.set_cons_succ]
 refine wpAnyT_take (i:=23) (oi:=_) (v:=?_) rfl (by kernel_rfl) (fun _ _ _ h => h) hS0 (by rfl) ?_ ?_
 rotate_left
 ·intro w' hS';(try dsimp only at hS');(try go_split_ands);go_simp;(try rw [if_neg (by omega)]);try with_reducible rfl
 simp only [Act.put,List.setIfInBounds_toArray,List.set_cons_zero,List.set_cons_succ]
 refine wpAnyT_take (i:=25) (oi:=_) (v:=?_) rfl (by kernel_rfl) (fun _ _ _ h => h) hS0 (by rfl) ?_ ?_
 rotate_left
 ·intro w' hS';(try dsimp only at hS');(try go_split_ands);go_simp;(try rw [if_neg (by omega)]);try with_reducible rfl
 simp only [Act.put,List.setIfInBounds_toArray,List.set_cons_zero,List.set_cons_succ]
 refine wpAnyT_take (i:=26) (oi:=_) (v:=?_) rfl (by kernel_rfl) (fun _ _ _ h => h) hS0 (by rfl) ?_ ?_
 rotate_left
 ·intro w' hS';(try dsimp only at hS');(try go_split_ands);go_simp;(try rw [if_neg (by omega)]);try with_reducible rfl
 simp only [Act.put,List.setIfInBounds_toArray,List.set_cons_zero,List.set_cons_succ]
 refine wpAnyT_take (i:=28) (oi:=_) (v:=?_) rfl (by kernel_rfl) (fun _ _ _ h => h) hS0 (by rfl) ?_ ?_
 rotate_left
 ·intro w' hS';(try dsimp only at hS');(try go_split_ands);go_simp;(try rw [if_neg (by omega)]);try with_reducible rfl
 simp only [Act.put,List.setIfInBounds_toArray,List.set_cons_zero,List.set_cons_succ]
 refine wpAnyT_take (i:=29) (oi:=_) (v:=?_) rfl (by kernel_rfl) (fun _ _ _ h => h) hS0 (by rfl) ?_ ?_
 rotate_left
 ·intro w' hS';(try dsimp only at hS');(try go_split_ands);go_simp;(try rw [if_neg (by omega)]);try with_reducible rfl
 simp only [Act.put,List.setIfInBounds_toArray,List.set_cons_zero,List.set_cons_succ]
 refine wpAnyT_take (i:=31) (oi:=_) (v:=?_) rfl (by kernel_rfl) (fun _ _ _ h => h) hS0 (by rfl) ?_ ?_
 rotate_left
 ·intro w' hS';(try dsimp only at hS');(try go_split_ands);go_simp;(try rw [if_neg (by omega)]);try with_reducible rfl
 simp only [Act.put,List.setIfInBounds_toArray,List.set_cons_zero,List.set_cons_succ]
 refine wpAnyT_take (i:=32) (oi:=_) (v:=?_) rfl (by kernel_rfl) (fun _ _ _ h => h) hS0 (by rfl) ?_ ?_
 rotate_left
 ·intro w' hS';(try dsimp only at hS');(try go_split_ands);go_simp;(try rw [if_neg (by omega)]);try with_reducible rfl
 simp only [Act.put,List.setIfInBounds_toArray,List.set_cons_zero,List.set_cons_succ]
 refine wpAnyT_take (i:=34) (oi:=_) (v:=?_) rfl (by kernel_rfl) (fun _ _ _ h => h) hS0 (by rfl) ?_ ?_
 rotate_left
 ·intro w' hS';(try dsimp only at hS');(try go_split_ands);go_simp;(try rw [if_neg (by omega)]);try with_reducible rfl
 simp only [Act.put,List.setIfInBounds_toArray,List.set_cons_zero,List.set_cons_succ]
 refine wpAnyT_take (i:=35) (oi:=_) (v:=?_) rfl (by kernel_rfl) (fun _ _ _ h => h) hS0 (by rfl) ?_ ?_
 rotate_left
 ·intro w' hS';(try dsimp only at hS');(try go_split_ands);go_simp;(try rw [if_neg (by omega)]);try with_reducible rfl
 simp only [Act.put,List.setIfInBounds_toArray,List.set_cons_zero,List.set_cons_succ]
 refine wpAnyT_one (i:=0) (o:=_) rfl (by kernel_rfl) (fun K hK => ?_)
 go_simp
 refine hK.out _ _ (fun _ => trivial) ?_
 clear hK K
 refine wpAnyT_listed (L':=mkL 39 37 [4,8,12,15,18,21,24,27,30,33,36]) (by kernel_rfl) ?_
 refine wpAnyT_bag (bag:=[4,8,12,15,18,21,24,27,30,33,36]) (m:=37) (by kernel_rfl) _ (RulesJ (w.heap.size + 3) w.heap.size w) 2 ?step ?fin 11 [4,8,12,15,18,21,24,27,30,33,36] _ rfl (fun _ h => h) (by decide) ?start
 case start =>
  refine ⟨bel,by simp,⟨by go_simp,by go_simp⟩,⟨by go_simp,by go_simp⟩,⟨by go_simp,by go_simp⟩,by decide,fun _ => none,?_,?_,?_⟩
  ·have h:=MapIs.made (((w.alloc (.cells #[.int .i64 1,.int .i64 1] 3)).alloc (.cells #[.int .i64 2,.int .i64 2] 3)).alloc (.cells #[.int .i64 3,.int .i64 3] 3)) Tryz.prog 3
   simp only [World.size_alloc] at h
   exact h
  ·intro t ht hnr
   exfalso
   simp only [insT,List.mem_cons,List.not_mem_nil,or_false] at ht
   rcases ht with rfl | rfl | rfl | rfl | rfl | rfl | rfl | rfl | rfl | rfl | rfl <;> simp at hnr
  ·intro _ _;rfl
 case step =>
  intro rem W i hir hib hnd hJ
  obtain ⟨hb0,hb1,hr1,hr2,hr3,hln,f,hf1,hf2,hf3⟩:=hJ
  have HN:=Lib.hid (fun t ht hr w' h9 hg => RulesJ.next (t:=t) (w':=w') ht hr hnd hb0 hb1 hr1 hr2 hr3 hln (b:=w.heap.size + 3) (by omega) (by omega) hf2 hf3 h9 hg)
  clear hb0 hb1 hr1 hr2 hr3 hf2 hf3 hnd
  rcases inT_cases hib with rfl | rfl | rfl | rfl | rfl | rfl | rfl | rfl | rfl | rfl | rfl
  ·refine wpOp_plain (o:=_) rfl rfl (fun K hK => ?_)
   refine wp_insert_Is (.tmp 7) (.const (.int .i64 3)) (.tmp 10) 205 rfl 3 219 (Maps.int_keyed Tryz.underlying3) Tryz.underlying205 (w.heap.size + 3) (11 - rem.length) f rfl hf1 (by unfold maxLen;omega) _ _ _ rfl rfl (Tryz.keyInt 3 (by decide)) ?_
   intro w' h9 hg
   exact hK _ _ ⟨rfl,fun _ => trivial,HN.out _ (.head _) hir w' h9 hg⟩
  ·refine wpOp_plain (o:=_) rfl rfl (fun K hK => ?_)
   refine wp_insert_Is (.tmp 7) (.const (.int .i64 4)) (.tmp 13) 205 rfl 3 219 (Maps.int_keyed Tryz.underlying3) Tryz.underlying205 (w.heap.size + 3) (11 - rem.length) f rfl hf1 (by unfold maxLen;omega) _ _ _ rfl rfl (Tryz.keyInt 4 (by decide)) ?_
   intro w' h9 hg
   exact hK _ _ ⟨rfl,fun _ => trivial,HN.out _ (.tail _ (.head _)) hir w' h9 hg⟩
  ·refine wpOp_plain (o:=_) rfl rfl (fun K hK => ?_)
   refine wp_insert_Is (.tmp 7) (.const (.int .i64 18)) (.tmp 16) 205 rfl 3 219 (Maps.int_keyed Tryz.underlying3) Tryz.underlying205 (w.heap.size + 3) (11 - rem.length) f rfl hf1 (by unfold maxLen;omega) _ _ _ rfl rfl (Tryz.keyInt 18 (by decide)) ?_
   intro w' h9 hg
   exact hK _ _ ⟨rfl,fun _ => trivial,HN.out _ (.tail _ (.tail _ (.head _))) hir w' h9 hg⟩
  ·refine wpOp_plain (o:=_) rfl rfl (fun K hK => ?_)
   refine wp_insert_Is (.tmp 7) (.const (.int .i64 5)) (.tmp 18) 205 rfl 3 219 (Maps.int_keyed Tryz.underlying3) Tryz.underlying205 (w.heap.size + 3) (11 - rem.length) f rfl hf1 (by unfold maxLen;omega) _ _ _ rfl rfl (Tryz.keyInt 5 (by decide)) ?_
   intro w' h9 hg
   exact hK _ _ ⟨rfl,fun _ => trivial,HN.out _ (.tail _ (.tail _ (.tail _ (.head _)))) hir w' h9 hg⟩
  ·refine wpOp_plain (o:=_) rfl rfl (fun K hK => ?_)
   refine wp_insert_Is (.tmp 7) (.const (.int .i64 6)) (.tmp 20) 205 rfl 3 219 (Maps.int_keyed Tryz.underlying3) Tryz.underlying205 (w.heap.size + 3) (11 - rem.length) f rfl hf1 (by unfold maxLen;omega) _ _ _ rfl rfl (Tryz.keyInt 6 (by decide)) ?_
   intro w' h9 hg
   exact hK _ _ ⟨rfl,fun _ => trivial,HN.out _ (.tail _ (.tail _ (.tail _ (.tail _ (.head _))))) hir w' h9 hg⟩
  ·refine wpOp_plain (o:=_) rfl rfl (fun K hK => ?_)
   refine wp_insert_Is (.tmp 7) (.const (.int .i64 7)) (.tmp 22) 205 rfl 3 219 (Maps.int_keyed Tryz.underlying3) Tryz.underlying205 (w.heap.size + 3) (11 - rem.length) f rfl hf1 (by unfold maxLen;omega) _ _ _ rfl rfl (Tryz.keyInt 7 (by decide)) ?_
   intro w' h9 hg
   exact hK _ _ ⟨rfl,fun _ => trivial,HN.out _ (.tail _ (.tail _ (.tail _ (.tail _ (.tail _ (.head _)))))) hir w' h9 hg⟩
  ·refine wpOp_plain (o:=_) rfl rfl (fun K hK => ?_)
   refine wp_insert_Is (.tmp 7) (.const (.int .i64 8)) (.tmp 24) 205 rfl 3 219 (Maps.int_keyed Tryz.underlying3) Tryz.underlying205 (w.heap.size + 3) (11 - rem.length) f rfl hf1 (by unfold maxLen;omega) _ _ _ rfl rfl (Tryz.keyInt 8 (by decide)) ?_
   intro w' h9 hg
   exact hK _ _ ⟨rfl,fun _ => trivial,HN.out _ (.tail _ (.tail _ (.tail _ (.tail _ (.tail _ (.tail _ (.head _))))))) hir w' h9 hg⟩
  ·refine wpOp_plain (o:=_) rfl rfl (fun K hK => ?_)
   refine wp_insert_Is (.tmp 7) (.const (.int .i64 9)) (.tmp 26) 205 rfl 3 219 (Maps.int_keyed Tryz.underlying3) Tryz.underlying205 (w.heap.size + 3) (11 - rem.length) f rfl hf1 (by unfold maxLen;omega) _ _ _ rfl rfl (Tryz.keyInt 9 (by decide)) ?_
   intro w' h9 hg
   exact hK _ _ ⟨rfl,fun _ => trivial,HN.out _ (.tail _ (.tail _ (.tail _ (.tail _ (.tail _ (.tail _ (.tail _ (.head _)))))))) hir w' h9 hg⟩
  ·refine wpOp_plain (o:=_) rfl rfl (fun K hK => ?_)
   refine wp_insert_Is (.tmp 7) (.const (.int .i64 10)) (.tmp 28) 205 rfl 3 219 (Maps.int_keyed Tryz.underlying3) Tryz.underlying205 (w.heap.size + 3) (11 - rem.length) f rfl hf1 (by unfold maxLen;omega) _ _ _ rfl rfl (Tryz.keyInt 10 (by decide)) ?_
   intro w' h9 hg
   exact hK _ _ ⟨rfl,fun _ => trivial,HN.out _ (.tail _ (.tail _ (.tail _ (.tail _ (.tail _ (.tail _ (.tail _ (.tail _ (.head _))))))))) hir w' h9 hg⟩
  ·refine wpOp_plain (o:=_) rfl rfl (fun K hK => ?_)
   refine wp_insert_Is (.tmp 7) (.const (.int .i64 15)) (.tmp 30) 205 rfl 3 219 (Maps.int_keyed Tryz.underlying3) Tryz.underlying205 (w.heap.size + 3) (11 - rem.length) f rfl hf1 (by unfold maxLen;omega) _ _ _ rfl rfl (Tryz.keyInt 15 (by decide)) ?_
   intro w' h9 hg
   exact hK _ _ ⟨rfl,fun _ => trivial,HN.out _ (.tail _ (.tail _ (.tail _ (.tail _ (.tail _ (.tail _ (.tail _ (.tail _ (.tail _ (.head _)))))))))) hir w' h9 hg⟩
  ·refine wpOp_plain (o:=_) rfl rfl (fun K hK => ?_)
   refine wp_insert_Is (.tmp 7) (.const (.int .i64 16)) (.tmp 32) 205 rfl 3 219 (Maps.int_keyed Tryz.underlying3) Tryz.underlying205 (w.heap.size + 3) (11 - rem.length) f rfl hf1 (by unfold maxLen;omega) _ _ _ rfl rfl (Tryz.keyInt 16 (by decide)) ?_
   intro w' h9 hg
   exact hK _ _ ⟨rfl,fun _ => trivial,HN.out _ (.tail _ (.tail _ (.tail _ (.tail _ (.tail _ (.tail _ (.tail _ (.tail _ (.tail _ (.tail _ (.head _))))))))))) hir w' h9 hg⟩
 case fin =>
  intro W hJ
  have HR:=Lib.hid (And.intro hJ.done hJ.1)
  clear hJ
  refine wpAnyT_one (i:=37) (o:=_) rfl (by kernel_rfl) (fun K hK => ?_)
  go_simp
  refine hK.out _ _ (fun _ => trivial) ?_
  clear hK K
  try simp only [Act.put,List.setIfInBounds_toArray,List.set_cons_zero,List.set_cons_succ]
  refine wpAnyT_one (i:=38) (o:=_) rfl (by kernel_rfl) (fun K hK => ?_)
  go_simp
  refine hK.out _ _ (fun h => absurd h (by decide)) ?_
  clear hK K
  refine wpAnyT_done (by kernel_rfl) ?_ _
  try simp only [Act.put,List.setIfInBounds_toArray,List.set_cons_zero,List.set_cons_succ]
  go_wp2_with fail
  go_ret
  exact ⟨rfl,HR.out.1,HR.out.2⟩
end Go.Proofs.YtldbpmlgbbomcaaGreatDoor
