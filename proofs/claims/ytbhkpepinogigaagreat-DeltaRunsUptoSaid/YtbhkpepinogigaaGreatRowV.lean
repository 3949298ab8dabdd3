/- Rows of values: slices.Clone, Equal. -/
import Derived.Test.YtbhkpepinogigaaGreatTypes
namespace Go.Proofs.YtbhkpepinogigaaGreat
open Go.RowKit

theorem Tryz.infoValR:(Tryz.prog.info? 73).map (fun i => (i.zero,i.size,i.bytes)) = some (some (.agg #[.int .i64 0,.int .i64 0,.string ⟨#[]⟩]),3,32):=by kernel_rfl
theorem oneValR (l:List Val):∀ u ∈ l.flatMap Val.cs,u.oneCell' = true:=by
 intro u hu
 obtain ⟨x,_,hx⟩:=List.mem_flatMap.1 hu
 simp only [Val.cs,List.mem_cons,List.not_mem_nil,or_false] at hx
 rcases hx with rfl | rfl | rfl <;> rfl
theorem lenValR (x:Val):x.cs.length = 3:=rfl
theorem Sl.cellsValR {w:World} {S:Nat → Prop} {A:Option Addr} {n:Nat} {l:List Val} (h:Sl w S 3 RVal A n l):∀ p,A = some p → ∀ j u,(l.flatMap Val.cs)[j]? = some u → w.cell? (p.add j) = some u :=
 Sl.cells (by decide) lenValR (fun _ _ h => h.1) h
theorem ownValR {w:World} {base:Nat} {e:TypeId} {v:Value} {n:Nat} {l:List Val} (h:w.ownsRow base e 3 v n (l.flatMap Val.cs)) (hl:l.length = n) (hw:∀ a ∈ l,a.wf) :
  ∃ A c,v = .slice A n c ∧ n ≤ c ∧ Sl w (old w) 3 RVal A n l:=own_slw Val.cs Val.wf lenValR h hl hw
def valEqR (x y:Val):Bool:=(x.k == y.k && (x.n == y.n && (x.s.toList == y.s.toList)))
theorem valEqR_iff (x y:Val):valEqR x y = true ↔ x = y:=by
 simp only [valEqR,Bool.and_eq_true,beq_iff_eq]
 constructor
 ·intro h
  obtain ⟨a1,a2,a3⟩:=x
  obtain ⟨b1,b2,b3⟩:=y
  simp only at h
  simp only [Val.mk.injEq,Val.mk.injEq]
  grind [toList_inj]
 ·rintro rfl
  simp
theorem run_neq_ValR (w:World) (x y:Val):(binOp .neq 73 (.agg #[.int .i64 x.k,.int .i64 x.n,.string x.s]) (.agg #[.int .i64 y.k,.int .i64 y.n,.string y.s])).run Tryz.prog w = .ok (.bool (!valEqR x y)) w:=by
 go_simp
 unfold valEqR
 (repeat' split) <;> simp_all
set_option maxHeartbeats 1000000 in
set_option maxRecDepth 100000 in
theorem clone_Val (A:Option Addr) (n c:Nat) (l:List Val) (w:World) (hn:inB 32 n) (h:Sl w (old w) 3 RVal A n l) :
  Calls Tryz.prog 86 #[.slice A n c] w (OwnRow Val.cs 73 3 w l):=by
 cases A with
 | none =>
  obtain ⟨rfl,rfl⟩:=h.of_none
  have hq:=fun w => Lib.run_eql_slice_nil (P:=Tryz.prog) w 33 _ none 0 c 0 0 Tryz.underlying33
  go_enter Tryz.func86,Tryz.ntmps86
  go_wp2_with fail
  go_ret
  exact ⟨_,rfl,World.ownsRow_nil _ _ _ _,Below.refl _ _⟩
 | some p =>
  obtain ⟨i0,hi,hz0,hz1,hz2⟩:=info_parts Tryz.infoValR
  have hq:=fun w => Lib.run_eql_slice_nil (P:=Tryz.prog) w 33 _ (some p) n c 0 0 Tryz.underlying33
  have hc:=h.cellsValR p rfl
  have hl:=h.len
  unfold inB at hn
  have HC:=Lib.hid hc
  clear hc h
  go_enter Tryz.func86,Tryz.ntmps86
  go_wp2_with (at_builtin;refine wpList_append_sl rfl _ _ 33 rfl w.heap.size 73 i0 (.agg #[.int .i64 0,.int .i64 0,.string ⟨#[]⟩]) 3 32 Tryz.underlying33 hi hz0 hz1 hz2 rfl (by decide) _ 0 [] rfl (World.ownsRow_made w #[] 0 (Nat.le_refl _) (Nat.zero_le _) (by simp)) (some p) n c (l.flatMap Val.cs) rfl (by rw [flat_len _ 3 lenValR,hl]) (fun p' hp j u hj => by cases hp;exact Lib.cell?_alloc_some _ (HC.out j u hj)) (by simp) (oneValR l) (by unfold maxLen;omega) (by omega) (by simp) ?_;intro v1 w1 hown1 hb1 hz1)
  go_ret
  refine ⟨v1,rfl,by rw [hl];simpa using hown1,(Below.refl _ _).alloc (Nat.le_refl _) _ |>.trans hb1⟩
set_option maxHeartbeats 1000000 in
set_option maxRecDepth 100000 in
theorem equal_Val (A:Option Addr) (n c:Nat) (l:List Val) (A1:Option Addr) (n1 c1:Nat) (l1:List Val) (w:World) (hn:inL n) (hn1:inL n1) (h:Sl w (old w) 3 RVal A n l) (h1:Sl w (old w) 3 RVal A1 n1 l1) :
  Calls Tryz.prog 85 #[.slice A n c,.slice A1 n1 c1] w (RetB w (decide (l = l1))):=by
 unfold inL at hn hn1
 by_cases hne:n = n1
 ·subst hne
  have HH:=Lib.hid (And.intro h h1)
  clear h h1
  go_enter Tryz.func85,Tryz.ntmps85
  go_wp2_with fail
  go_loopw [13] (fun i wr => ∃ k:Nat,k ≤ n ∧ i = .int .i64 k ∧ l.take k = l1.take k ∧ Below w.heap.size w wr) (fun i _ => n - (intOf i).toNat)
  case atStart => exact ⟨0,by omega,rfl,by simp,Below.refl _ _⟩
  case round =>
   obtain ⟨k,hk,rfl,hv,hb⟩:=hrel
   by_cases hlt:k < n
   ·obtain ⟨b,o,x,rfl,_,hl,_,h0,h1,h2⟩:=Val_at (HH.out.1.now hb) hlt
    obtain ⟨b1,o1,y,rfl,_,hl1,_,g0,g1,g2⟩:=Val_at (HH.out.2.now hb) hlt
    have HL:=Lib.hid (And.intro hl (And.intro hl1 hv))
    clear hl hl1 hv
    have hneq:=fun w => run_neq_ValR w x y
    cases he:valEqR x y
    ·have HE:=Lib.hid he
     go_wp2_with fail
     go_quiet (fail)
     go_wp2_with fail
     go_ret
     refine ⟨ret_bool ?_,bel⟩
     rw [eq_comm,decide_eq_false_iff_not]
     intro e
     subst e
     rw [HL.out.1] at HL
     have:=HL.out.2.1
     cases this
     rw [(valEqR_iff x x).2 rfl] at HE
     cases HE.out
    ·have HE:=Lib.hid he
     go_wp2_with fail
     go_quiet (fail)
     go_wp2_with fail
     go_roundw
     case rel =>
      refine ⟨k + 1,by omega,by go_num,?_,bel⟩
      rw [List.take_add_one,List.take_add_one,HL.out.1,HL.out.2.1,HL.out.2.2,(valEqR_iff x y).1 HE.out]
     case measure => simp [intOf];omega
   ·have hke:k = n:=by omega
    subst hke
    have e0:l.take k = l:=by rw [List.take_of_length_le (by rw [HH.out.1.len];exact Nat.le_refl _)]
    have e1:l1.take k = l1:=by rw [List.take_of_length_le (by rw [HH.out.2.len];exact Nat.le_refl _)]
    rw [e0,e1] at hv
    have HV:=Lib.hid hv
    clear hv e0 e1
    go_wp2_with fail
    go_ret
    exact ⟨ret_bool (by rw [eq_comm,decide_eq_true_iff];exact HV.out),hb⟩
 ·have hd:((n:Int) != (n1:Int)) = true:=by simp;omega
  have hf:decide (l = l1) = false:=by
   rw [decide_eq_false_iff_not]
   intro e
   exact hne (by rw [← h.len,← h1.len,e])
  rw [hf]
  clear h h1
  go_enter Tryz.func85,Tryz.ntmps85
  go_wp2_with fail
  go_ret
  exact ⟨rfl,Below.refl _ _⟩
set_option maxHeartbeats 400000 in
theorem same_Values (A:Option Addr) (n c:Nat) (l:List Val) (A1:Option Addr) (n1 c1:Nat) (l1:List Val) (w:World) (hn:inL n) (hn1:inL n1) (h:Sl w (old w) 3 RVal A n l) (h1:Sl w (old w) 3 RVal A1 n1 l1) :
  Calls Tryz.prog 36 #[.slice A n c,.slice A1 n1 c1] w (RetB w (decide (l = l1))):=by
 have HH:=Lib.hid (And.intro h h1)
 clear h h1
 go_enter Tryz.func36,Tryz.ntmps36
 go_wp2_with (refine (equal_Val A n c l A1 n1 c1 l1 _ hn hn1 HH.out.1 HH.out.2).mono ?_;rintro e w1 ⟨rfl,hb1⟩)
 go_ret
 exact ⟨rfl,hb1⟩
end Go.Proofs.YtbhkpepinogigaaGreat
