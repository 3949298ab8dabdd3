/- The reader of formulas: its box in memory; fail, is, take, want, op. -/
import Derived.Test.YtldbpmlgbbomcaaGreatDoorParsP
import Derived.Test.YtldbpmlgbbomcaaGreatDoorRowK
import Derived.Laws.Rows
import Derived.WalkLawsBesides
namespace Go.Proofs.YtldbpmlgbbomcaaGreatDoor
open Go.RowKit

structure Bes (R:Nat) (w w':World):Prop where
 os:w'.os = w.os
 tape:w'.tape = w.tape
 output:w'.output = w.output
 size:w.heap.size ≤ w'.heap.size
 block:∀ k,k < w.heap.size → k ≠ R → w'.heap[k]? = w.heap[k]?
section
variable {R:Nat} {a b c:World}
theorem Bes.refl (R:Nat) (w:World):Bes R w w:=⟨rfl,rfl,rfl,Nat.le_refl _,fun _ _ _ => rfl⟩
theorem Bes.trans (h:Bes R a b) (k:Bes R b c):Bes R a c :=
 ⟨k.os.trans h.os,k.tape.trans h.tape,k.output.trans h.output,Nat.le_trans h.size k.size,fun i hi hn => (k.block i (Nat.lt_of_lt_of_le hi h.size) hn).trans (h.block i hi hn)⟩
theorem Bes.of (h:Below a.heap.size a b):Bes R a b:=⟨h.os,h.tape,h.output,h.size,fun k hk _ => h.block k hk⟩
theorem Bes.of_step {n:Nat} (h:Bes R a b) (k:Below n b c) (hn:a.heap.size ≤ n):Bes R a c :=
 ⟨k.os.trans h.os,k.tape.trans h.tape,k.output.trans h.output,Nat.le_trans h.size k.size,fun i hi hne => (k.block i (by omega)).trans (h.block i hi hne)⟩
theorem bes_alloc (h:Bes R a b) {o:Obj}:Bes R a (b.alloc o):=h.of_step ((Below.refl b.heap.size b).alloc (Nat.le_refl _) o) h.size
theorem bes_new {p:Addr} {v:Value} (h:Bes R a b) (hn:a.heap.size ≤ p.block):Bes R a (b.setCell p v):=h.of_step ((Below.refl a.heap.size b).setCell hn v) (Nat.le_refl _)
theorem bes_own {o:Nat} {v:Value} (h:Bes R a b):Bes R a (b.setCell ⟨R,o,none⟩ v):=by
 have k:Below 0 b (b.setCell ⟨R,o,none⟩ v):=(Below.refl 0 b).setCell (Nat.zero_le _) v
 refine ⟨k.os.trans h.os,k.tape.trans h.tape,k.output.trans h.output,Nat.le_trans h.size k.size,fun i hi hne => ?_⟩
 rw [← h.block i hi hne]
 simp only [World.setCell,Array.getElem?_modify]
 rw [if_neg (fun e => hne e.symm)]
theorem bes_drew (h:Bes R a b):Bes R a b.drew:=⟨h.os,h.tape,h.output,h.size,h.block⟩
theorem bes_drewN (h:Bes R a b) (k:Nat):Bes R a (b.drewN k):=⟨h.os,h.tape,h.output,h.size,h.block⟩
end
theorem bes {R:Nat} {a b:World} (h:Bes R a b:=by repeat (first | with_reducible exact Bes.refl _ _ | with_reducible assumption | with_reducible refine bes_drewN ?_ _ | with_reducible refine bes_drew ?_ | with_reducible refine bes_alloc ?_ | with_reducible refine bes_own ?_ | with_reducible refine bes_new ?_ (by simp;try omega) | with_reducible refine Bes.trans ?_ (by assumption) | with_reducible refine Bes.trans ?_ (Bes.of (by assumption)))):Bes R a b:=h
theorem bcells {R:Nat} {W w1:World} (hb:Bes R W w1):(∀ b o,b < W.heap.size → ¬ b = R → w1.cell? ⟨b,o,none⟩ = W.cell? ⟨b,o,none⟩) ∧ (∀ b o,b < W.heap.size → ¬ b = R → w1.frozen? ⟨b,o,none⟩ = W.frozen? ⟨b,o,none⟩) :=
 ⟨fun b o h hn => World.cell?_of_block (a:=⟨b,o,none⟩) (hb.block b h hn),fun b o h hn => World.frozen?_of_block (a:=⟨b,o,none⟩) (hb.block b h hn)⟩
def RdC (w:World) (R:Nat) (A:Option Addr) (n c:Nat) (en:Int):Prop :=
 w.cell? ⟨R,0,none⟩ = some (.slice A n c) ∧ w.cell? ⟨R,1,none⟩ = some (.int .i64 en) ∧ (∀ i v,shapesC[i]? = some v → w.cell? ⟨R,2 + i,none⟩ = some v) ∧ w.frozen? ⟨R,0,none⟩ = false
def RdS (T0:Nat) (w:World) (R:Nat) (ts:List Tkn) (en:Int):Prop :=
 ∃ A c,RdC w R A ts.length c en ∧ ts.length ≤ c ∧ Sl w (fun b => T0 ≤ b ∧ b < R) 6 RTkn A ts.length ts
theorem RdC.lt {w:World} {R:Nat} {A:Option Addr} {n c:Nat} {en:Int} (h:RdC w R A n c en):R < w.heap.size:=block_lt_of_cell h.1
theorem RdC.block {w w':World} {R:Nat} {A:Option Addr} {n c:Nat} {en:Int} (h:RdC w R A n c en) (hb:w'.heap[R]? = w.heap[R]?):RdC w' R A n c en :=
 ⟨(World.cell?_of_block (a:=⟨R,0,none⟩) hb).trans h.1,(World.cell?_of_block (a:=⟨R,1,none⟩) hb).trans h.2.1,fun i v hi => (World.cell?_of_block (a:=⟨R,2 + i,none⟩) hb).trans (h.2.2.1 i v hi),(World.frozen?_of_block (a:=⟨R,0,none⟩) hb).trans h.2.2.2⟩
theorem RdS.lt {T0:Nat} {w:World} {R:Nat} {ts:List Tkn} {en:Int} (h:RdS T0 w R ts en):R < w.heap.size:=by
 obtain ⟨A,c,h,_⟩:=h
 exact h.lt
theorem RdS.under {T0:Nat} {w w':World} {R n:Nat} {ts:List Tkn} {en:Int} (h:RdS T0 w R ts en) (hb:Below n w w') (hn:R < n):RdS T0 w' R ts en:=by
 obtain ⟨A,c,h1,h2,h3⟩:=h
 exact ⟨A,c,h1.block (hb.block R hn),h2,h3.keep (w':=w') (fun b hb' => hb.block b (by omega)) (fun _ _ h => h)⟩
theorem RdS.keep {T0:Nat} {w w':World} {R:Nat} {ts:List Tkn} {en:Int} (h:RdS T0 w R ts en) (hb:Below w.heap.size w w'):RdS T0 w' R ts en:=h.under hb h.lt
def posOf (en:Int) (ts:List Tkn):Int:=match ts with | [] => en | t :: _ => t.at_
def lostE (en:Int) (ts:List Tkn):Ending:=.panicked [{ v:=.iface 46 (.agg #[.int .i64 (posOf en ts)]),recovered:=false }]
theorem run_load_cells {P:Program} (w:World) (g o:Nat) (ty:TypeId) (cs:List Value) (d:TypeDesc) (hc:∀ i v,cs[i]? = some v → w.cell? ⟨g,o + i,none⟩ = some v)
  (hu:P.underlying ty = some d) (hd:(match d with | .struct _ | .array _ _ => true | _ => false) = true) (hi:(P.info? ty).map (·.size) = some cs.length) :
  (loadVar ty ⟨g,o,none⟩).run P w = .ok (.agg cs.toArray) w:=by
 have hl:(loadCells ⟨g,o,none⟩ cs.length).run P w = .ok cs.toArray w :=
  run_loadCells_list (P:=P) w ⟨g,o,none⟩ cs (fun j v hv => by
   have hadd:(⟨g,o,none⟩:Addr).add j = ⟨g,o + j,none⟩:=by unfold Addr.add;split <;> simp_all
   rw [hadd]
   exact hc j v hv)
 cases hq:P.info? ty with
 | none => simp [hq] at hi
 | some i =>
  have hs:i.size = cs.length:=by simpa [hq] using hi
  have hagg:(isAgg ty).run P w = .ok true w:=by
   unfold isAgg
   rw [Sem.run_bind,run_underlying hu w]
   cases d <;> simp_all
  simp [loadVar,Sem.run_bind,hagg,sizeOf,typeInfo,hq,hs,hl]
theorem wpList_load_cells {P:Program} {ops:Array Oper} {rest:List Oper} {o:Oper} {a:Act} {w:World} {Q:Exit → Act → World → Prop} (hgd:o.guard = none) (ty:TypeId) (x:Operand) (ho:o.op = .load ty x)
  (g k:Nat) (hx:a.eval x = .pointer (some ⟨g,k,none⟩)) (cs:List Value) (d:TypeDesc) (hc:∀ i v,cs[i]? = some v → w.cell? ⟨g,k + i,none⟩ = some v)
  (hu:P.underlying ty = some d) (hd:(match d with | .struct _ | .array _ _ => true | _ => false) = true) (hi:(P.info? ty).map (·.size) = some cs.length)
  (h:wpList P ops Q rest (a.put o.dst (.agg cs.toArray)) w):wpList P ops Q (o :: rest) a w:=by
 refine wpList_plain hgd fun _ hK => ?_
 unfold Oper.wp execOp
 simp only [ho,hx,Instr.loadAt,Instr.sureAddr,Sem.run_bind,Sem.run_pure,Result.andThen_ok,run_load_cells w g k ty cs d hc hu hd hi]
 exact hK _ _ h
set_option maxHeartbeats 1000000 in
theorem reader_fail (T0 R:Nat) (ts:List Tkn) (en:Int) (w:World) (h:RdS T0 w R ts en):Calls Tryz.prog 18 #[.pointer (some ⟨R,0,none⟩)] w fun e w' => e = lostE en ts ∧ w' = w:=by
 obtain ⟨A,c,⟨h0,h1,h2,h3⟩,hc,hs⟩:=h
 clear h2 h3
 cases ts with
 | nil =>
  have HE:Hid (lostE en [] = .panicked [{ v:=.iface 46 (.agg #[.int .i64 en]),recovered:=false }]):=Lib.hid rfl
  clear hs
  go_enter Tryz.func18,Tryz.ntmps18
  go_wp2_with fail
  exact ⟨rfl,HE.out.symm,rfl⟩
 | cons t r =>
  have HE:Hid (lostE en (t :: r) = .panicked [{ v:=.iface 46 (.agg #[.int .i64 t.at_]),recovered:=false }]):=Lib.hid rfl
  obtain ⟨b,o,x,rfl,hb,hl,hwf,x0,x1,x2,x3,x4,x5⟩:=Tkn_at hs (k:=0) (by simp)
  obtain rfl:t = x:=by simpa using hl
  rw [List.length_cons] at h0 hc
  simp only [Nat.zero_mul,Nat.add_zero] at x0 x1 x2 x3 x4 x5
  clear hs hl
  go_enter Tryz.func18,Tryz.ntmps18
  go_wp2_with fail
  exact ⟨rfl,HE.out.symm,rfl⟩
set_option maxHeartbeats 1000000 in
theorem reader_is (T0 R:Nat) (ts:List Tkn) (en:Int) (g:ByteArray) (w:World) (h:RdS T0 w R ts en):Calls Tryz.prog 87 #[.pointer (some ⟨R,0,none⟩),.string g] w fun e w' => e = .returned (.bool (isTk g ts)) ∧ w' = w:=by
 obtain ⟨A,c,⟨h0,h1,h2,h3⟩,hc,hs⟩:=h
 clear h2 h3
 cases ts with
 | nil =>
  clear hs
  go_enter Tryz.func87,Tryz.ntmps87
  go_wp2_with fail
  go_ret
  exact ⟨rfl,rfl⟩
 | cons t r =>
  obtain ⟨b,o,x,rfl,hb,hl,hwf,x0,x1,x2,x3,x4,x5⟩:=Tkn_at hs (k:=0) (by simp)
  obtain rfl:t = x:=by simpa using hl
  rw [List.length_cons] at h0 hc
  simp only [Nat.zero_mul,Nat.add_zero] at x0 x1 x2 x3 x4 x5
  have hi:isTk g (t :: r) = (t.kind != 3 && decide (t.s = g)):=rfl
  clear hs hl
  by_cases k3:t.kind = 3
  ·have g1:(t.kind != 3) = false:=by rw [k3];rfl
   rw [g1,Bool.false_and] at hi
   have HI:=Lib.hid hi
   clear k3 hi
   go_enter Tryz.func87,Tryz.ntmps87
   go_wp2_with fail
   go_ret
   exact ⟨ret_bool HI.out.symm,rfl⟩
  ·have g1:(t.kind != 3) = true:=by simpa using k3
   rw [g1,Bool.true_and] at hi
   by_cases ks:t.s = g
   ·have g3:(t.s.toList == g.toList) = true:=by rw [ks];simp
    rw [decide_eq_true ks] at hi
    have HI:=Lib.hid hi
    clear k3 hi ks
    go_enter Tryz.func87,Tryz.ntmps87
    go_wp2_with fail
    go_ret
    exact ⟨ret_bool HI.out.symm,rfl⟩
   ·have g3:(t.s.toList == g.toList) = false:=by
     simp only [beq_eq_false_iff_ne,ne_eq]
     exact fun e => ks (toList_inj e)
    rw [decide_eq_false ks] at hi
    have HI:=Lib.hid hi
    clear k3 hi ks
    go_enter Tryz.func87,Tryz.ntmps87
    go_wp2_with fail
    go_ret
    exact ⟨ret_bool HI.out.symm,rfl⟩
theorem rds_next {T0:Nat} {w:World} {R n c c':Nat} {A A':Option Addr} {r:List Tkn} {en:Int} (h:RdC w R A n c en) (hs:Sl w (fun b => T0 ≤ b ∧ b < R) 6 RTkn A' r.length r) (hc:r.length ≤ c') :
  RdS T0 (w.setCell ⟨R,0,none⟩ (.slice A' r.length c')) R r en:=by
 refine ⟨A',c',⟨?_,?_,fun i v hi => ?_,?_⟩,hc,?_⟩
 ·exact World.cell?_setCell_same' _ _ _ (by rw [h.1];rfl)
 ·rw [World.cell?_setCell_other _ _ _ _ (by simp)]
  exact h.2.1
 ·rw [World.cell?_setCell_other _ _ _ _ (by simp)]
  exact h.2.2.1 i v hi
 ·rw [World.frozen?_setCell]
  exact h.2.2.2
 ·exact hs.keep (fun b hb => by
   have hlt:=h.lt
   exact (bes_own (o:=0) (v:=.slice A' r.length c') (Bes.refl R w)).block b (by omega) (by omega)) (fun _ _ h => h)
set_option maxHeartbeats 1000000 in
theorem reader_take (T0 R:Nat) (t:Tkn) (r:List Tkn) (en:Int) (w:World) (h:RdS T0 w R (t :: r) en) :
  Calls Tryz.prog 41 #[.pointer (some ⟨R,0,none⟩)] w fun e w' => e = .returned (.agg #[.int .i64 t.kind,.int .i64 t.at_,.string t.s,.int .i64 t.v.k,.int .i64 t.v.n,.string t.v.s]) ∧ RdS T0 w' R r en ∧ Bes R w w':=by
 obtain ⟨A,c,hC,hc,hs⟩:=h
 have hlt:=hC.lt
 have HC:=Lib.hid hC
 obtain ⟨h0,h1,h2,h3⟩:=hC
 clear h2
 obtain ⟨b,o,x,rfl,hb,hl,hwf,x0,x1,x2,x3,x4,x5⟩:=Tkn_at hs (k:=0) (by simp)
 obtain rfl:t = x:=by simpa using hl
 have HS:=Lib.hid hs
 rw [List.length_cons] at h0 hc
 simp only [Nat.zero_mul,Nat.add_zero] at x0 x1 x2 x3 x4 x5
 have hbr:¬ b = R:=by omega
 have hbl:b < w.heap.size:=by omega
 have n0:¬ w.heap.size = R:=by omega
 have n1:¬ w.heap.size + 1 = R:=by omega
 have n2:¬ R = w.heap.size:=by omega
 have n3:¬ R = w.heap.size + 1:=by omega
 clear hs hl hb
 go_enter Tryz.func41,Tryz.ntmps41
 go_wp2_with fail
 all_goals
  have hcm:r.length ≤ c - 1:=by omega
 ·have hr:r = []:=List.eq_nil_of_length_eq_zero (by omega)
  have hn:=rds_next (T0:=T0) HC.out (A':=some ⟨b,o,none⟩) (r:=r) (c':=0) (by rw [hr];exact Sl.nil) (by omega)
  exact bodyPost_ret (v:=.agg #[.int .i64 t.kind,.int .i64 t.at_,.string t.s,.int .i64 t.v.k,.int .i64 t.v.n,.string t.v.s]) (by first | (simp [results,Tryz.results41,go_sem];done) | (simp [results,Tryz.results41,go_sem, *];done)) rfl ⟨rfl,hn.keep bel,bes⟩
 ·have hs2:=HS.out.drop' (k:=1)
  rw [List.length_cons,Nat.add_sub_cancel,List.drop_one,List.tail_cons,Nat.one_mul] at hs2
  have hn:=rds_next HC.out (A':=some ⟨b,o + 6,none⟩) (r:=r) (c':=c - 1) hs2 hcm
  exact bodyPost_ret (v:=.agg #[.int .i64 t.kind,.int .i64 t.at_,.string t.s,.int .i64 t.v.k,.int .i64 t.v.n,.string t.v.s]) (by first | (simp [results,Tryz.results41,go_sem];done) | (simp [results,Tryz.results41,go_sem, *];done)) rfl ⟨rfl,hn.keep bel,bes⟩
set_option maxHeartbeats 1000000 in
theorem reader_want (T0 R:Nat) (ts:List Tkn) (en:Int) (g:ByteArray) (w:World) (h:RdS T0 w R ts en) (hg:isTk g ts = true) :
  Calls Tryz.prog 126 #[.pointer (some ⟨R,0,none⟩),.string g] w fun e w' => e = .returned (.tuple #[]) ∧ RdS T0 w' R ts.tail en ∧ Bes R w w':=by
 have h1:=fun w h => reader_is T0 R ts en g w h
 rw [hg] at h1
 obtain ⟨t,r,rfl,_⟩:=isTk_cons hg
 have h2:=fun w h => reader_take T0 R t r en w h
 have HH:=Lib.hid (And.intro h (And.intro h1 h2))
 clear h h1 h2 hg
 go_enter Tryz.func126,Tryz.ntmps126
 go_wp2_with (first
  | (go_at_call 87;refine (HH.out.2.1 _ HH.out.1).mono ?_;rintro e w1 ⟨rfl,rfl⟩)
  | (go_at_call 41;refine (HH.out.2.2 _ HH.out.1).mono ?_;rintro e w1 ⟨rfl,hs1,hb1⟩))
 go_end0
 exact ⟨rfl,hs1,hb1⟩
set_option maxHeartbeats 1000000 in
theorem reader_want0 (T0 R:Nat) (ts:List Tkn) (en:Int) (g:ByteArray) (w:World) (h:RdS T0 w R ts en) (hg:isTk g ts = false) :
  Calls Tryz.prog 126 #[.pointer (some ⟨R,0,none⟩),.string g] w fun e w' => e = lostE en ts ∧ w' = w:=by
 have h1:=fun w h => reader_is T0 R ts en g w h
 rw [hg] at h1
 have h2:=fun w h => reader_fail T0 R ts en w h
 unfold lostE at h2 ⊢
 have HH:=Lib.hid (And.intro h (And.intro h1 h2))
 clear h h1 h2 hg
 go_enter Tryz.func126,Tryz.ntmps126
 go_wp2_with (first
  | (go_at_call 87;refine (HH.out.2.1 _ HH.out.1).mono ?_;rintro e w1 ⟨rfl,rfl⟩)
  | (go_at_call 18;refine (HH.out.2.2 _ HH.out.1).mono ?_;rintro e w1 ⟨rfl,rfl⟩))
 exact ⟨rfl,rfl,rfl⟩
end Go.Proofs.YtldbpmlgbbomcaaGreatDoor
