/- Texts merged: Nam1 Nam2 NIt Nam3. -/
import Derived.Test.YtldbpmlgbbomcaaGreatDoorBkw
import Derived.Test.YtldbpmlgbbomcaaGreatDoorPrt3
import Derived.Test.YtldbpmlgbbomcaaGreatDoorNamP
import Derived.Laws.EntriesVeiled
import Derived.Test.YtldbpmlgbbomcaaGreatDoorIterL
import Derived.Test.YtldbpmlgbbomcaaGreatDoorTypes
import Derived.Sort.KeysCollected
/- names.refs: the iterator over the names that a formula asks for: a closure that calls itself and hands its names to the round. -/
namespace Go.Proofs.YtldbpmlgbbomcaaGreatDoor
open Go.RowKit Go.Shelf Go.Maps

attribute [local go_sem] Oper.semAt_some

theorem room_none {F:Fence} (hd:F.depth = none) (k:Nat):F.room k:=fun d h => by rw [hd] at h;cases h
theorem round_any {F:Fence} (hd:F.depth = none) {m m':Nat} {P:Program} {l:Nat} {f:FuncId} {tmps:Array Value} {assign body:Code} {w:World} {R:Ending → World → Prop}
  (h:RoundIn F m P l f tmps assign body w R):RoundIn F m' P l f tmps assign body w R:=⟨h.1,fun c cs _ => h.2 c cs (room_none hd _)⟩
theorem yield_any {F:Fence} (hd:F.depth = none) {m:Nat} (m':Nat) {P:Program} {l:Nat} {args:Array Value} {W:World} {R:Ending → World → Prop} (h:YieldAt F m P l args W R):YieldAt F m' P l args W R:=by
 obtain ⟨fn,tmps,assign,body,hy,hR⟩:=h
 exact ⟨fn,tmps,assign,body,hy,round_any hd hR⟩
theorem calls_any {F:Fence} (hd:F.depth = none) {m:Nat} (m':Nat) {P:Program} {f:FuncId} {args:Array Value} {W:World} {R:Ending → World → Prop} (h:CallsIn F m P f args W R):CallsIn F m' P f args W R:=by
 exact ⟨h.1,fun cs _ => h.2 cs (room_none hd _)⟩

def Kr (n₀ rb:Nat) (A B:World):Prop:=A.heap.size ≤ B.heap.size ∧ (∀ k,k < n₀ → B.heap[k]? = A.heap[k]?) ∧ ∀ (k:Nat) (o:Obj),k ≠ rb → A.heap[k]? = some o → o.isCells = true → B.heap[k]? = some o
theorem Kr.refl (n₀ rb:Nat) (A:World):Kr n₀ rb A A:=⟨Nat.le_refl _,fun _ _ => rfl,fun _ _ _ h _ => h⟩
theorem Kr.trans {n₀ rb:Nat} {A B C:World} (h:Kr n₀ rb A B) (k:Kr n₀ rb B C):Kr n₀ rb A C :=
 ⟨Nat.le_trans h.1 k.1,fun i hi => (k.2.1 i hi).trans (h.2.1 i hi),fun i o hi ho hc => k.2.2 i o hi (h.2.2 i o hi ho hc) hc⟩
theorem Kr.alloc {n₀ rb:Nat} {A B:World} (h:Kr n₀ rb A B) (o:Obj) (hn:n₀ ≤ A.heap.size):Kr n₀ rb A (B.alloc o) :=
 ⟨by have:=h.1;simp;omega,fun i hi => (Below.heap_alloc B o i (by have:=h.1;omega)).trans (h.2.1 i hi),fun i u hi hu hc => (Below.heap_alloc B o i (Array.getElem?_eq_some_iff.1 (h.2.2 i u hi hu hc)).1).trans (h.2.2 i u hi hu hc)⟩
theorem Kr.cells {n₀ rb:Nat} {A B:World} (h:Kr n₀ rb A B) {k:Nat} {cs:Array Value} {t:TypeId} {z:Nat × Nat} (hk:k ≠ rb) (ha:A.heap[k]? = some (.cells cs t z)):B.heap[k]? = some (.cells cs t z):=h.2.2 k _ hk ha rfl
theorem Kr.boxed {n₀ rb:Nat} {A B:World} (h:Kr n₀ rb A B) {k:Nat} {v:Value} {t:TypeId} (hk:k ≠ rb) (ha:Boxed A k t v):Boxed B k t v:=h.2.2 k _ hk ha rfl

abbrev encN (s:{ s:ByteArray // inS s }):Array Value:=#[.string s.1]

set_option maxRecDepth 100000 in
set_option maxHeartbeats 4000000 in
theorem refs_walk (F:Fence) (hd:F.depth = none) (h35:F.fn 186) (hro:F.round = none) (l n₀ rb N Yb Wb:Nat) (J Jx:List ByteArray → World → Prop) (n₁:Nat) (hab:AbidesFrom n₁ J) (hrb:rb < n₁) (hn1:n₀ ≤ n₁) (hYr:Yb ≠ rb) (hWr:Wb ≠ rb)
  (hY:∀ m pre (s:ByteArray) W,inS s → J pre W → pre.length < N → YieldAt F m Tryz.prog l #[.string s] W fun e W' =>
   (e = .returned (.bool true) ∧ J (pre ++ [s]) W' ∧ Kr n₀ rb W W') ∨ (e = .returned (.bool false) ∧ Jx (pre ++ [s]) W')) (M:Nat) :
  ∀ (x:Exp) (A:Option Addr) (c n:Nat) (pre:List ByteArray) (W:World),x.nodes ≤ M → n₁ ≤ W.heap.size →
   XRep W (fun b => b < n₀) [.int .i64 x.op,.int .i64 x.v.k,.int .i64 x.v.n,.string x.v.s,.string x.name,.slice A x.args.length c] x →
   Boxed W Yb 31 (.func (.yield l) #[] #[]) → Boxed W Wb 73 (.func (.func 186) #[] #[.pointer (some ⟨Yb,0,none⟩),.pointer (some ⟨Wb,0,none⟩)]) →
   J pre W → pre.length + (askN x).length ≤ N →
   CallsIn F n Tryz.prog 186 #[.agg #[.int .i64 x.op,.int .i64 x.v.k,.int .i64 x.v.n,.string x.v.s,.string x.name,.slice A x.args.length c],.pointer (some ⟨Yb,0,none⟩),.pointer (some ⟨Wb,0,none⟩)] W fun e W' =>
    (e = .returned (.bool true) ∧ J (pre ++ askN x) W' ∧ Kr n₀ rb W W') ∨ (e = .returned (.bool false) ∧ ∃ q,q <+: askN x ∧ Jx (pre ++ q) W'):=by
 induction M with
 | zero =>
  intro x A c n pre W hM
  obtain ⟨op,v,nm,args⟩:=x
  simp [Exp.nodes] at hM
 | succ M ih =>
  intro x A c n pre W hM hsz hx bY bW hJ hN
  have HI:=Lib.hid ih
  clear ih
  obtain ⟨A0,c0,e0,i1,i2,i3,i4,i5,hsl⟩:=hx.open_
  simp only [List.cons.injEq,Value.slice.injEq,and_true,true_and] at e0
  obtain ⟨rfl,rfl⟩:=e0
  have i4':inS x.name:=i3
  have hch:∀ (i:Nat) (a:Exp),x.args[i]? = some a → a.nodes ≤ M:=by
   obtain ⟨op,v,nm,args⟩:=x
   intro i a h
   have:=nodes_at args i a h
   simp only [Exp.nodes] at hM
   omega
  have hask:=askN_eq x
  have hdd:∀ k:Nat,(F.depth.isSome = true → 1 ≤ k):=fun k h => by rw [hd] at h;cases h
  have HH:=Lib.hid (And.intro hsl hch)
  have hlen:x.args.length ≤ 1759218604416:=by unfold inB at i4;omega
  have hWs:W.heap.size ≠ rb:=by omega
  generalize hcs:(#[.int .i64 x.op,.int .i64 x.v.k,.int .i64 x.v.n,.string x.v.s,.string x.name,.slice A x.args.length c]:Array Value) = cs
  have hbx:(W.alloc (.cells cs 26)).heap[W.heap.size]? = some (.cells cs 26 (0,0)):=World.alloc_heap_new W _
  have hJ1:J pre (W.alloc (.cells cs 26)):=hab pre W _ none hJ (World.grownBy_alloc W _ none) (fun r e => by cases e)
  subst hcs
  -- the loop over the arguments,from whatever world in which it stands
  have HB:=Lib.hid (And.intro hbx (And.intro hJ1 (And.intro bY bW)))
  clear hsl hch hx hM i1 i2 i3 i5 hbx hJ1 hJ
  obtain ⟨own,hown⟩:∃ own,own = if x.op = 2 then [x.name] else []:=⟨_,rfl⟩
  rw [← hown] at hask
  have hcut:∀ (k:Nat) (a:Exp),x.args[k]? = some a → ∃ r,askN x = own ++ askNL (x.args.take k) ++ askN a ++ r:=by
   intro k a ha
   obtain ⟨hk,he⟩:=List.getElem?_eq_some_iff.1 ha
   refine ⟨askNL (x.args.drop (k + 1)),?_⟩
   rw [hask]
   conv => lhs;rw [← List.take_append_drop k x.args,List.drop_eq_getElem_cons hk,he]
   rw [askNL_app]
   simp [askNL]
  have HC:=Lib.hid hcut
  have HA:=Lib.hid hask
  clear hask hcut
  have h5c:∀ W',Kr n₀ rb (W.alloc (.cells #[.int .i64 x.op,.int .i64 x.v.k,.int .i64 x.v.n,.string x.v.s,.string x.name,.slice A x.args.length c] 26)) W' → W'.cell? ⟨W.heap.size,5,none⟩ = some (.slice A x.args.length c) ∧ W.heap.size + 1 ≤ W'.heap.size ∧ Boxed W' Wb 73 (.func (.func 186) #[] #[.pointer (some ⟨Yb,0,none⟩),.pointer (some ⟨Wb,0,none⟩)]) ∧ Boxed W' Yb 31 (.func (.yield l) #[] #[]):=fun W' h => by
   have h1:=h.cells hWs HB.out.1
   exact ⟨by simp [World.cell?,h1],by simpa using h.1,h.boxed hWr (HB.out.2.2.2.alloc _),h.boxed hYr (HB.out.2.2.1.alloc _)⟩
  have H5:=Lib.hid h5c
  clear h5c
  cases ho:(x.op == 2)
  ·have h0:own = []:=by rw [hown,if_neg (by simpa using ho)]
   have HJ:=Lib.hid (And.intro (show J (pre ++ own) _ by rw [h0,List.append_nil];exact HB.out.2.1) (Kr.refl n₀ rb (W.alloc (.cells #[.int .i64 x.op,.int .i64 x.v.k,.int .i64 x.v.n,.string x.v.s,.string x.name,.slice A x.args.length c] 26))))
   clear hown h0
   refine callsIn_of_wp Tryz.func186 rfl h35 ?_ hro
   simp only [Tryz.ntmps186,List.size_toArray,List.length_cons,List.length_nil,Nat.reduceAdd,Nat.reduceSub,Array.replicate_succ,Array.replicate_zero,List.push_toArray,List.append_toArray,List.nil_append,List.cons_append]
   gi_wp2
   refine ⟨fun _ h => (by cases h),?_⟩
   gi_wp2
   gi_loopw [20] (fun i wr => ∃ k:Nat,k ≤ x.args.length ∧ i = .int .i64 k ∧ J (pre ++ own ++ askNL (x.args.take k)) wr ∧ Kr n₀ rb (W.alloc (.cells #[.int .i64 x.op,.int .i64 x.v.k,.int .i64 x.v.n,.string x.v.s,.string x.name,.slice A x.args.length c] 26)) wr) (fun i _ => x.args.length - (intOf i).toNat)
   case atStart => exact ⟨0,by omega,rfl,by simpa [askNL] using HJ.out.1,HJ.out.2⟩
   case round =>
    obtain ⟨k,hk,rfl,hJk,hkr⟩:=hrel
    obtain ⟨_,hsz2,bW2,bY2⟩:=H5.out wr hkr
    have HK:=Lib.hid (And.intro hJk (And.intro hkr (And.intro bW2 bY2)))
    clear hJk hkr bY2
    by_cases hlt:k < x.args.length
    ·obtain ⟨b,o,a,X,C,hAe,hbl,hl,hxa,x0,x1,x2,x3,x4,x5⟩:=Exp_at (Sl.keepN keeps_Exp (w':=wr) (S':=fun b => b < n₀) HH.out.1 (fun b hb => ⟨hb,(HK.out.2.1.2.1 b hb).trans (Below.heap_alloc W _ b (by omega))⟩)) hlt
     subst hAe
     have hbl':b < wr.heap.size:=by have h1:b < n₀:=hbl;omega
     have lW:=bW2.lt
     have cW:=bW2.cell
     obtain ⟨r,hr⟩:=HC.out k a hl
     have hNa:(pre ++ own ++ askNL (x.args.take k)).length + (askN a).length ≤ N:=by
      have h1:=congrArg List.length hr
      simp only [List.length_append] at h1 ⊢
      omega
     have hJa:J (pre ++ own ++ askNL (x.args.take k)) (wr.alloc (.cells #[.int .i64 a.op,.int .i64 a.v.k,.int .i64 a.v.n,.string a.v.s,.string a.name,.slice X a.args.length C] 26)):=hab _ wr _ none HK.out.1 (World.grownBy_alloc wr _ none) (fun r e => by cases e)
     have hxa':XRep (wr.alloc (.cells #[.int .i64 a.op,.int .i64 a.v.k,.int .i64 a.v.n,.string a.v.s,.string a.name,.slice X a.args.length C] 26)) (fun b => b < n₀) [.int .i64 a.op,.int .i64 a.v.k,.int .i64 a.v.n,.string a.v.s,.string a.name,.slice X a.args.length C] a:=XRep.keep hxa (fun b hb => ⟨hb,Below.heap_alloc wr _ b (by omega)⟩)
     have hcall:=HI.out a X C (n - 1) _ _ (HH.out.2 k a hl) (by simp;omega) hxa' (HK.out.2.2.2.alloc _) (HK.out.2.2.1.alloc _) hJa hNa
     have HR:=Lib.hid (And.intro hr hl)
     clear hxa hxa' hJa hl hr bW2 hbl
     gi_wp2_with ((try refine ⟨hdd _,?_⟩);gi_at_call 186;refine hcall.mono ?_;clear hcall;rintro e W3 (⟨rfl,hJ3,hk3⟩ | ⟨rfl,q,hq,hx3⟩))
     ·go_roundw
      case rel =>
       refine ⟨k + 1,by omega,by go_num,?_,HK.out.2.1.trans ((Kr.refl n₀ rb wr).alloc _ (by omega) |>.trans hk3)⟩
       rw [List.take_add_one,HR.out.2]
       simpa [askNL_app,askNL,List.append_assoc] using hJ3
      case measure => simp [intOf];omega
     ·go_ret
      refine .inr ⟨rfl,own ++ askNL (x.args.take k) ++ q,?_,by simpa [List.append_assoc] using hx3⟩
      obtain ⟨r2,hr2⟩:=hq
      exact ⟨r2 ++ r,by rw [HR.out.1,← hr2];simp [List.append_assoc]⟩
    ·have hke:k = x.args.length:=by omega
     subst hke
     gi_wp2
     go_ret
     refine .inl ⟨rfl,?_,?_⟩
     ·have h1:=HK.out.1
      rw [List.take_of_length_le (Nat.le_refl _)] at h1
      rw [HA.out]
      simpa [List.append_assoc] using h1
     ·exact ((Kr.refl n₀ rb W).alloc _ (by omega)).trans HK.out.2.1
  ·have h0:own = [x.name]:=by rw [hown,if_pos (by simpa using ho)]
   obtain ⟨fn,tmps,assign,body,hy,hR⟩:=hY (n - 1) pre x.name _ i4' HB.out.2.1 (by rw [HA.out,h0] at hN;simp at hN;omega)
   have cY:=bY.cell
   have lY:=bY.lt
   refine callsIn_of_wp Tryz.func186 rfl h35 ?_ hro
   simp only [Tryz.ntmps186,List.size_toArray,List.length_cons,List.length_nil,Nat.reduceAdd,Nat.reduceSub,Array.replicate_succ,Array.replicate_zero,List.push_toArray,List.append_toArray,List.nil_append,List.cons_append]
   gi_wp2_with ((try refine ⟨hdd _,?_⟩);refine hR.mono ?_;clear hR;rintro e W2 (⟨rfl,hJ2,hk2⟩ | ⟨rfl,hx2⟩);(first | (obtain ⟨c5,hs5,_⟩:=H5.out W2 hk2) | skip))
   rotate_left
   ·go_ret
    exact .inr ⟨rfl,[x.name],⟨askNL x.args,by rw [HA.out,h0]⟩,hx2⟩
   have HJ:=Lib.hid (And.intro (show J (pre ++ own) W2 by rw [h0];exact hJ2) hk2)
   clear hown h0 hJ2 hk2
   gi_loopw [20] (fun i wr => ∃ k:Nat,k ≤ x.args.length ∧ i = .int .i64 k ∧ J (pre ++ own ++ askNL (x.args.take k)) wr ∧ Kr n₀ rb (W.alloc (.cells #[.int .i64 x.op,.int .i64 x.v.k,.int .i64 x.v.n,.string x.v.s,.string x.name,.slice A x.args.length c] 26)) wr) (fun i _ => x.args.length - (intOf i).toNat)
   case atStart => exact ⟨0,by omega,rfl,by simpa [askNL] using HJ.out.1,HJ.out.2⟩
   case round =>
    obtain ⟨k,hk,rfl,hJk,hkr⟩:=hrel
    obtain ⟨_,hsz2,bW2,bY2⟩:=H5.out wr hkr
    have HK:=Lib.hid (And.intro hJk (And.intro hkr (And.intro bW2 bY2)))
    clear hJk hkr bY2
    by_cases hlt:k < x.args.length
    ·obtain ⟨b,o,a,X,C,hAe,hbl,hl,hxa,x0,x1,x2,x3,x4,x5⟩:=Exp_at (Sl.keepN keeps_Exp (w':=wr) (S':=fun b => b < n₀) HH.out.1 (fun b hb => ⟨hb,(HK.out.2.1.2.1 b hb).trans (Below.heap_alloc W _ b (by omega))⟩)) hlt
     subst hAe
     have hbl':b < wr.heap.size:=by have h1:b < n₀:=hbl;omega
     have lW:=bW2.lt
     have cW:=bW2.cell
     obtain ⟨r,hr⟩:=HC.out k a hl
     have hNa:(pre ++ own ++ askNL (x.args.take k)).length + (askN a).length ≤ N:=by
      have h1:=congrArg List.length hr
      simp only [List.length_append] at h1 ⊢
      omega
     have hJa:J (pre ++ own ++ askNL (x.args.take k)) (wr.alloc (.cells #[.int .i64 a.op,.int .i64 a.v.k,.int .i64 a.v.n,.string a.v.s,.string a.name,.slice X a.args.length C] 26)):=hab _ wr _ none HK.out.1 (World.grownBy_alloc wr _ none) (fun r e => by cases e)
     have hxa':XRep (wr.alloc (.cells #[.int .i64 a.op,.int .i64 a.v.k,.int .i64 a.v.n,.string a.v.s,.string a.name,.slice X a.args.length C] 26)) (fun b => b < n₀) [.int .i64 a.op,.int .i64 a.v.k,.int .i64 a.v.n,.string a.v.s,.string a.name,.slice X a.args.length C] a:=XRep.keep hxa (fun b hb => ⟨hb,Below.heap_alloc wr _ b (by omega)⟩)
     have hcall:=HI.out a X C (n - 1) _ _ (HH.out.2 k a hl) (by simp;omega) hxa' (HK.out.2.2.2.alloc _) (HK.out.2.2.1.alloc _) hJa hNa
     have HR:=Lib.hid (And.intro hr hl)
     clear hxa hxa' hJa hl hr bW2 hbl
     gi_wp2_with ((try refine ⟨hdd _,?_⟩);gi_at_call 186;refine hcall.mono ?_;clear hcall;rintro e W3 (⟨rfl,hJ3,hk3⟩ | ⟨rfl,q,hq,hx3⟩))
     ·go_roundw
      case rel =>
       refine ⟨k + 1,by omega,by go_num,?_,HK.out.2.1.trans ((Kr.refl n₀ rb wr).alloc _ (by omega) |>.trans hk3)⟩
       rw [List.take_add_one,HR.out.2]
       simpa [askNL_app,askNL,List.append_assoc] using hJ3
      case measure => simp [intOf];omega
     ·go_ret
      refine .inr ⟨rfl,own ++ askNL (x.args.take k) ++ q,?_,by simpa [List.append_assoc] using hx3⟩
      obtain ⟨r2,hr2⟩:=hq
      exact ⟨r2 ++ r,by rw [HR.out.1,← hr2];simp [List.append_assoc]⟩
    ·have hke:k = x.args.length:=by omega
     subst hke
     gi_wp2
     go_ret
     refine .inl ⟨rfl,?_,?_⟩
     ·have h1:=HK.out.1
      rw [List.take_of_length_le (Nat.le_refl _)] at h1
      rw [HA.out]
      simpa [List.append_assoc] using h1
     ·exact ((Kr.refl n₀ rb W).alloc _ (by omega)).trans HK.out.2.1
end Go.Proofs.YtldbpmlgbbomcaaGreatDoor
/- names.refs as an iterator's contract; names.Has. -/
namespace Go.Proofs.YtldbpmlgbbomcaaGreatDoor
open Go.RowKit Go.Shelf Go.Maps

attribute [local go_sem] Oper.semAt_some

abbrev NmIt:={ s:ByteArray // inS s }
abbrev encNm (s:NmIt):Array Value:=#[.string s.1]
def nmsOf (l:List NmIt):List ByteArray:=l.map (·.1)
theorem nmsOf_snoc (l:List NmIt) (s:NmIt):nmsOf (l ++ [s]) = nmsOf l ++ [s.1]:=by simp [nmsOf]
theorem nmsOf_len (l:List NmIt):(nmsOf l).length = l.length:=by simp [nmsOf]

set_option maxRecDepth 100000 in
set_option maxHeartbeats 2000000 in
theorem refs1_in (F:Fence) (hd:F.depth = none) (n:Nat) (h34:F.fn 185) (h35:F.fn 186) (hro:F.round = none) (l Bx n₀ rb:Nat) (x:Exp) (A:Option Addr) (c:Nat) (J Jx:List NmIt → World → Prop) (W:World)
  (hab:AbidesFrom W.heap.size J) (hrb:rb < W.heap.size) (hn0:n₀ ≤ W.heap.size)
  (hY:∀ pre (s:NmIt) W,J pre W → pre.length < (askN x).length → YieldAt F (n - 1) Tryz.prog l (encNm s) W fun e W' =>
   (e = .returned (.bool true) ∧ J (pre ++ [s]) W' ∧ Kr n₀ rb W W') ∨ (e = .returned (.bool false) ∧ Jx (pre ++ [s]) W'))
  (hBx:W.heap[Bx]? = some (.cells #[.int .i64 x.op,.int .i64 x.v.k,.int .i64 x.v.n,.string x.v.s,.string x.name,.slice A x.args.length c] 26 (0,0)))
  (hx:XRep W (fun b => b < n₀) [.int .i64 x.op,.int .i64 x.v.k,.int .i64 x.v.n,.string x.v.s,.string x.name,.slice A x.args.length c] x) (h0:J [] W) :
  CallsIn F n Tryz.prog 185 #[.func (.yield l) #[] #[],.pointer (some ⟨Bx,0,none⟩)] W fun e W' => (∃ v,e = .returned v) ∧
   ((∃ ys,nmsOf ys = askN x ∧ J ys W') ∨ (∃ pre,nmsOf pre <+: askN x ∧ Jx pre W')):=by
 have hdd:∀ k:Nat,(F.depth.isSome = true → 1 ≤ k):=fun k h => by rw [hd] at h;cases h
 have hbl:Bx < W.heap.size:=(Array.getElem?_eq_some_iff.1 hBx).1
 have c0:W.cell? ⟨Bx,0,none⟩ = some (.int .i64 x.op):=by simp [World.cell?,hBx]
 have c1:W.cell? ⟨Bx,1,none⟩ = some (.int .i64 x.v.k):=by simp [World.cell?,hBx]
 have c2:W.cell? ⟨Bx,2,none⟩ = some (.int .i64 x.v.n):=by simp [World.cell?,hBx]
 have c3:W.cell? ⟨Bx,3,none⟩ = some (.string x.v.s):=by simp [World.cell?,hBx]
 have c4:W.cell? ⟨Bx,4,none⟩ = some (.string x.name):=by simp [World.cell?,hBx]
 have c5:W.cell? ⟨Bx,5,none⟩ = some (.slice A x.args.length c):=by simp [World.cell?,hBx]
 obtain ⟨W2,hW2⟩:∃ W2,W2 = (W.alloc (.cells #[.func (.yield l) #[] #[]] 31)).alloc (.cells #[.func (.func 186) #[] #[.pointer (some ⟨W.heap.size,0,none⟩),.pointer (some ⟨W.heap.size + 1,0,none⟩)]] 73):=⟨_,rfl⟩
 have hs2:W2.heap.size = W.heap.size + 2:=by rw [hW2];simp
 have hblk:∀ b,b < W.heap.size → W2.heap[b]? = W.heap[b]?:=fun b hb => by rw [hW2];exact (Below.heap_alloc _ _ b (by simp;omega)).trans (Below.heap_alloc _ _ b hb)
 have bY:Boxed W2 W.heap.size 31 (.func (.yield l) #[] #[]):=by rw [hW2];exact (Boxed.new W _ _).alloc _
 have bW:Boxed W2 (W.heap.size + 1) 73 (.func (.func 186) #[] #[.pointer (some ⟨W.heap.size,0,none⟩),.pointer (some ⟨W.heap.size + 1,0,none⟩)]):=by
  rw [hW2];have:=Boxed.new (W.alloc (.cells #[.func (.yield l) #[] #[]] 31)) 73 (.func (.func 186) #[] #[.pointer (some ⟨W.heap.size,0,none⟩),.pointer (some ⟨W.heap.size + 1,0,none⟩)])
  rwa [World.size_alloc] at this
 have hJ2:J [] W2:=by rw [hW2];exact hab _ _ _ none (hab _ _ _ none h0 (World.grownBy_alloc W _ none) (fun r e => by cases e)) (World.grownBy_alloc _ _ none) (fun r e => by cases e)
 have hx2:XRep W2 (fun b => b < n₀) [.int .i64 x.op,.int .i64 x.v.k,.int .i64 x.v.n,.string x.v.s,.string x.name,.slice A x.args.length c] x:=XRep.keep hx (fun b hb => ⟨hb,hblk b (by omega)⟩)
 have hcall:=refs_walk F hd h35 hro l n₀ rb (askN x).length W.heap.size (W.heap.size + 1) (fun l W => ∃ ys,nmsOf ys = l ∧ J ys W) (fun l W => ∃ ys,nmsOf ys = l ∧ Jx ys W) W.heap.size
  (fun s A B row ⟨ys,e,hs⟩ hg hr => ⟨ys,e,hab ys A B row hs hg hr⟩) hrb hn0 (by omega) (by omega)
  (fun m pre s W1 hs ⟨ys,e,hj⟩ hl => yield_any hd m (YieldAt.mono (hY ys ⟨s,hs⟩ W1 hj (by rw [← nmsOf_len,e];exact hl)) fun e1 W3 h => h.elim
   (fun ⟨h1,h2,h3⟩ => .inl ⟨h1,⟨_,by rw [nmsOf_snoc,e],h2⟩,h3⟩) (fun ⟨h1,h2⟩ => .inr ⟨h1,⟨_,by rw [nmsOf_snoc,e],h2⟩⟩)))
  x.nodes x A c (n - 1) [] W2 (Nat.le_refl _) (by omega) hx2 bY bW ⟨[],rfl,hJ2⟩ (by simp)
 have HC:=Lib.hid hcall
 have HW:=Lib.hid hW2
 clear hcall hW2 hBx hx h0 hab hJ2 hx2 bY bW hY
 refine callsIn_of_wp Tryz.func185 rfl h34 ?_ hro
 simp only [Tryz.ntmps185,List.size_toArray,List.length_cons,List.length_nil,Nat.reduceAdd,Nat.reduceSub,Array.replicate_succ,Array.replicate_zero,List.push_toArray,List.append_toArray,List.nil_append,List.cons_append]
 gi_wp2_with ((try refine ⟨hdd _,?_⟩);gi_at_call 186;rw [← HW.out];refine HC.out.mono ?_;rintro e W3 (⟨rfl,⟨ys,hys,hJ3⟩,_⟩ | ⟨rfl,q,hq,⟨ys,hys,hx3⟩⟩))
 ·go_end0
  exact ⟨⟨_,rfl⟩,.inl ⟨ys,by simpa using hys,hJ3⟩⟩
 ·go_end0
  exact ⟨⟨_,rfl⟩,.inr ⟨ys,by rw [hys];simpa using hq,hx3⟩⟩

set_option maxHeartbeats 1000000 in
theorem refs_in (F:Fence) (n:Nat) (h14:F.fn 168) (hro:F.round = none) (cs:Array Value) (hcs:cs.size = 6) (w:World) :
  CallsIn F n Tryz.prog 168 #[.agg cs] w fun e w' => e = .returned (.func (.func 185) #[] #[.pointer (some ⟨w.heap.size,0,none⟩)]) ∧ w' = w.alloc (.cells cs 26):=by
 obtain ⟨l⟩:=cs
 match l,hcs with
 | [a,b,c,d,e,f],_ =>
  refine callsIn_of_wp Tryz.func168 rfl h14 ?_ hro
  simp only [Tryz.ntmps168,List.size_toArray,List.length_cons,List.length_nil,Nat.reduceAdd,Nat.reduceSub,Array.replicate_succ,Array.replicate_zero,List.push_toArray,List.append_toArray,List.nil_append,List.cons_append]
  gi_wp2
  go_ret
  exact ⟨rfl,rfl⟩
theorem refs_stops (F:Fence) (hd:F.depth = none) (n:Nat) (h34:F.fn 185) (h35:F.fn 186) (hro:F.round = none) (Bx n₀ rb:Nat) (x:Exp) (A:Option Addr) (c:Nat) (w:World) (hrb:rb < w.heap.size) (hn0:n₀ ≤ w.heap.size)
  (hBx:w.heap[Bx]? = some (.cells #[.int .i64 x.op,.int .i64 x.v.k,.int .i64 x.v.n,.string x.v.s,.string x.name,.slice A x.args.length c] 26 (0,0)))
  (hx:XRep w (fun b => b < n₀) [.int .i64 x.op,.int .i64 x.v.k,.int .i64 x.v.n,.string x.v.s,.string x.name,.slice A x.args.length c] x) :
  SeqStopsK F n Tryz.prog 185 #[.pointer (some ⟨Bx,0,none⟩)] encNm (Kr n₀ rb) (fun ys => nmsOf ys = askN x) (fun pre => nmsOf pre <+: askN x) (askN x).length w:=fun l J Jx W hW hab _ hY h0 =>
 refs1_in F hd n h34 h35 hro l Bx n₀ rb x A c J Jx W hab (Nat.lt_of_lt_of_le hrb hW.size) (Nat.le_trans hn0 hW.size) hY ((hW.block Bx (Array.getElem?_eq_some_iff.1 hBx).1).trans hBx)
  (XRep.keep hx (fun b hb => ⟨hb,hW.block b (by omega)⟩)) h0
theorem Kr.put {n₀ rb:Nat} (W:World) (l:Nat) (o o':Obj) (hl:n₀ ≤ l) (ho:W.heap[l]? = some o) (hc:o.isCells = false):Kr n₀ rb W (W.putObj l o') :=
 ⟨by simp,fun k hk => World.putObj_heap_other (fun e => by omega),fun k u hk hu hcu => (World.putObj_heap_other (fun e => by subst e;rw [ho] at hu;cases hu;rw [hc] at hcu;cases hcu)).trans hu⟩

end Go.Proofs.YtldbpmlgbbomcaaGreatDoor
/- slices.Sorted(maps.Keys(m)) at a map of this program: the shelf's contracts, laid (IterL), as the walk wants them. -/
namespace Go.Proofs.YtldbpmlgbbomcaaGreatDoor
open Go.RowKit Go.Maps Go.Sort Go.Shelf

theorem sorts_at (m:Nat):AnyZ.SortsIn Tryz.prog Tryz.sorted_ren Fence.wide m :=
 ⟨fun blk off cap ss W hH hblk hsz => callsIn_wide.2 (AnyM.slices_Sort_string Tryz.sort blk off cap ss W hH hblk hsz),
  fun p cap W => callsIn_wide.2 (AnyM.slices_Sort_string_none Tryz.sort p cap W)⟩
theorem maps_Keys_at (mb:Option Nat) (W:World):CallsIn Fence.wide 5 Tryz.prog 170 #[.map mb] W fun e w' => e = .returned (.func (.func 189) #[] #[.pointer (some ⟨W.heap.size,0,none⟩)]) ∧ w' = W.alloc (.cells #[.map mb] 197) :=
 AnyZ.keys_in Tryz.keys Fence.wide 5 trivial rfl mb W

set_option maxHeartbeats 1000000 in
theorem slices_Sorted_at {H:Type} (b nn:Nat) (D0:DataW H) (R:Value → Option (DataW H × List MemPlace)) (w:World) (hown:w.ownsMap Tryz.prog 9 R b nn D0) (hmax:Maps.size D0 ≤ maxLen) (hbytes:Maps.size D0 * 16 ≤ 140737488355328) :
  CallsIn Fence.wide 5 Tryz.prog 169 #[.func (.func 189) #[] #[.pointer (some ⟨w.heap.size,0,none⟩)]] (w.alloc (.cells #[.map (some b)] 197)) fun e w' => ∃ (v:Value) (ss:List (List UInt8)),e = .returned v ∧ ss.Perm (strKeys D0) ∧
   w'.ownsRow (w.alloc (.cells #[.map (some b)] 197)).heap.size 9 1 v ss.length ((ss.mergeSort (fun x y => decide (x ≤ y))).map encStr) ∧ (v = .slice none 0 0 ↔ ss = []) ∧ Below (w.alloc (.cells #[.map (some b)] 197)).heap.size (w.alloc (.cells #[.map (some b)] 197)) w':=by
 have hbl:=hown.lt
 have hseq:SeqGives Fence.wide 2 Tryz.prog 189 #[.pointer (some ⟨w.heap.size,0,none⟩)] encStr (fun ss => ss.Perm (strKeys D0)) (Maps.size D0) (w.alloc (.cells #[.map (some b)] 197)) :=
  AnyZ.keys_gives (ρ:=Tryz.keys_ren) { Tryz.keys with } Fence.wide _ trivial rfl (by omega) w.heap.size b nn D0 _ (by simp) (by simp) (by
   obtain ⟨es,clock,hb,Ft,hs,hD⟩:=hown
   exact ⟨es,clock,(Below.heap_alloc _ _ b hbl).trans hb,Ft,hs,hD⟩)
 exact AnyZ.sorted_in Tryz.sorted Fence.wide 5 trivial trivial trivial trivial rfl (by omega) (sorts_at _) (enters_of Tryz.func188 (by kernel_rfl) rfl) 189 #[.pointer (some ⟨w.heap.size,0,none⟩)] trivial (enters_of Tryz.func189 (by kernel_rfl) rfl) _ _ hmax hbytes _ hseq

def nameSet (l:List ByteArray):Lit → Option Value:=l.foldl (fun f s => putAt f (.string s.data.toList) (.bool true)) (fun _ => none)
theorem nameSet_snoc (l:List ByteArray) (s:ByteArray):nameSet (l ++ [s]) = putAt (nameSet l) (.string s.data.toList) (.bool true):=by simp [nameSet]
theorem isKeyLit_str (s:List UInt8):WideAt.IsKeyLit (.string s):=by simp [WideAt.IsKeyLit]
theorem nameSet_some (l:List ByteArray) (s:List UInt8):(nameSet l (.string s)).isSome = true ↔ ∃ t ∈ l,t.data.toList = s:=by
 suffices h:∀ (m:List ByteArray) (f:Lit → Option Value),(m.foldl (fun f s => putAt f (.string s.data.toList) (.bool true)) f (.string s)).isSome = true ↔ (f (.string s)).isSome = true ∨ ∃ t ∈ m,t.data.toList = s by
  have:=h l (fun _ => none)
  simpa [nameSet] using this
 intro m
 induction m with
 | nil => simp
 | cons a m ih =>
  intro f
  rw [List.foldl_cons,ih]
  by_cases he:a.data.toList = s
  ·subst he
   rw [putAt_same (isKeyLit_str _)]
   simp
  ·rw [putAt_other (by intro e;cases e;exact he rfl)]
   simp [he]
theorem flat_one {α:Type} (f:α → Value):∀ l:List α,l.flatMap (fun a => [f a]) = l.map f
 | [] => rfl
 | a :: l => by rw [List.flatMap_cons,flat_one f l];rfl
theorem sorted_rise (l:List ByteArray) (D:DataW Value) (k:TypeId) {w:World} {b n:Nat} (ho:w.ownsMap Tryz.prog k rdV b n D) (hk:Tryz.prog.underlying k = some .string) (hh:∀ kl,Maps.has D kl = (nameSet l kl).isSome) (ss:List (List UInt8)) (hp:ss.Perm (strKeys D)) :
  (ss.mergeSort (fun x y => decide (x ≤ y))).map encStr = (rise l).flatMap strCs ∧ ss.length = (rise l).length:=by
 have K:Keyed Tryz.prog k:=Maps.string_keyed hk
 obtain ⟨es,rfl,hpw,hkl⟩:=ho.entries K
 have hstr:∀ p ∈ es,∃ x,p.1 = .string x:=by
  intro p hp
  obtain ⟨es',hD',hko⟩:=ho.keysOf
  obtain rfl:es = es':=by simpa using hD'
  obtain ⟨v,hv⟩:=hko p hp
  obtain ⟨x,_,hx,_⟩:=Maps.keyOf_str hk hv
  exact ⟨x,hx⟩
 have hnd:ss.Nodup:=by
  rw [hp.nodup_iff]
  show (es.map fun p => strOf p.1).Nodup
  rw [List.Nodup,List.pairwise_map]
  refine hpw.imp_of_mem fun {a c} ha hc hne he => hne ?_
  obtain ⟨x,hx⟩:=hstr a ha
  obtain ⟨y,hy⟩:=hstr c hc
  rw [hx,hy] at he ⊢
  exact congrArg Lit.string he
 have hmem:∀ x:ByteArray,x.data.toList ∈ ss ↔ x ∈ l:=by
  intro x
  rw [hp.mem_iff]
  have h1:=hh (.string x.data.toList)
  have h2:=nameSet_some l x.data.toList
  rw [← h1] at h2
  have h3:Maps.has (.map es) (.string x.data.toList) = true ↔ x.data.toList ∈ strKeys (.map es):=by
   simp only [Maps.has,List.any_eq_true,strKeys,List.mem_map]
   constructor
   ·rintro ⟨p,hp,he⟩
    obtain ⟨y,hy⟩:=hstr p hp
    rw [hy] at he
    refine ⟨p,hp,?_⟩
    rw [hy]
    simpa [Lit.sameKey,strOf] using he
   ·rintro ⟨p,hp,he⟩
    obtain ⟨y,hy⟩:=hstr p hp
    refine ⟨p,hp,?_⟩
    rw [hy] at he ⊢
    simpa [Lit.sameKey,strOf] using he
  rw [← h3,h2]
  constructor
  ·rintro ⟨t,ht,he⟩
   have:t = x:=by cases t;cases x;simpa using Array.toList_inj.1 he
   rw [← this];exact ht
  ·intro h;exact ⟨x,h,rfl⟩
 have hsp:=List.mergeSort_perm ss (fun x y => decide (x ≤ y))
 have hsort:(ss.mergeSort (fun x y => decide (x ≤ y))).Pairwise (· ≤ ·):=by
  have:=List.pairwise_mergeSort (le:=fun x y:List UInt8 => decide (x ≤ y)) (by intro a b c h1 h2;simp only [decide_eq_true_eq] at *;exact List.le_trans h1 h2) (by intro a b;simp only [Bool.or_eq_true,decide_eq_true_eq];exact List.le_total a b) ss
  simpa using this
 have hu:=rise_unique l (ss.mergeSort (fun x y => decide (x ≤ y))) hsort (hsp.nodup_iff.2 hnd) (fun x => by rw [hsp.mem_iff];exact hmem x)
 constructor
 ·rw [← hu,List.flatMap_map]
  exact (flat_one _ _).symm
 ·rw [← hu,List.length_map,hsp.length_eq]
end Go.Proofs.YtldbpmlgbbomcaaGreatDoor
/- names.Of: each name once, rising. -/
namespace Go.Proofs.YtldbpmlgbbomcaaGreatDoor
open Go.RowKit Go.Shelf Go.Maps Go.Sort

attribute [local go_sem] Oper.semAt_some

def namesR (x:Exp):List ByteArray × Int:=if exprErr x = 0 then (rise (askN x),0) else ([],exprErr x)
mutual
theorem askN_nodes:∀ x:Exp,(askN x).length ≤ x.nodes
 | .mk op v nm args => by
  have:=askNL_nodes args
  simp only [askN,Exp.nodes,List.length_append]
  split <;> simp <;> omega
theorem askNL_nodes:∀ l:List Exp,(askNL l).length ≤ nodesL l
 | [] => by simp [askNL]
 | a :: l => by
  have:=askN_nodes a
  have:=askNL_nodes l
  simp only [askNL,nodesL,List.length_append]
  omega
end
set_option maxRecDepth 100000 in
set_option maxHeartbeats 4000000 in
theorem names_Of (x:Exp) (A:Option Addr) (c:Nat) (w:World) (hN:x.nodes ≤ 1048576)
  (hx:XRep w (old w) [.int .i64 x.op,.int .i64 x.v.k,.int .i64 x.v.n,.string x.v.s,.string x.name,.slice A x.args.length c] x) :
  Calls Tryz.prog 136 #[.agg #[.int .i64 x.op,.int .i64 x.v.k,.int .i64 x.v.n,.string x.v.s,.string x.name,.slice A x.args.length c]] w (OwnRowC strCs 9 1 w (namesR x).1 (namesR x).2):=by
 have hck:=fun w h => expr_Check x A c w h
 have HX:=Lib.hid hx
 by_cases he:exprErr x = 0
 ·rw [he] at hck
  have hr:namesR x = (rise (askN x),0):=by rw [namesR,if_pos he]
  rw [hr]
  have hal:=askN_nodes x
  have hmm:=@run_makeMap Tryz.prog
  clear hx he hr
  refine (callsIn_wide (n:=6)).1 ?_
  refine callsIn_of_wp_marks Tryz.func136 rfl trivial ?_ rfl
  simp only [Tryz.ntmps136,List.size_toArray,List.length_cons,List.length_nil,Nat.reduceAdd,Nat.reduceSub,Array.replicate_succ,Array.replicate_zero,List.push_toArray,List.append_toArray,List.nil_append,List.cons_append]
  gi_wp2_with (first
   | (refine ⟨trivial,?_⟩;gi_at_call 19;refine (callsIn_wide.2 (hck _ (HX.out.keep (old_keep bel)))).mono ?_;rintro e w1 ⟨rfl,hb1⟩;have q0:w1.cell? ⟨w.heap.size,0,none⟩ = some (.int .i64 x.op):=(hb1.cell (p:=⟨w.heap.size,0,none⟩) (by simp)).trans (by go_simp);have q1:w1.cell? ⟨w.heap.size,1,none⟩ = some (.int .i64 x.v.k):=(hb1.cell (p:=⟨w.heap.size,1,none⟩) (by simp)).trans (by go_simp);have q2:w1.cell? ⟨w.heap.size,2,none⟩ = some (.int .i64 x.v.n):=(hb1.cell (p:=⟨w.heap.size,2,none⟩) (by simp)).trans (by go_simp);have q3:w1.cell? ⟨w.heap.size,3,none⟩ = some (.string x.v.s):=(hb1.cell (p:=⟨w.heap.size,3,none⟩) (by simp)).trans (by go_simp);have q4:w1.cell? ⟨w.heap.size,4,none⟩ = some (.string x.name):=(hb1.cell (p:=⟨w.heap.size,4,none⟩) (by simp)).trans (by go_simp);have q5:w1.cell? ⟨w.heap.size,5,none⟩ = some (.slice A x.args.length c):=(hb1.cell (p:=⟨w.heap.size,5,none⟩) (by simp)).trans (by go_simp);have hs1:w.heap.size < w1.heap.size:=by have:=hb1.size;simp at this;omega)
   | (refine ⟨trivial,?_⟩;gi_at_call 168;refine (refs_in _ _ trivial rfl _ rfl _).mono ?_;rintro e w' ⟨rfl,rfl⟩))
  have hmp0:=MapIs.made w1 Tryz.prog 9
  have bX:=World.alloc_heap_new ((w1.alloc (.map #[] 0)).alloc (.cells #[.map (some w1.heap.size)] 197)) (.cells #[.int .i64 x.op,.int .i64 x.v.k,.int .i64 x.v.n,.string x.v.s,.string x.name,.slice A x.args.length c] 26)
  have bM:=(Boxed.new (w1.alloc (.map #[] 0)) 197 (.map (some w1.heap.size))).alloc (.cells #[.int .i64 x.op,.int .i64 x.v.k,.int .i64 x.v.n,.string x.v.s,.string x.name,.slice A x.args.length c] 26)
  simp only [World.size_alloc] at bX bM
  have hm1:=(hmp0.kept (World.grownBy_alloc _ (.cells #[.map (some w1.heap.size)] 197) none) (by simp)).kept (World.grownBy_alloc _ (.cells #[.int .i64 x.op,.int .i64 x.v.k,.int .i64 x.v.n,.string x.v.s,.string x.name,.slice A x.args.length c] 26) none) (by simp)
  have hbw:Below w.heap.size w w1:=alloc_below (by simpa using hb1)
  have hB0:Below w.heap.size w (((w1.alloc (.map #[] 0)).alloc (.cells #[.map (some w1.heap.size)] 197)).alloc (.cells #[.int .i64 x.op,.int .i64 x.v.k,.int .i64 x.v.n,.string x.v.s,.string x.name,.slice A x.args.length c] 26)):=((hbw.alloc (by omega) _).alloc (by simp;omega) _).alloc (by simp;omega) _
  have hsz:(((w1.alloc (.map #[] 0)).alloc (.cells #[.map (some w1.heap.size)] 197)).alloc (.cells #[.int .i64 x.op,.int .i64 x.v.k,.int .i64 x.v.n,.string x.v.s,.string x.name,.slice A x.args.length c] 26)).heap.size = w1.heap.size + 3:=by simp
  obtain ⟨W0,hW0⟩:∃ W0,(((w1.alloc (.map #[] 0)).alloc (.cells #[.map (some w1.heap.size)] 197)).alloc (.cells #[.int .i64 x.op,.int .i64 x.v.k,.int .i64 x.v.n,.string x.v.s,.string x.name,.slice A x.args.length c] 26)) = W0:=⟨_,rfl⟩
  rw [hW0] at bX bM hm1 hB0 hsz ⊢
  clear hW0 hmp0
  have hx0:XRep W0 (fun b => b < w.heap.size) [.int .i64 x.op,.int .i64 x.v.k,.int .i64 x.v.n,.string x.v.s,.string x.name,.slice A x.args.length c] x:=XRep.keep HX.out (fun b hb => ⟨hb,hB0.block b hb⟩)
  refine wpIn_rangeFunc_ownH rfl (by omega) (gf:=185) (lb:=#[.pointer (some ⟨w1.heap.size + 1 + 1,0,none⟩)]) rfl trivial (enters_of Tryz.func185 (by kernel_rfl) rfl)
   (refs_stops _ rfl _ trivial trivial rfl (w1.heap.size + 1 + 1) w.heap.size w1.heap.size x A c W0 (by omega) (by omega) bX hx0) Kr.trans (fun W l o o' hl ho hc _ => Kr.put W l o o' (by omega) ho hc) (Below.refl _ _) (fun _ => rfl)
   (fun pre W => (Boxed W (w1.heap.size + 1) 197 (.map (some w1.heap.size)) ∧ MapIs W Tryz.prog 9 w1.heap.size pre.length (nameSet (nmsOf pre))) ∧ Below w.heap.size w W)
   (fun _ _ _ => False)
   (OwnFrom.and (OwnFrom.and (Own.from (boxed_own _ _ _) _) (fun s X Y row hs hg hr => hs.kept hg (fun e => by have:=(hr _ e.symm).1;omega))) (ownFrom_below (Nat.le_refl _) (by omega)))
   (fun _ _ _ _ _ hs _ _ => hs)
   ⟨⟨bM,hm1⟩,hB0⟩
   (fun s a' W => a' = { tmps:=#[.agg #[.int .i64 x.op,.int .i64 x.v.k,.int .i64 x.v.n,.string x.v.s,.string x.name,.slice A x.args.length c],.pointer (some ⟨w.heap.size,0,none⟩),.slice none 0 0,.int .i64 0,.int .i64 0,.pointer (some ⟨w1.heap.size + 1,0,none⟩),.string s.1,.agg #[.int .i64 x.op,.int .i64 x.v.k,.int .i64 x.v.n,.string x.v.s,.string x.name,.slice A x.args.length c],.int .i64 0,.int .i64 0,.bool false,undef,.map (some w1.heap.size),.agg #[.int .i64 x.op,.int .i64 x.v.k,.int .i64 x.v.n,.string x.v.s,.string x.name,.slice A x.args.length c],.func (.func 185) #[] #[.pointer (some ⟨w1.heap.size + 1 + 1,0,none⟩)],.string s.1,undef,undef,undef,undef,undef],defers:=[] })
   (fun s a' => ownFrom_pure _ _)
   ?assign ?body ?done ?stop
  case assign =>
   rintro l pre s W K hI hK
   gi_wp2
   exact hK _ _ (KeepsFrom.refl _ _) (Kr.refl _ _ _) hI rfl
  case body =>
   rintro l pre s a' W hl ⟨r,hr⟩ ⟨⟨bM1,hm2⟩,hB1⟩ rfl hlt
   have cM:=bM1.cell
   have hks:=Tryz.keyStr s.1 s.2
   have lM:=bM1.lt
   clear hr
   gi_wp2_with (gi_at_mapUpdate;refine wpListIn_mapUpdate_Is _ rfl _ _ _ 197 rfl 9 4 (Maps.string_keyed Tryz.underlying9) Tryz.underlying197 w1.heap.size pre.length _ rfl hm2 (by unfold maxLen;omega) _ _ _ rfl rfl hks ?_;intro w2 hm3 hgrow1)
   refine ⟨KeepsFrom.of_grownBy hgrow1 (fun j e => by cases e;omega),⟨hgrow1.size,fun k hk => hgrow1.block k (by omega) (fun e => by cases e;omega),fun k o hk ho _ => (hgrow1.block k (Array.getElem?_eq_some_iff.1 ho).1 (fun e => by cases e;exact hk rfl)).trans ho⟩,⟨⟨bM1.kept hgrow1 (by simp),?_⟩,hB1.grown hgrow1 hB1.size (fun k e => by cases e;omega)⟩⟩
   rw [List.length_append,nmsOf_snoc]
   exact (nameSet_snoc _ _) ▸ hm3
  case done =>
   rintro D ys W hD hys ⟨⟨bM1,hm2⟩,hB1⟩ hK
   have cM:=bM1.cell
   obtain ⟨D0,ho,hh,_⟩:=hm2
   have hle:=ho.size_le
   have hyl:ys.length = (askN x).length:=by rw [← nmsOf_len,hys]
   have hsr:=fun ss hp => sorted_rise (nmsOf ys) D0 9 ho Tryz.underlying9 hh ss hp
   have HO:=Lib.hid (And.intro ho (And.intro hh (And.intro hB1 (And.intro hK hsr))))
   have lD:D < W.heap.size:=(Array.getElem?_eq_some_iff.1 hK).1
   clear ho hh hB1 hK hsr
   gi_wp2_with (first
    | (refine ⟨trivial,?_⟩;gi_at_call 170;refine (maps_Keys_at _ _).mono ?_;rintro e w' ⟨rfl,rfl⟩)
    | (refine ⟨trivial,?_⟩;gi_at_call 169;refine (slices_Sorted_at w1.heap.size _ D0 rdV W HO.out.1 (by unfold maxLen;omega) (by omega)).mono ?_;rintro e w2 ⟨v,ss,rfl,hS,hrow,hnil,hb2⟩))
   have hK2:w2.heap[D]? = some (.deferred (some [])):=(hb2.block D (by simp;omega)).trans ((Below.heap_alloc W _ D lD).trans HO.out.2.2.2.1)
   have hsr:=HO.out.2.2.2.2 ss hS
   rw [hys] at hsr
   rw [hsr.1,hsr.2] at hrow
   have hb3:Below w.heap.size w w2:=below_chain HO.out.2.2.1 (((Below.refl W.heap.size W).alloc (Nat.le_refl _) _).trans (hb2.mono (by simp)))
   have hsz2:=HO.out.2.2.1.size
   refine ⟨by simp,.inl ⟨_,_,rfl,run_takeDeferred hK2,?_⟩⟩
   refine ⟨.tuple #[v,.int .i64 0],by simp [results,Tryz.results136,go_sem],v,rfl,?_,?_⟩
   ·exact ownsRow_base_a (hrow.kept (grownBy_putObj' w2 D _) (.inr fun e => by have:=(hrow.lt D e).1;simp at this;omega)) (by simp;omega)
   ·exact hb3.trans (belowK_b (w:=w) (Nat.le_refl _) w2 D _ _ (by omega) hK2 rfl rfl)
  case stop =>
   rintro D cd pre W _ _ h _
   exact h.elim
 ·have hr:namesR x = ([],exprErr x):=by rw [namesR,if_neg he]
  rw [hr]
  generalize exprErr x = er at he hck
  have hne:(er != 0) = true:=by simpa using he
  clear hx he hr
  go_enter Tryz.func136,Tryz.ntmps136
  go_wp2_with (go_at_call 19;refine (hck _ (HX.out.keep (old_keep bel))).mono ?_;rintro e w1 ⟨rfl,hb1⟩;obtain ⟨hc1,hf1⟩:=bcell hb1;(try simp only [bqh,bqc,bqf] at hc1 hf1);have hz1:=hb1.size;(try simp at hz1);(try have hy1:=nl1 hz1);(try have hx1:=nl2 hy1);refine szz w1 w ?_;intros)
  go_ret2
  exact NilC.own _ _ _ ⟨rfl,bel⟩
end Go.Proofs.YtldbpmlgbbomcaaGreatDoor
