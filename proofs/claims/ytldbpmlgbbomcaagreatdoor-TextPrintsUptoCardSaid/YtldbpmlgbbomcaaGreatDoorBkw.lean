/- slices.Backward over fields, and typing.types, which fills a map by it. -/
import Derived.Test.YtldbpmlgbbomcaaGreatDoorTypes
import Derived.RangeFuncNested
import Derived.RangeFuncBound
import Derived.RangeFuncCalls
import Derived.RangeFuncLeaves
import Derived.RangeFuncBox
import Derived.Shelf.Abstract
import Derived.Shelf.RegionOpen
import Derived.OwnWalkIn
import Derived.TacticsInMore
import Derived.LoopNIn
import Derived.LoopIn
import Derived.StringKeys
namespace Go.Proofs.YtldbpmlgbbomcaaGreatDoor
open Go.RowKit Go.Shelf Go.Maps

attribute [local go_sem] Oper.semAt_some

abbrev FIt:={ p:Nat × Fld × Option Addr × Nat // inS p.2.1.name }
abbrev Fld.agg (f:Fld) (X:Option Addr) (C:Nat):Value:=.agg #[.string f.name,.int .i64 f.kind,.int .i64 f.type,.int .i64 f.source.op,.int .i64 f.source.v.k,.int .i64 f.source.v.n,.string f.source.v.s,.string f.source.name,.slice X f.source.args.length C]
abbrev encF (x:FIt):Array Value:=#[.int .i64 (x.1.1:Int),.agg #[.string x.1.2.1.name,.int .i64 x.1.2.1.kind,.int .i64 x.1.2.1.type,.int .i64 x.1.2.1.source.op,.int .i64 x.1.2.1.source.v.k,.int .i64 x.1.2.1.source.v.n,.string x.1.2.1.source.v.s,.string x.1.2.1.source.name,.slice x.1.2.2.1 x.1.2.1.source.args.length x.1.2.2.2]]
def Kb (n₀ Bs:Nat) (A B:World):Prop:=∀ k,k < n₀ ∨ k = Bs → B.heap[k]? = A.heap[k]?
theorem Kb.trans {n₀ Bs:Nat} {A B C:World} (h:Kb n₀ Bs A B) (k:Kb n₀ Bs B C):Kb n₀ Bs A C:=fun i hi => (k i hi).trans (h i hi)
def fldsOf (l:List FIt):List Fld:=l.map (·.1.2.1)

set_option maxRecDepth 100000 in
set_option maxHeartbeats 2000000 in
theorem fields_Backward1_in (F:Fence) (n:Nat) (h7:F.fn 201) (hro:F.round = none) (hn:1 ≤ n) (l Bs n₀:Nat) (A:Option Addr) (len cap:Nat) (fs:List Fld) (hreach:inB 112 len) (J Jx:List FIt → World → Prop)
  (hY:∀ pre x W,J pre W → pre.length < len → YieldAt F (n - 1) Tryz.prog l (encF x) W fun e W' =>
   (e = .returned (.bool true) ∧ J (pre ++ [x]) W' ∧ Kb n₀ Bs W W') ∨ (e = .returned (.bool false) ∧ Jx (pre ++ [x]) W'))
  (W:World) (hBs:W.cell? ⟨Bs,0,none⟩ = some (.slice A len cap)) (hc:Sl W (fun b => b < n₀) 9 (RFld W (fun b => b < n₀)) A len fs) (h0:J [] W) :
  CallsIn F n Tryz.prog 201 #[.func (.yield l) #[] #[],.pointer (some ⟨Bs,0,none⟩)] W fun e W' => (∃ v,e = .returned v) ∧
   ((∃ ys,fldsOf ys = fs.reverse ∧ J ys W') ∨ (∃ pre,True ∧ Jx pre W')):=by
 unfold inB at hreach
 have hlf:=hc.len
 have HH:=Lib.hid hc
 clear hc
 refine callsIn_of_wp Tryz.func201 rfl h7 ?_ hro
 simp only [Tryz.ntmps201,List.size_toArray,List.length_cons,List.length_nil,Nat.reduceAdd,Nat.reduceSub,Array.replicate_succ,Array.replicate_zero,List.push_toArray,List.append_toArray,List.nil_append,List.cons_append]
 gi_wp2
 gi_loopw [3] (fun i wr => ∃ (k:Nat) (pre:List FIt),k ≤ len ∧ i = .int .i64 ((k:Int) - 1) ∧ pre.length + k = len ∧ fldsOf pre = (fs.drop k).reverse ∧ J pre wr ∧ Kb n₀ Bs W wr)
  (fun i _ => (intOf i + 1).toNat)
 case atStart => exact ⟨len,[],Nat.le_refl _,rfl,by simp,by rw [List.drop_of_length_le (by omega)];rfl,h0,fun _ _ => rfl⟩
 case round =>
  obtain ⟨k,pre,hk,hi,hpl,hpf,hJs,hnx⟩:=hrel
  rcases k with _ | m
  ·have hi':=hi.trans (congrArg (Value.int .i64) (by omega:((0:Nat):Int) - 1 = -1))
   clear hi
   subst hi'
   have HP:=Lib.hid hpf
   clear hpf
   gi_wp2
   go_end0
   exact ⟨⟨_,rfl⟩,.inl ⟨pre,by simpa using HP.out,hJs⟩⟩
  ·have hi':=hi.trans (congrArg (Value.int .i64) (by omega:((m + 1:Nat):Int) - 1 = (m:Int)))
   clear hi
   subst hi'
   have hcb:wr.cell? ⟨Bs,0,none⟩ = some (.slice A len cap):=(World.cell?_of_block (w:=W) (a:=⟨Bs,0,none⟩) (hnx Bs (.inr rfl))).trans hBs
   obtain ⟨b,o,f,X,C,rfl,hbl,hl,hrep,x0,x1,x2,x3,x4,x5,x6,x7,x8⟩:=Fld_at (Sl.keepN keeps_Fld (w':=wr) (S':=fun b => b < n₀) HH.out (fun b hb => ⟨hb,hnx b (.inl hb)⟩)) (show m < len by omega)
   have hin:inS f.name:=by obtain ⟨h1,_⟩:=hrep;exact h1
   obtain ⟨fn,tmps,assign,body,hy,hR⟩:=hY pre ⟨(m,f,X,C),hin⟩ wr hJs (by omega)
   unfold encF at hy
   dsimp only at hy
   have HL:=Lib.hid (And.intro hl hpf)
   clear hl hpf hrep hbl
   gi_wp2
   refine hR.mono ?_
   rintro e W3 (⟨rfl,hJ3,hk3⟩ | ⟨rfl,hJx3⟩)
   ·gi_wp2
    go_roundw
    case rel =>
     refine ⟨m,pre ++ [⟨(m,f,X,C),hin⟩],by omega,by go_num,by simp;omega,?_,hJ3,hnx.trans hk3⟩
     have h1:=HL.out.1
     have h2:=HL.out.2
     have hm:m < fs.length:=(List.getElem?_eq_some_iff.1 h1).1
     have h3:fs[m] = f:=by rw [List.getElem?_eq_getElem hm] at h1;exact Option.some.inj h1
     unfold fldsOf at h2 ⊢
     rw [List.map_append,h2,List.drop_eq_getElem_cons hm,h3,List.reverse_cons]
     rfl
    case measure => simp [intOf]
   ·gi_wp2
    refine bodyPost_ret (results_none rfl _ _ _) rfl ?_
    exact ⟨⟨_,rfl⟩,.inr ⟨pre ++ [_],trivial,hJx3⟩⟩

set_option maxHeartbeats 1000000 in
theorem fields_Backward_in (F:Fence) (n:Nat) (h5:F.fn 191) (hro:F.round = none) (a:Option Addr) (len cap:Nat) (w:World) :
  CallsIn F n Tryz.prog 191 #[.slice a len cap] w fun e w' => e = .returned (.func (.func 201) #[] #[.pointer (some ⟨w.heap.size,0,none⟩)]) ∧ w' = w.alloc (.cells #[.slice a len cap] 32):=by
 refine callsIn_of_wp Tryz.func191 rfl h5 ?_ hro
 simp only [Tryz.ntmps191,List.size_toArray,List.length_cons,List.length_nil,Nat.reduceAdd,Nat.reduceSub,Array.replicate_succ,Array.replicate_zero,List.push_toArray,List.append_toArray,List.nil_append,List.cons_append]
 gi_wp2
 go_ret
 exact ⟨rfl,rfl⟩
theorem fields_Backward_stops (F:Fence) (n:Nat) (h7:F.fn 201) (hro:F.round = none) (hn:1 ≤ n) (Bs n₀:Nat) (A:Option Addr) (len cap:Nat) (fs:List Fld) (hreach:inB 112 len) (w:World)
  (hBn:Bs < w.heap.size) (hn₀:n₀ ≤ w.heap.size) (hBs:w.cell? ⟨Bs,0,none⟩ = some (.slice A len cap)) (hc:Sl w (fun b => b < n₀) 9 (RFld w (fun b => b < n₀)) A len fs) :
  SeqStopsK F n Tryz.prog 201 #[.pointer (some ⟨Bs,0,none⟩)] encF (Kb n₀ Bs) (fun ys => fldsOf ys = fs.reverse) (fun _ => True) len w:=fun l J Jx W hW _ _ hY h0 =>
 fields_Backward1_in F n h7 hro hn l Bs n₀ A len cap fs hreach J Jx hY W ((hW.cell (p:=⟨Bs,0,none⟩) hBn).trans hBs)
  (Sl.keepN keeps_Fld hc (fun b hb => ⟨hb,hW.block b (by omega)⟩)) h0

def typeMap (l:List Fld):Lit → Option Value:=l.foldl (fun f x => putAt f (.string x.name.data.toList) (.int .i64 x.type)) (fun _ => none)
theorem typeMap_snoc (l:List Fld) (x:Fld):typeMap (l ++ [x]) = putAt (typeMap l) (.string x.name.data.toList) (.int .i64 x.type):=by simp [typeMap]
theorem Tryz.keyStr (s:ByteArray) (h:inS s):keyOf Tryz.prog 9 (.string s) = some (.string s.data.toList):=WideMaps.keyOf_string_mk Tryz.underlying9 (inS_max h)

set_option maxRecDepth 100000 in
set_option maxHeartbeats 2000000 in
theorem typing_types (A:Option Addr) (n c:Nat) (l:List Fld) (w:World) (hn:inB 112 n) (h:Sl w (old w) 9 (RFld w (old w)) A n l) :
  Calls Tryz.prog 172 #[.slice A n c] w fun e w' => e = .returned (.map (some w.heap.size)) ∧ MapIs w' Tryz.prog 9 w.heap.size n (typeMap l.reverse) ∧ Below w.heap.size w w':=by
 have hmm:=@run_makeMap Tryz.prog
 have HH:=Lib.hid h
 have hmx:n < maxLen:=by unfold inB at hn;unfold maxLen;omega
 clear h
 refine (callsIn_wide (n:=3)).1 ?_
 refine callsIn_of_wp_marks Tryz.func172 rfl trivial ?_ rfl
 simp only [Tryz.ntmps172,List.size_toArray,List.length_cons,List.length_nil,Nat.reduceAdd,Nat.reduceSub,Array.replicate_succ,Array.replicate_zero,List.push_toArray,List.append_toArray,List.nil_append,List.cons_append]
 gi_wp2_with (refine ⟨trivial,?_⟩;gi_at_call 191;refine (fields_Backward_in _ _ trivial rfl _ _ _ _).mono ?_;rintro e w' ⟨rfl,rfl⟩)
 have hm0:=MapIs.made w Tryz.prog 9
 have bM:=(Boxed.new (w.alloc (.map #[] 0)) 151 (.map (some w.heap.size))).alloc (.cells #[.slice A n c] 32)
 have bS:=Boxed.new ((w.alloc (.map #[] 0)).alloc (.cells #[.map (some w.heap.size)] 151)) 32 (.slice A n c)
 have hm1:=(hm0.kept (World.grownBy_alloc _ (.cells #[.map (some w.heap.size)] 151) none) (by simp)).kept (World.grownBy_alloc _ (.cells #[.slice A n c] 32) none) (by simp)
 simp only [World.size_alloc] at bM bS
 have hB0:Below w.heap.size w (((w.alloc (.map #[] 0)).alloc (.cells #[.map (some w.heap.size)] 151)).alloc (.cells #[.slice A n c] 32)):=(((Below.refl _ w).alloc (Nat.le_refl _) _).alloc (by simp) _).alloc (by simp;omega) _
 have hsz:(((w.alloc (.map #[] 0)).alloc (.cells #[.map (some w.heap.size)] 151)).alloc (.cells #[.slice A n c] 32)).heap.size = w.heap.size + 3:=by simp
 obtain ⟨W0,hW0⟩:∃ W0,((w.alloc (.map #[] 0)).alloc (.cells #[.map (some w.heap.size)] 151)).alloc (.cells #[.slice A n c] 32) = W0:=⟨_,rfl⟩
 rw [hW0] at bM bS hm1 hB0 hsz ⊢
 clear hW0 hm0
 have hsl:Sl W0 (fun b => b < w.heap.size) 9 (RFld W0 (fun b => b < w.heap.size)) A n l:=Sl.keepN keeps_Fld HH.out (fun b hb => ⟨hb,hB0.block b hb⟩)
 refine wpIn_rangeFunc_ownH rfl (by omega) (gf:=201) (lb:=#[.pointer (some ⟨w.heap.size + 1 + 1,0,none⟩)]) rfl trivial (enters_of Tryz.func201 (by kernel_rfl) rfl)
  (fields_Backward_stops _ _ trivial rfl (by omega) (w.heap.size + 1 + 1) w.heap.size A n c l hn W0 (by omega) (by omega) bS.cell hsl) Kb.trans (fun W l o o' hl ho _ _ k hk => World.putObj_heap_other (fun e => by subst e;omega)) (Below.refl _ _) (fun _ => rfl)
  (fun pre W => ((Boxed W (w.heap.size + 1) 151 (.map (some w.heap.size)) ∧ Boxed W (w.heap.size + 1 + 1) 32 (.slice A n c)) ∧ MapIs W Tryz.prog 9 w.heap.size pre.length (typeMap (fldsOf pre))) ∧ Below w.heap.size w W)
  (fun _ _ _ => False)
  (OwnFrom.and (OwnFrom.and (OwnFrom.and (Own.from (boxed_own _ _ _) _) (Own.from (boxed_own _ _ _) _)) (fun s X Y row hs hg hr => hs.kept hg (fun e => by have:=(hr _ e.symm).1;omega))) (ownFrom_below (Nat.le_refl _) (by omega)))
  (fun _ _ _ _ _ hs _ _ => hs)
  ⟨⟨⟨bM,bS⟩,hm1⟩,hB0⟩
  (fun x a' W => ∃ Bx,w.heap.size + 1 < Bx ∧ W.heap[Bx]? = some (.cells #[.string x.1.2.1.name,.int .i64 x.1.2.1.kind,.int .i64 x.1.2.1.type,.int .i64 x.1.2.1.source.op,.int .i64 x.1.2.1.source.v.k,.int .i64 x.1.2.1.source.v.n,.string x.1.2.1.source.v.s,.string x.1.2.1.source.name,.slice x.1.2.2.1 x.1.2.1.source.args.length x.1.2.2.2] 65 (0,0)) ∧ a' = { tmps:=#[.slice A n c,undef,.map none,.pointer (some ⟨w.heap.size + 1,0,none⟩),undef,.pointer (some ⟨Bx,0,none⟩),.map (some w.heap.size),.slice A n c,.func (.func 201) #[] #[.pointer (some ⟨w.heap.size + 1 + 1,0,none⟩)],.int .i64 (x.1.1:Int),.agg #[.string x.1.2.1.name,.int .i64 x.1.2.1.kind,.int .i64 x.1.2.1.type,.int .i64 x.1.2.1.source.op,.int .i64 x.1.2.1.source.v.k,.int .i64 x.1.2.1.source.v.n,.string x.1.2.1.source.v.s,.string x.1.2.1.source.name,.slice x.1.2.2.1 x.1.2.1.source.args.length x.1.2.2.2],undef,undef,undef,undef,undef,undef],defers:=[] })
  (fun x a' _ X Y row hs hg hr => by
   obtain ⟨Bx,h1,h2,h3⟩:=hs
   refine ⟨Bx,h1,(hg.block Bx (Array.getElem?_eq_some_iff.1 h2).1 (fun e => ?_)).trans h2,h3⟩
   obtain ⟨_,o,ho,hoc⟩:=hr _ e.symm
   rw [h2] at ho
   cases ho
   cases hoc)
  ?assign ?body ?done ?stop
 case assign =>
  rintro l pre x W K ⟨⟨⟨bM1,bS1⟩,hm2⟩,hB1⟩ hK
  gi_wp2
  exact hK _ _ ((KeepsOthers.alloc _ _).from _) (fun k hk => Below.heap_alloc W _ k (by have:=hB1.size;have:=bS1.lt;omega)) ⟨⟨⟨bM1.alloc _,bS1.alloc _⟩,hm2.kept (World.grownBy_alloc W _ none) (by simp)⟩,hB1.alloc hB1.size _⟩ ⟨W.heap.size,bM1.lt,World.alloc_heap_new W _,rfl⟩
 case body =>
  rintro l pre x a' W hl ⟨r,hr⟩ ⟨⟨⟨bM1,bS1⟩,hm2⟩,hB1⟩ ⟨Bx,hBx,hcx,rfl⟩ hlt
  obtain ⟨⟨m,f,X,C⟩,hin⟩:=x
  have cM:=bM1.cell
  have c0:W.cell? ⟨Bx,0,none⟩ = some (.string f.name):=by simp [World.cell?,hcx]
  have c2:W.cell? ⟨Bx,2,none⟩ = some (.int .i64 f.type):=by simp [World.cell?,hcx]
  have hks:=Tryz.keyStr f.name hin
  clear hcx
  gi_wp2_with (gi_at_mapUpdate;refine wpListIn_mapUpdate_Is _ rfl _ _ _ 151 rfl 9 3 (Maps.string_keyed Tryz.underlying9) Tryz.underlying151 w.heap.size pre.length _ rfl hm2 (by omega) _ _ _ rfl rfl hks ?_;intro w1 hm3 hgrow1)
  refine ⟨KeepsFrom.of_grownBy hgrow1 (fun j e => by cases e;omega),fun k hk => hgrow1.block k (by have:=hB1.size;have:=bS1.lt;omega) (fun e => by cases e;omega),⟨⟨⟨bM1.kept hgrow1 (by simp),bS1.kept hgrow1 (by simp;omega)⟩,?_⟩,hB1.grown hgrow1 hB1.size (fun k e => by cases e;exact Nat.le_refl _)⟩⟩
  rw [List.length_append,fldsOf,List.map_append]
  exact (typeMap_snoc _ _) ▸ hm3
 case done =>
  rintro D ys W hD hys ⟨⟨⟨bM1,bS1⟩,hm2⟩,hB1⟩ hK
  have cM:=bM1.cell
  gi_wp2
  refine ⟨by simp,.inl ⟨_,_,rfl,run_takeDeferred hK,?_⟩⟩
  have hyl:ys.length = l.length:=by have h1:=congrArg List.length hys;simpa [fldsOf] using h1
  rw [hys] at hm2
  exact ⟨_,results_tmp rfl _ _ _,rfl,(hm2.mono (by rw [hyl,HH.out.len];exact Nat.le_refl _)).kept (grownBy_putObj' W D _) (fun e => by cases e;omega),hB1.trans (belowK_b (w:=w) (Nat.le_refl _) W D _ _ (by omega) hK rfl rfl)⟩
 case stop =>
  rintro D c pre W _ _ h _
  exact h.elim
end Go.Proofs.YtldbpmlgbbomcaaGreatDoor
