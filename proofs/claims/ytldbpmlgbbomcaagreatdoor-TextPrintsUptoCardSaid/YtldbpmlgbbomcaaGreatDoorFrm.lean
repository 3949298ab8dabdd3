/- Texts merged: Frm FrmT FrmB. -/
import Derived.Test.YtldbpmlgbbomcaaGreatDoorRnk7
import Derived.Test.YtldbpmlgbbomcaaGreatDoorPCk
import Derived.Test.YtldbpmlgbbomcaaGreatDoorPag2
import Derived.Test.YtldbpmlgbbomcaaGreatDoorOpen
/- sheet.Check and the reference FormFault. -/
namespace Go.Proofs.YtldbpmlgbbomcaaGreatDoor
open Go.RowKit

def formErr (F:List Fld) (P:List Pag):Int:=if (rankR F).2.2 ≠ 0 then (rankR F).2.2 else pagesErr P F
def FldsOk (F:List Fld):Prop:=(∀ f ∈ F,f.source.nodes ≤ 1048576) ∧ ∀ f ∈ F,inS f.name ∧ ∀ s ∈ askN f.source,inS s
def RFo (w:World) (B:Option Addr) (m d:Nat) (F:List Fld) (A:Option Addr) (n c:Nat) (P:List Pag):Prop :=
 inB 112 m ∧ m ≤ d ∧ inB 120 n ∧ n ≤ c ∧ Sl w (old w) 9 (RFld w (old w)) B m F ∧ Sl w (old w) 8 (RPag w (old w)) A n P
theorem RFo.now {w w':World} {B A:Option Addr} {m d n c:Nat} {F:List Fld} {P:List Pag} (h:RFo w B m d F A n c P) (hb:Below w.heap.size w w'):RFo w' B m d F A n c P :=
 ⟨h.1,h.2.1,h.2.2.1,h.2.2.2.1,h.2.2.2.2.1.nowN keeps_Fld hb,h.2.2.2.2.2.nowN keeps_Pag hb⟩
theorem rank_Of3 {l:List Fld} {lo:List Int} {lc:List ByteArray} {er:Int} (hr:rankR l = (lo,lc,er)) {w:World} {e:Ending} {w':World} (h:RetRk w (rankR l) e w') :
  ∃ A c B d,e = .returned (.tuple #[.slice A lo.length c,.slice B lc.length d,.int .i64 er]) ∧ lo.length ≤ c ∧ lc.length ≤ d ∧ Sl w' (fresh w w') 1 RInt A lo.length lo ∧ Sl w' (fresh w w') 1 RStr B lc.length lc ∧ Below w.heap.size w w':=by
 rw [hr] at h;exact h

set_option maxRecDepth 100000 in
set_option maxHeartbeats 2000000 in
theorem sheet_Check (B:Option Addr) (m d:Nat) (F:List Fld) (A:Option Addr) (n c:Nat) (P:List Pag) (w:World) (hX:RFo w B m d F A n c P) (hO:FldsOk F) :
  Calls Tryz.prog 24 #[.agg #[.slice B m d,.slice A n c]] w (RetI w (formErr F P)):=by
 obtain ⟨lo,lc,er,hr⟩:∃ lo lc er,rankR F = (lo,lc,er):=⟨_,_,_,rfl⟩
 have h1:=fun w (h:RFo w B m d F A n c P) => rank_Of F B m d w h.1 h.2.1 h.2.2.2.2.1 hO.1 hO.2
 have h2:=fun w (h:RFo w B m d F A n c P) => page_Check P A n c F B m d w (h.2.2.1.l (by decide)) h.2.2.2.1 h.1 h.2.2.2.2.2 h.2.2.2.2.1
 have HX:=Lib.hid hX
 have HR:=Lib.hid hr
 have hfe:formErr F P = if er ≠ 0 then er else pagesErr P F:=by unfold formErr;rw [hr]
 clear hX hO hr
 by_cases he:er = 0
 ·rw [hfe,if_neg (by simpa using he)]
  subst he
  clear hfe
  go_enter Tryz.func24,Tryz.ntmps24
  go_wp2_with fail
  refine (h1 _ (HX.out.now bel)).mono ?_;intro e w1 q1;obtain ⟨A1,c1,B1,d1,rfl,_,_,_,_,hb1⟩:=rank_Of3 HR.out q1;clear q1;obtain ⟨hc1,hf1⟩:=bcell hb1;(try simp only [bqh,bqc,bqf] at hc1 hf1);have hz1:=hb1.size;(try simp at hz1);(try have hy1:=nl1 hz1);(try have hx1:=nl2 hy1);refine szz w1 w ?_;intros
  go_wp2_with fail
  refine (h2 _ (HX.out.now bel)).mono ?_;rintro e w2 ⟨rfl,hb2⟩;obtain ⟨hc2,hf2⟩:=bcell hb2;(try simp only [bqh,bqc,bqf] at hc2 hf2);have hz2:=hb2.size;(try simp at hz2);(try have hy2:=nl1 hz2);(try have hx2:=nl2 hy2);refine szz w2 w ?_;intros;refine szz w2 w1 ?_;intros
  go_wp2_with fail
  go_ret
  exact ⟨rfl,bel⟩
 ·rw [hfe,if_pos he]
  have g1:(er != 0) = true:=by simpa using he
  clear hfe
  go_enter Tryz.func24,Tryz.ntmps24
  go_wp2_with fail
  refine (h1 _ (HX.out.now bel)).mono ?_;intro e w1 q1;obtain ⟨A1,c1,B1,d1,rfl,_,_,_,_,hb1⟩:=rank_Of3 HR.out q1;clear q1;obtain ⟨hc1,hf1⟩:=bcell hb1;(try simp only [bqh,bqc,bqf] at hc1 hf1);have hz1:=hb1.size;(try simp at hz1);(try have hy1:=nl1 hz1);(try have hx1:=nl2 hy1);refine szz w1 w ?_;intros
  go_wp2_with fail
  go_ret
  exact ⟨rfl,bel⟩

set_option maxRecDepth 100000 in
set_option maxHeartbeats 2000000 in
theorem ref_FormFault (B:Option Addr) (m d:Nat) (F:List Fld) (A:Option Addr) (n c:Nat) (P:List Pag) (w:World) (hX:RFo w B m d F A n c P) (hO:FldsOk F) :
  Calls Tryz.prog 28 #[.agg #[.slice B m d,.slice A n c]] w (RetI w (formErr F P)):=by
 obtain ⟨lo,lc,er,hr⟩:∃ lo lc er,rankR F = (lo,lc,er):=⟨_,_,_,rfl⟩
 have h1:=fun w (h:RFo w B m d F A n c P) => ref_FieldRanks F B m d w h.1 h.2.2.2.2.1 hO.1 hO.2
 have h2:=fun w (h:RFo w B m d F A n c P) => ref_PagesFault P A n c F B m d w (h.2.2.1.l (by decide)) h.2.2.2.1 h.1 h.2.2.2.2.2 h.2.2.2.2.1
 have HX:=Lib.hid hX
 have HR:=Lib.hid hr
 have hfe:formErr F P = if er ≠ 0 then er else pagesErr P F:=by unfold formErr;rw [hr]
 clear hX hO hr
 by_cases he:er = 0
 ·rw [hfe,if_neg (by simpa using he)]
  subst he
  clear hfe
  go_enter Tryz.func28,Tryz.ntmps28
  go_wp2_with fail
  refine (h1 _ (HX.out.now bel)).mono ?_;intro e w1 q1;obtain ⟨A1,c1,B1,d1,rfl,_,_,_,_,hb1⟩:=rank_Of3 HR.out q1;clear q1;obtain ⟨hc1,hf1⟩:=bcell hb1;(try simp only [bqh,bqc,bqf] at hc1 hf1);have hz1:=hb1.size;(try simp at hz1);(try have hy1:=nl1 hz1);(try have hx1:=nl2 hy1);refine szz w1 w ?_;intros
  go_wp2_with fail
  refine (h2 _ (HX.out.now bel)).mono ?_;rintro e w2 ⟨rfl,hb2⟩;obtain ⟨hc2,hf2⟩:=bcell hb2;(try simp only [bqh,bqc,bqf] at hc2 hf2);have hz2:=hb2.size;(try simp at hz2);(try have hy2:=nl1 hz2);(try have hx2:=nl2 hy2);refine szz w2 w ?_;intros;refine szz w2 w1 ?_;intros
  go_wp2_with fail
  go_ret
  exact ⟨rfl,bel⟩
 ·rw [hfe,if_pos he]
  have g1:(er != 0) = true:=by simpa using he
  clear hfe
  go_enter Tryz.func28,Tryz.ntmps28
  go_wp2_with fail
  refine (h1 _ (HX.out.now bel)).mono ?_;intro e w1 q1;obtain ⟨A1,c1,B1,d1,rfl,_,_,_,_,hb1⟩:=rank_Of3 HR.out q1;clear q1;obtain ⟨hc1,hf1⟩:=bcell hb1;(try simp only [bqh,bqc,bqf] at hc1 hf1);have hz1:=hb1.size;(try simp at hz1);(try have hy1:=nl1 hz1);(try have hx1:=nl2 hy1);refine szz w1 w ?_;intros
  go_wp2_with fail
  go_ret
  exact ⟨rfl,bel⟩
end Go.Proofs.YtldbpmlgbbomcaaGreatDoor
/- sheet.Inputs, sheet.Free and what the law holds them against. (printed by mkfrmt.py) -/
namespace Go.Proofs.YtldbpmlgbbomcaaGreatDoor
open Go.RowKit

def inpTo (F:List Fld):Nat → List Int
 | 0 => []
 | k + 1 => inpTo F k ++ (match (F)[k]? with | some f => if f.kind = 1 then [(k:Int)] else [] | none => [])
def freeTo (F:List Fld) (P:List Pag):Nat → List ByteArray
 | 0 => []
 | k + 1 => freeTo F P k ++ (match (F)[k]? with | some f => if P.any (hasField f.name) then [] else [f.name] | none => [])
theorem inpTo_len (F:List Fld):∀ k,(inpTo F k).length ≤ k
 | 0 => Nat.le_refl _
 | k + 1 => by
  have:=inpTo_len F k
  simp only [inpTo,List.length_append]
  cases (F)[k]? with
  | none => simp;omega
  | some f => dsimp only;split <;> simp <;> omega
theorem freeTo_len (F:List Fld) (P:List Pag):∀ k,(freeTo F P k).length ≤ k
 | 0 => Nat.le_refl _
 | k + 1 => by
  have:=freeTo_len F P k
  simp only [freeTo,List.length_append]
  cases (F)[k]? with
  | none => simp;omega
  | some f => dsimp only;split <;> simp <;> omega
theorem inpTo_yes {F:List Fld} {k:Nat} {f:Fld} (h:(F)[k]? = some f) (hk:f.kind = 1):inpTo F (k + 1) = inpTo F k ++ [(k:Int)]:=by rw [inpTo,h];dsimp only;rw [if_pos hk]
theorem inpTo_no {F:List Fld} {k:Nat} {f:Fld} (h:(F)[k]? = some f) (hk:¬ f.kind = 1):inpTo F (k + 1) = inpTo F k:=by rw [inpTo,h];dsimp only;rw [if_neg hk,List.append_nil]
theorem freeTo_yes {F:List Fld} {P:List Pag} {k:Nat} {f:Fld} (h:(F)[k]? = some f) (hk:P.any (hasField f.name) = false):freeTo F P (k + 1) = freeTo F P k ++ [f.name]:=by rw [freeTo,h];dsimp only;rw [if_neg (by rw [hk];decide)]
theorem freeTo_no {F:List Fld} {P:List Pag} {k:Nat} {f:Fld} (h:(F)[k]? = some f) (hk:P.any (hasField f.name) = true):freeTo F P (k + 1) = freeTo F P k:=by rw [freeTo,h];dsimp only;rw [if_pos hk,List.append_nil]
theorem formErr_flds {F:List Fld} {P:List Pag} (h:formErr F P = 0):fieldsErr F = 0:=by
 unfold formErr at h
 by_cases he:fieldsErr F = 0
 ·exact he
 ·have e:(rankR F).2.2 = fieldsErr F:=by rw [rankR,if_pos he]
  rw [e,if_pos he] at h
  exact h
def inpR (F:List Fld) (P:List Pag):List Int × Int:=if formErr F P = 0 then (inpTo F F.length,0) else ([],formErr F P)
def freeR (F:List Fld) (P:List Pag):List ByteArray × Int:=if formErr F P = 0 then (freeTo F P F.length,0) else ([],formErr F P)

end Go.Proofs.YtldbpmlgbbomcaaGreatDoor
/- What bulk bounds; what a form that is handed in holds. -/
namespace Go.Proofs.YtldbpmlgbbomcaaGreatDoor
open Go.ChangeShapes Go.WideShapes Go.ChangeAt Go.RowKit

mutual
theorem bulk_nodes:∀ x:Exp,x.nodes ≤ x.bulk
 | .mk op v nm args => by
  have:=bulks_nodes args
  simp only [Exp.bulk,Exp.nodes]
  omega
theorem bulks_nodes:∀ l:List Exp,nodesL l ≤ Exp.bulk.bulks l
 | [] => by simp [nodesL]
 | a :: l => by
  have:=bulk_nodes a
  have:=bulks_nodes l
  simp only [Exp.bulk.bulks,nodesL]
  omega
end
theorem flds_nodes:∀ l:List Fld,(l.map Fld.bulk).sum ≤ 1048576 → ∀ f ∈ l,f.source.nodes ≤ 1048576
 | [],_ => fun f hf => absurd hf List.not_mem_nil
 | a :: l,h => by
  simp only [List.map_cons,List.sum_cons] at h
  intro f hf
  rcases List.mem_cons.1 hf with rfl | hf
  ·have:=bulk_nodes f.source
   have e:f.bulk = f.name.size + f.source.bulk + 1:=rfl
   omega
  ·exact flds_nodes l (by omega) f hf
theorem Sl_each {α:Type} {w:World} {S:Nat → Prop} {size:Nat} {R:List Value → α → Prop} {A:Option Addr} {n:Nat} {l:List α} (h:Sl w S size R A n l):∀ a ∈ l,∃ cs,R cs a:=by
 intro a ha
 obtain ⟨i,hi,rfl⟩:=List.mem_iff_getElem.1 ha
 have hn:0 < n:=by rw [← h.1];omega
 obtain ⟨b,o,e,hs,hc⟩:=h.2 hn
 obtain ⟨cs,h1,_⟩:=hc i l[i] (List.getElem?_eq_getElem hi)
 exact ⟨cs,h1⟩
theorem flds_inS {w:World} {A:Option Addr} {n:Nat} {l:List Fld} (h:Sl w (old w) 9 (RFld w (old w)) A n l):∀ f ∈ l,inS f.name ∧ ∀ s ∈ askN f.source,inS s:=by
 intro f hf
 obtain ⟨cs,hr⟩:=Sl_each h f hf
 exact ⟨hr.1,askN_inS hr.2.2.2.choose_spec.2⟩
theorem RFrm.parts {w:World} {cs:List Value} {f:Frm} (h:RFrm w (old w) cs f) (hb:f.bulk ≤ 1048576) :
  ∃ A n c A2 n2 c2,cs = [.slice A n c,.slice A2 n2 c2] ∧ RFo w A n c f.fields A2 n2 c2 f.pages ∧ FldsOk f.fields:=by
 obtain ⟨A,n,c,A2,n2,c2,rfl,hn,hnc,hn2,hnc2,hs,hs2⟩:=h
 exact ⟨A,n,c,A2,n2,c2,rfl,⟨hn,hnc,hn2,hnc2,hs,hs2⟩,flds_nodes f.fields (by unfold Frm.bulk at hb;omega),flds_inS hs⟩
theorem pag_fields {w:World} {A:Option Addr} {n:Nat} {l:List Pag} (h:Sl w (old w) 8 (RPag w (old w)) A n l):∀ p ∈ l,∀ s ∈ p.fields,inS s:=by
 intro p hp
 obtain ⟨cs,r1,Y,m,D,xs,_,r2,r3,r4,_⟩:=Sl_each h p hp
 intro s hs
 obtain ⟨c,_,hi⟩:=Sl_each r4 s hs
 exact hi
end Go.Proofs.YtldbpmlgbbomcaaGreatDoor
