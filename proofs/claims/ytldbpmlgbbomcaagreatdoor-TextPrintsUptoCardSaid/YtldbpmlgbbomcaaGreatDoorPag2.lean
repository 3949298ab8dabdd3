/- Texts merged: Pag1 Pag2. -/
import Derived.Test.YtldbpmlgbbomcaaGreatDoorNamP
import Derived.Test.YtldbpmlgbbomcaaGreatDoorNum
import Derived.Test.YtldbpmlgbbomcaaGreatDoorRig
/- page.Of and the reference PageOf. -/
namespace Go.Proofs.YtldbpmlgbbomcaaGreatDoor
open Go.RowKit

theorem Pag_at {w:World} {S:Nat → Prop} {A:Option Addr} {n k:Nat} {l:List Pag} (h:Sl w S 8 (RPag w S) A n l) (hk:k < n) :
  ∃ b o f Y D X C,A = some ⟨b,o,none⟩ ∧ S b ∧ l[k]? = some f ∧
   RPag w S [.string f.name,.slice Y f.fields.length D,.int .i64 f.skip.op,.int .i64 f.skip.v.k,.int .i64 f.skip.v.n,.string f.skip.v.s,.string f.skip.name,.slice X f.skip.args.length C] f ∧
   w.cell? ⟨b,o + k * 8,none⟩ = some (.string f.name) ∧ w.cell? ⟨b,o + k * 8 + 1,none⟩ = some (.slice Y f.fields.length D) ∧ w.cell? ⟨b,o + k * 8 + 2,none⟩ = some (.int .i64 f.skip.op) ∧ w.cell? ⟨b,o + k * 8 + 3,none⟩ = some (.int .i64 f.skip.v.k) ∧
   w.cell? ⟨b,o + k * 8 + 4,none⟩ = some (.int .i64 f.skip.v.n) ∧ w.cell? ⟨b,o + k * 8 + 5,none⟩ = some (.string f.skip.v.s) ∧ w.cell? ⟨b,o + k * 8 + 6,none⟩ = some (.string f.skip.name) ∧ w.cell? ⟨b,o + k * 8 + 7,none⟩ = some (.slice X f.skip.args.length C):=by
 obtain ⟨b,o,f,cs,rfl,hs,hl,hr,_,hc⟩:=h.at_ hk
 obtain ⟨r1,Y,m,D,xs,rfl,r2,r3,r4,hx⟩:=hr
 have hx':=hx
 obtain ⟨X,C,rfl,_⟩:=hx.open_
 have hm:=r4.len
 subst hm
 exact ⟨b,o,f,Y,D,X,C,rfl,hs,hl,⟨r1,Y,_,D,_,rfl,r2,r3,r4,hx'⟩,hc 0 (by decide),hc 1 (by decide),hc 2 (by decide),hc 3 (by decide),hc 4 (by decide),hc 5 (by decide),hc 6 (by decide),hc 7 (by decide)⟩
theorem RPag.open_ {w:World} {S:Nat → Prop} {f:Pag} {Y X:Option Addr} {n D m C:Nat}
  (h:RPag w S [.string f.name,.slice Y n D,.int .i64 f.skip.op,.int .i64 f.skip.v.k,.int .i64 f.skip.v.n,.string f.skip.v.s,.string f.skip.name,.slice X m C] f) :
  inS f.name ∧ inB 16 n ∧ n ≤ D ∧ Sl w S 1 RStr Y n f.fields ∧ XRep w S [.int .i64 f.skip.op,.int .i64 f.skip.v.k,.int .i64 f.skip.v.n,.string f.skip.v.s,.string f.skip.name,.slice X m C] f.skip:=by
 obtain ⟨r1,Y',n',D',xs,e,r2,r3,r4,hx⟩:=h
 simp only [List.cons.injEq,Value.slice.injEq,true_and] at e
 obtain ⟨⟨rfl,rfl,rfl⟩,rfl⟩:=e
 exact ⟨r1,r2,r3,r4,hx⟩
def hasField (name:ByteArray) (p:Pag):Bool:=p.fields.any (isStr name)
set_option maxHeartbeats 1000000 in
theorem pages_IndexFunc (p:Pag → Bool) (f:FuncId) (cp:Value) (A:Option Addr) (n c:Nat) (l:List Pag) (w:World) (hn:inL n) (h:Sl w (old w) 8 (RPag w (old w)) A n l) (hcf:∀ args w,(callFunc f args).run Tryz.prog w = .ok (.enter f args) w)
  (hcall:∀ (wr:World) (k:Nat) (x:Pag) (Y:Option Addr) (D:Nat) (X:Option Addr) (C:Nat),Below w.heap.size w wr → l[k]? = some x → RPag wr (old wr) [.string x.name,.slice Y x.fields.length D,.int .i64 x.skip.op,.int .i64 x.skip.v.k,.int .i64 x.skip.v.n,.string x.skip.v.s,.string x.skip.name,.slice X x.skip.args.length C] x → Calls Tryz.prog f #[.agg #[.string x.name,.slice Y x.fields.length D,.int .i64 x.skip.op,.int .i64 x.skip.v.k,.int .i64 x.skip.v.n,.string x.skip.v.s,.string x.skip.name,.slice X x.skip.args.length C],cp] wr fun e w' => e = .returned (.bool (p x)) ∧ Below wr.heap.size wr w') :
  Calls Tryz.prog 141 #[.slice A n c,.func (.func f) #[] #[cp]] w fun e w' => e = .returned (.int .i64 (idxOf p l)) ∧ Below w.heap.size w w':=by
 unfold inL at hn
 have HH:=Lib.hid h
 have HC:=Lib.hid hcall
 clear h hcall
 go_enter Tryz.func141,Tryz.ntmps141
 go_wp2_with fail
 go_loopw [8] (fun i wr => ∃ k:Nat,k ≤ n ∧ i = .int .i64 k ∧ (l.take k).any p = false ∧ Below w.heap.size w wr) (fun i _ => n - (intOf i).toNat)
 case atStart => exact ⟨0,by omega,rfl,by simp,Below.refl _ _⟩
 case round =>
  obtain ⟨k,hk,rfl,hv,hb⟩:=hrel
  by_cases hlt:k < n
  ·obtain ⟨b,o,x,Y,D,X,C,rfl,_,hl,hrep,h0,h1,h2,h3,h4,h5,h6,h7⟩:=Pag_at (HH.out.nowN keeps_Pag hb) hlt
   have HL:=Lib.hid (And.intro hl (And.intro hv hrep))
   clear hl hv hrep
   cases hp:p x
   ·have HP:=Lib.hid hp
    have hcl:=HC.out wr k x Y D X C hb HL.out.1 HL.out.2.2
    rw [HP.out] at hcl
    clear hp
    go_wp2_with (refine hcl.mono ?_;rintro e w1 ⟨rfl,hb1⟩)
    clear hcl
    go_roundw
    case rel =>
     refine ⟨k + 1,by omega,by go_num,?_,bel⟩
     rw [List.take_add_one,HL.out.1,List.any_append,HL.out.2.1]
     simp [HP.out]
    case measure => simp [intOf];omega
   ·have HP:=Lib.hid hp
    have hcl:=HC.out wr k x Y D X C hb HL.out.1 HL.out.2.2
    rw [HP.out] at hcl
    clear hp
    go_wp2_with (refine hcl.mono ?_;rintro e w1 ⟨rfl,hb1⟩)
    clear hcl
    go_ret
    refine ⟨ret_int ?_,bel⟩
    have e1:=firstAt_hit p l k x HL.out.1 HP.out HL.out.2.1
    have e2:l.any p = true:=by
     rw [List.any_eq_true]
     exact ⟨x,List.mem_of_getElem? HL.out.1,HP.out⟩
    rw [idxOf,if_pos e2,e1]
  ·have hke:k = n:=by omega
   subst hke
   have hl:l.take k = l:=by rw [List.take_of_length_le (by rw [HH.out.len];exact Nat.le_refl _)]
   rw [hl] at hv
   have HV:=Lib.hid hv
   clear hl hv
   go_wp2_with fail
   go_ret
   exact ⟨ret_int (by rw [idxOf,HV.out];rfl),hb⟩
def pageIx (l:List Pag) (name:ByteArray) (n:Nat):Int:=if l.any (hasField name) then (firstAt (hasField name) l:Int) else (n:Int)
def RetII2 (w:World) (a b:Int) (e:Ending) (w':World):Prop:=e = .returned (.tuple #[.int .i64 a,.int .i64 b]) ∧ Below w.heap.size w w'
end Go.Proofs.YtldbpmlgbbomcaaGreatDoor
/- Pages by their names: page.Find, PageAt; page.Never. -/
namespace Go.Proofs.YtldbpmlgbbomcaaGreatDoor
open Go.RowKit

def hasPage (name:ByteArray) (p:Pag):Bool:=p.name.toList == name.toList
set_option maxHeartbeats 400000 in
theorem page_Find1 (name:ByteArray) (g:Nat) (f:Pag) (Y:Option Addr) (D:Nat) (X:Option Addr) (C:Nat) (w:World) (h:w.cell? ⟨g,0,none⟩ = some (.string name)) :
  Calls Tryz.prog 142 #[.agg #[.string f.name,.slice Y f.fields.length D,.int .i64 f.skip.op,.int .i64 f.skip.v.k,.int .i64 f.skip.v.n,.string f.skip.v.s,.string f.skip.name,.slice X f.skip.args.length C],.pointer (some ⟨g,0,none⟩)] w
   fun e w' => e = .returned (.bool (hasPage name f)) ∧ Below w.heap.size w w':=by
 have hg:=block_lt_of_cell h
 simp only at hg
 unfold hasPage
 go_enter Tryz.func142,Tryz.ntmps142
 go_wp2
 go_ret
 exact ⟨rfl,bel⟩
theorem cf_PFind1 (args:Array Value) (w:World):(callFunc 142 args).run Tryz.prog w = .ok (.enter 142 args) w :=
 cf _ _ Tryz.func142 (by kernel_rfl) (by kernel_rfl) args w
set_option maxRecDepth 100000 in
set_option maxHeartbeats 1000000 in
theorem page_Find (A:Option Addr) (n c:Nat) (l:List Pag) (name:ByteArray) (w:World) (hn:inL n) (h:Sl w (old w) 8 (RPag w (old w)) A n l) :
  Calls Tryz.prog 102 #[.slice A n c,.string name] w (RetII2 w (if l.any (hasPage name) then (firstAt (hasPage name) l:Int) else 0) (if l.any (hasPage name) then 0 else 5)):=by
 have hcl:=fun (w1:World) (g:Nat) (hg:w1.cell? ⟨g,0,none⟩ = some (.string name)) (hs:Sl w1 (old w1) 8 (RPag w1 (old w1)) A n l) => pages_IndexFunc (hasPage name) 142 (.pointer (some ⟨g,0,none⟩)) A n c l w1 hn hs cf_PFind1 (fun wr k x Y D X C hb _ hx => page_Find1 name g x Y D X C wr (cell_keep hg hb))
 have hlt:=firstAt_le (hasPage name) l
 rw [h.len] at hlt
 have HH:=Lib.hid h
 unfold inL at hn
 clear h
 cases hany:l.any (hasPage name)
 ·have h1:idxOf (hasPage name) l = -1:=by rw [idxOf,hany];rfl
  rw [h1] at hcl
  rw [if_neg (by decide),if_neg (by decide)]
  go_enter Tryz.func102,Tryz.ntmps102
  go_wp2_with (go_at_call 141;refine (hcl _ _ (by go_simp) (HH.out.nowN keeps_Pag bel)).mono ?_;rintro e w1 ⟨rfl,hb1⟩)
  go_ret2
  exact ⟨rfl,bel⟩
 ·have h1:idxOf (hasPage name) l = (firstAt (hasPage name) l:Int):=by rw [idxOf,hany];rfl
  rw [h1] at hcl
  rw [if_pos rfl,if_pos rfl]
  go_enter Tryz.func102,Tryz.ntmps102
  go_wp2_with (go_at_call 141;refine (hcl _ _ (by go_simp) (HH.out.nowN keeps_Pag bel)).mono ?_;rintro e w1 ⟨rfl,hb1⟩)
  go_ret2
  exact ⟨rfl,bel⟩
set_option maxRecDepth 100000 in
set_option maxHeartbeats 1000000 in
theorem ref_PageAt (A:Option Addr) (n c:Nat) (l:List Pag) (name:ByteArray) (w:World) (hn:inL n) (h:Sl w (old w) 8 (RPag w (old w)) A n l) :
  Calls Tryz.prog 113 #[.slice A n c,.string name] w (RetI w (firstAt (hasPage name) l:Int)):=by
 have HH:=Lib.hid h
 unfold inL at hn
 clear h
 go_enter Tryz.func113,Tryz.ntmps113
 go_wp2_with fail
 go_loopw [9] (fun i wr => ∃ k:Nat,k ≤ n ∧ i = .int .i64 k ∧ Hid ((l.take k).any (hasPage name) = false) ∧ Below w.heap.size w wr) (fun i _ => n - (intOf i).toNat)
 case atStart => exact ⟨0,by omega,rfl,Lib.hid (by simp),Below.refl _ _⟩
 case round =>
  obtain ⟨k,hk,rfl,hv,hb⟩:=hrel
  by_cases hlt:k < n
  ·obtain ⟨b,o,x,Y,D,X,C,rfl,hbl,hl,hrep,h0,h1,h2,h3,h4,h5,h6,h7⟩:=Pag_at (HH.out.nowN keeps_Pag hb) hlt
   have hbl':b < wr.heap.size:=hbl
   have HL:=Lib.hid hl
   clear hl hrep hbl
   cases hp:hasPage name x
   ·have hp':(x.name.toList == name.toList) = false:=hp
    have HP:=Lib.hid hp
    clear hp
    go_wp2_with fail
    go_roundw
    case rel =>
     refine ⟨k + 1,by omega,by go_num,Lib.hid ?_,bel⟩
     rw [List.take_add_one,HL.out,List.any_append,hv.out]
     simp [HP.out]
    case measure => simp [intOf];omega
   ·have hp':(x.name.toList == name.toList) = true:=hp
    have HP:=Lib.hid hp
    clear hp
    go_wp2_with fail
    go_ret
    refine ⟨ret_int ?_,bel⟩
    rw [firstAt_hit (hasPage name) l k x HL.out HP.out hv.out]
  ·have hke:k = n:=by omega
   subst hke
   have hl:l.take k = l:=by rw [List.take_of_length_le (by rw [HH.out.len];exact Nat.le_refl _)]
   have hv':=hv.out
   rw [hl] at hv'
   have HV:=Lib.hid (firstAt_none _ _ hv')
   clear hv' hl
   go_wp2_with fail
   go_ret
   exact ⟨ret_int (by rw [HV.out,HH.out.len]),hb⟩
set_option maxRecDepth 100000 in
set_option maxHeartbeats 1000000 in
theorem page_Never (f:Pag) (Y:Option Addr) (D:Nat) (X:Option Addr) (C:Nat) (w:World) (hn0:inL f.skip.args.length) :
  Calls Tryz.prog 57 #[.agg #[.string f.name,.slice Y f.fields.length D,.int .i64 f.skip.op,.int .i64 f.skip.v.k,.int .i64 f.skip.v.n,.string f.skip.v.s,.string f.skip.name,.slice X f.skip.args.length C]] w (RetB w (bareB f.skip.op f.skip.v f.skip.name f.skip.args.length)):=by
 have hn:f.skip.args.length ≤ 140737488351232:=hn0
 have hne:=fun w => run_eql_Val w f.skip.v.k f.skip.v.n 0 0 f.skip.v.s ⟨#[]⟩
 rw [show (⟨f.skip.v.k,f.skip.v.n,f.skip.v.s⟩:Val) = f.skip.v from rfl] at hne
 rcases bareB_cases f.skip.op f.skip.v f.skip.name f.skip.args.length with ⟨z1,e⟩ | ⟨z1,z2,e⟩ | ⟨z1,z2,z3,e⟩ | ⟨z1,z2,z3,z4,e⟩ | ⟨z1,z2,z3,z4,e⟩
 all_goals
  rw [e]
  clear e
  try simp only [z3] at hne
  go_enter Tryz.func57,Tryz.ntmps57
  go_wp2_with fail
  go_ret
  exact ⟨rfl,bel⟩
end Go.Proofs.YtldbpmlgbbomcaaGreatDoor
