/- field.Find, field.Told and the references FieldAt, FieldTold. -/
import Derived.Test.YtldbpmlgbbomcaaGreatDoorTypes
import Derived.Test.YtldbpmlgbbomcaaGreatDoorVal
import Derived.Deep.QuietTactic
import Derived.BigQuiet
namespace Go.Proofs.YtldbpmlgbbomcaaGreatDoor
open Go.RowKit

def hasName (name:ByteArray) (f:Fld):Bool:=f.name.toList == name.toList
def fieldAt (l:List Fld) (name:ByteArray):Nat:=firstAt (hasName name) l

set_option maxHeartbeats 400000 in
theorem field_Find1 (name:ByteArray) (g:Nat) (fn:ByteArray) (fk ft op vk vn:Int) (vs nm:ByteArray) (X:Option Addr) (m C:Nat) (w:World) (h:w.cell? ⟨g,0,none⟩ = some (.string name)) :
  Calls Tryz.prog 144 #[.agg #[.string fn,.int .i64 fk,.int .i64 ft,.int .i64 op,.int .i64 vk,.int .i64 vn,.string vs,.string nm,.slice X m C],.pointer (some ⟨g,0,none⟩)] w
   fun e w' => e = .returned (.bool (fn.toList == name.toList)) ∧ Below w.heap.size w w':=by
 have hg:=block_lt_of_cell h
 simp only at hg
 go_enter Tryz.func144,Tryz.ntmps144
 go_wp2
 go_ret
 exact ⟨rfl,bel⟩
theorem cf_Find1 (args:Array Value) (w:World):(callFunc 144 args).run Tryz.prog w = .ok (.enter 144 args) w :=
 cf _ _ Tryz.func144 (by kernel_rfl) (by kernel_rfl) args w


set_option maxHeartbeats 400000 in
theorem fields_IndexFunc (name:ByteArray) (g:Nat) (A:Option Addr) (n c:Nat) (l:List Fld) (w:World) (hn:inL n) (hg:w.cell? ⟨g,0,none⟩ = some (.string name)) (h:Sl w (old w) 9 (RFld w (old w)) A n l) :
  Calls Tryz.prog 143 #[.slice A n c,.func (.func 144) #[] #[.pointer (some ⟨g,0,none⟩)]] w
   fun e w' => e = .returned (.int .i64 (idxOf (hasName name) l)) ∧ Below w.heap.size w w':=by
 unfold inL at hn
 have hgl:=block_lt_of_cell hg
 simp only at hgl
 have HH:=Lib.hid (And.intro h hg)
 clear h hg
 go_enter Tryz.func143,Tryz.ntmps143
 go_wp2_with fail
 go_loopw [8] (fun i wr => ∃ k:Nat,k ≤ n ∧ i = .int .i64 k ∧ (l.take k).any (hasName name) = false ∧ Below w.heap.size w wr) (fun i _ => n - (intOf i).toNat)
 case atStart => exact ⟨0,by omega,rfl,by simp,Below.refl _ _⟩
 case round =>
  obtain ⟨k,hk,rfl,hv,hb⟩:=hrel
  by_cases hlt:k < n
  ·obtain ⟨b,o,x,X,C,rfl,_,hl,_,h0,h1,h2,h3,h4,h5,h6,h7,h8⟩:=Fld_at (HH.out.1.nowN keeps_Fld hb) hlt
   have hgr:=cell_keep HH.out.2 hb
   have HL:=Lib.hid (And.intro hl hv)
   clear hl hv
   cases hp:hasName name x
   ·have hp':(x.name.toList == name.toList) = false:=hp
    have HP:=Lib.hid hp
    clear hp
    go_wp2_with (refine (field_Find1 _ _ _ _ _ _ _ _ _ _ _ _ _ _ hgr).mono ?_;rintro e w1 ⟨rfl,hb1⟩)
    go_roundw
    case rel =>
     refine ⟨k + 1,by omega,by go_num,?_,bel⟩
     rw [List.take_add_one,HL.out.1,List.any_append,HL.out.2]
     simp [HP.out]
    case measure => simp [intOf];omega
   ·have hp':(x.name.toList == name.toList) = true:=hp
    have HP:=Lib.hid hp
    clear hp
    go_wp2_with (refine (field_Find1 _ _ _ _ _ _ _ _ _ _ _ _ _ _ hgr).mono ?_;rintro e w1 ⟨rfl,hb1⟩)
    go_ret
    refine ⟨ret_int ?_,bel⟩
    have e1:=firstAt_hit (hasName name) l k x HL.out.1 HP.out HL.out.2
    have e2:l.any (hasName name) = true:=by
     rw [List.any_eq_true]
     exact ⟨x,List.mem_of_getElem? HL.out.1,HP.out⟩
    rw [idxOf,if_pos e2,e1]
  ·have hke:k = n:=by omega
   subst hke
   have hl:l.take k = l:=by rw [List.take_of_length_le (by rw [HH.out.1.len];exact Nat.le_refl _)]
   rw [hl] at hv
   have HV:=Lib.hid hv
   clear hl hv
   go_wp2_with fail
   go_ret
   exact ⟨ret_int (by rw [idxOf,HV.out];rfl),hb⟩

def findRes (p:Fld → Bool) (l:List Fld):Int × Int:=if l.any p then ((firstAt p l:Int),0) else (0,5)

set_option maxHeartbeats 400000 in
theorem field_Find (A:Option Addr) (n c:Nat) (l:List Fld) (name:ByteArray) (w:World) (hn:inL n) (h:Sl w (old w) 9 (RFld w (old w)) A n l) :
  Calls Tryz.prog 103 #[.slice A n c,.string name] w
   fun e w' => e = .returned (.tuple #[.int .i64 (findRes (hasName name) l).1,.int .i64 (findRes (hasName name) l).2]) ∧ Below w.heap.size w w':=by
 have HH:=Lib.hid h
 clear h
 cases ha:l.any (hasName name)
 ·have h1:idxOf (hasName name) l = -1:=by rw [idxOf,ha];rfl
  have h2:findRes (hasName name) l = (0,5):=by rw [findRes,ha];rfl
  rw [h2]
  clear ha h2
  go_enter Tryz.func103,Tryz.ntmps103
  go_wp2_with (go_at_call 143;refine (fields_IndexFunc name _ A n c l _ hn (by go_simp) (HH.out.nowN keeps_Fld bel)).mono ?_;rintro e w1 ⟨rfl,hb1⟩)
  go_ret2
  exact ⟨rfl,bel⟩
 ·have h1:idxOf (hasName name) l = (firstAt (hasName name) l:Int):=by rw [idxOf,ha];rfl
  have h2:findRes (hasName name) l = ((firstAt (hasName name) l:Int),0):=by rw [findRes,ha];rfl
  rw [h2]
  clear ha h2
  go_enter Tryz.func103,Tryz.ntmps103
  go_wp2_with (go_at_call 143;refine (fields_IndexFunc name _ A n c l _ hn (by go_simp) (HH.out.nowN keeps_Fld bel)).mono ?_;rintro e w1 ⟨rfl,hb1⟩)
  go_ret2
  exact ⟨rfl,bel⟩

def fieldTold (l:List Fld) (name:ByteArray) (v:Val):Int :=
 match l.find? (hasName name) with
 | none => 5
 | some f => if f.kind = 1 then if valKnown v = true ∧ v.k = f.type then 0 else 9 else 2

set_option maxHeartbeats 400000 in
theorem ref_FieldAt (A:Option Addr) (n c:Nat) (l:List Fld) (name:ByteArray) (w:World) (hn:inL n) (h:Sl w (old w) 9 (RFld w (old w)) A n l) :
  Calls Tryz.prog 112 #[.slice A n c,.string name] w
   fun e w' => e = .returned (.int .i64 (firstAt (hasName name) l:Int)) ∧ Below w.heap.size w w':=by
 unfold inL at hn
 have HH:=Lib.hid h
 clear h
 go_enter Tryz.func112,Tryz.ntmps112
 go_wp2_with fail
 go_loopw [9] (fun i wr => ∃ k:Nat,k ≤ n ∧ i = .int .i64 k ∧ (l.take k).any (hasName name) = false ∧ Below w.heap.size w wr) (fun i _ => n - (intOf i).toNat)
 case atStart => exact ⟨0,by omega,rfl,by simp,Below.refl _ _⟩
 case round =>
  obtain ⟨k,hk,rfl,hv,hb⟩:=hrel
  by_cases hlt:k < n
  ·obtain ⟨b,o,x,X,C,rfl,_,hl,_,h0,h1,h2,h3,h4,h5,h6,h7,h8⟩:=Fld_at (HH.out.nowN keeps_Fld hb) hlt
   have HL:=Lib.hid (And.intro hl hv)
   clear hl hv
   cases hp:hasName name x
   ·have hp':(x.name.toList == name.toList) = false:=hp
    have HP:=Lib.hid hp
    clear hp
    go_wp2_with fail
    go_roundw
    case rel =>
     refine ⟨k + 1,by omega,by go_num,?_,bel⟩
     rw [List.take_add_one,HL.out.1,List.any_append,HL.out.2]
     simp [HP.out]
    case measure => simp [intOf];omega
   ·have hp':(x.name.toList == name.toList) = true:=hp
    have HP:=Lib.hid hp
    clear hp
    go_wp2_with fail
    go_ret
    refine ⟨ret_int ?_,bel⟩
    rw [firstAt_hit (hasName name) l k x HL.out.1 HP.out HL.out.2]
  ·have hke:k = n:=by omega
   subst hke
   have hl:l.take k = l:=by rw [List.take_of_length_le (by rw [HH.out.len];exact Nat.le_refl _)]
   rw [hl] at hv
   have HV:=Lib.hid hv
   clear hl hv
   go_wp2_with fail
   go_ret
   exact ⟨ret_int (by rw [firstAt_none _ _ HV.out,HH.out.len]),hb⟩

end Go.Proofs.YtldbpmlgbbomcaaGreatDoor
