/- field.Find, field.Told and the references FieldAt, FieldTold. -/
import Derived.Test.YtbhkpepinogigaaGreatTypes
import Derived.Test.YtbhkpepinogigaaGreatVal
import Derived.Deep.QuietTactic
import Derived.BigQuiet
namespace Go.Proofs.YtbhkpepinogigaaGreat
open Go.RowKit

def hasName (name:ByteArray) (f:Fld):Bool:=f.name.toList == name.toList
def fieldAt (l:List Fld) (name:ByteArray):Nat:=firstAt (hasName name) l

set_option maxHeartbeats 400000 in
theorem field_Find1 (name:ByteArray) (g:Nat) (fn:ByteArray) (fk ft op vk vn:Int) (vs nm:ByteArray) (X:Option Addr) (m C:Nat) (w:World) (h:w.cell? ⟨g,0,none⟩ = some (.string name)) :
  Calls Tryz.prog 124 #[.agg #[.string fn,.int .i64 fk,.int .i64 ft,.int .i64 op,.int .i64 vk,.int .i64 vn,.string vs,.string nm,.slice X m C],.pointer (some ⟨g,0,none⟩)] w
   fun e w' => e = .returned (.bool (fn.toList == name.toList)) ∧ Below w.heap.size w w':=by
 have hg:=block_lt_of_cell h
 simp only at hg
 go_enter Tryz.func124,Tryz.ntmps124
 go_wp2
 go_ret
 exact ⟨rfl,bel⟩
set_option maxHeartbeats 400000 in
theorem fields_IndexFunc (name:ByteArray) (g:Nat) (A:Option Addr) (n c:Nat) (l:List Fld) (w:World) (hn:inL n) (hg:w.cell? ⟨g,0,none⟩ = some (.string name)) (h:Sl w (old w) 9 (RFld w (old w)) A n l) :
  Calls Tryz.prog 123 #[.slice A n c,.func (.func 124) #[] #[.pointer (some ⟨g,0,none⟩)]] w
   fun e w' => e = .returned (.int .i64 (idxOf (hasName name) l)) ∧ Below w.heap.size w w':=by
 unfold inL at hn
 have hgl:=block_lt_of_cell hg
 simp only at hgl
 have HH:=Lib.hid (And.intro h hg)
 clear h hg
 go_enter Tryz.func123,Tryz.ntmps123
 go_wp2_with fail
 go_loopw [8] (fun i wr => ∃ k:Nat,k ≤ n ∧ i = .int .i64 k ∧ (l.take k).any (hasName name) = false ∧ Below w.heap.size w wr) (fun i _ => n - (intOf i).toNat)
 case atStart => exact ⟨0,by omega,rfl,by simp,Below.refl _ _⟩
 case round =>
  obtain ⟨k,hk,rfl,hv,hb⟩:=hrel
  by_cases hlt:k < n
  ·obtain ⟨b,o,x,X,C,rfl,_,hl,_,h0,h1,h2,h3,h4,h5,h6,h7,h8⟩:=Fld_at (HH.out.1.nowN keeps_Fld hb) hlt
   have hgr:=cell_keep HH.out.2 hb
   have HL:=Lib.hid (And.intro hl hv)
   clear hl hv
   cases hp:hasName name x
   ·have hp':(x.name.toList == name.toList) = false:=hp
    have HP:=Lib.hid hp
    clear hp
    go_wp2_with (refine (field_Find1 _ _ _ _ _ _ _ _ _ _ _ _ _ _ hgr).mono ?_;rintro e w1 ⟨rfl,hb1⟩)
    go_roundw
    case rel =>
     refine ⟨k + 1,by omega,by go_num,?_,bel⟩
     rw [List.take_add_one,HL.out.1,List.any_append,HL.out.2]
     simp [HP.out]
    case measure => simp [intOf];omega
   ·have hp':(x.name.toList == name.toList) = true:=hp
    have HP:=Lib.hid hp
    clear hp
    go_wp2_with (refine (field_Find1 _ _ _ _ _ _ _ _ _ _ _ _ _ _ hgr).mono ?_;rintro e w1 ⟨rfl,hb1⟩)
    go_ret
    refine ⟨ret_int ?_,bel⟩
    have e1:=firstAt_hit (hasName name) l k x HL.out.1 HP.out HL.out.2
    have e2:l.any (hasName name) = true:=by
     rw [List.any_eq_true]
     exact ⟨x,List.mem_of_getElem? HL.out.1,HP.out⟩
    rw [idxOf,if_pos e2,e1]
  ·have hke:k = n:=by omega
   subst hke
   have hl:l.take k = l:=by rw [List.take_of_length_le (by rw [HH.out.1.len];exact Nat.le_refl _)]
   rw [hl] at hv
   have HV:=Lib.hid hv
   clear hl hv
   go_wp2_with fail
   go_ret
   exact ⟨ret_int (by rw [idxOf,HV.out];rfl),hb⟩

def findRes (p:Fld → Bool) (l:List Fld):Int × Int:=if l.any p then ((firstAt p l:Int),0) else (0,5)

set_option maxHeartbeats 400000 in
theorem field_Find (A:Option Addr) (n c:Nat) (l:List Fld) (name:ByteArray) (w:World) (hn:inL n) (h:Sl w (old w) 9 (RFld w (old w)) A n l) :
  Calls Tryz.prog 57 #[.slice A n c,.string name] w
   fun e w' => e = .returned (.tuple #[.int .i64 (findRes (hasName name) l).1,.int .i64 (findRes (hasName name) l).2]) ∧ Below w.heap.size w w':=by
 have HH:=Lib.hid h
 clear h
 cases ha:l.any (hasName name)
 ·have h1:idxOf (hasName name) l = -1:=by rw [idxOf,ha];rfl
  have h2:findRes (hasName name) l = (0,5):=by rw [findRes,ha];rfl
  rw [h2]
  clear ha h2
  go_enter Tryz.func57,Tryz.ntmps57
  go_wp2_with (go_at_call 123;refine (fields_IndexFunc name _ A n c l _ hn (by go_simp) (HH.out.nowN keeps_Fld bel)).mono ?_;rintro e w1 ⟨rfl,hb1⟩)
  go_ret2
  exact ⟨rfl,bel⟩
 ·have h1:idxOf (hasName name) l = (firstAt (hasName name) l:Int):=by rw [idxOf,ha];rfl
  have h2:findRes (hasName name) l = ((firstAt (hasName name) l:Int),0):=by rw [findRes,ha];rfl
  rw [h2]
  clear ha h2
  go_enter Tryz.func57,Tryz.ntmps57
  go_wp2_with (go_at_call 123;refine (fields_IndexFunc name _ A n c l _ hn (by go_simp) (HH.out.nowN keeps_Fld bel)).mono ?_;rintro e w1 ⟨rfl,hb1⟩)
  go_ret2
  exact ⟨rfl,bel⟩

def fieldTold (l:List Fld) (name:ByteArray) (v:Val):Int :=
 match l.find? (hasName name) with
 | none => 5
 | some f => if f.kind = 1 then if valKnown v = true ∧ v.k = f.type then 0 else 9 else 2

set_option maxRecDepth 100000 in
set_option maxHeartbeats 1000000 in
theorem field_Told (A:Option Addr) (n c:Nat) (l:List Fld) (name:ByteArray) (vk vn:Int) (vs:ByteArray) (w:World) (hn:inL n) (h:Sl w (old w) 9 (RFld w (old w)) A n l) (hs:vs.size ≤ maxLen) :
  Calls Tryz.prog 108 #[.slice A n c,.string name,.agg #[.int .i64 vk,.int .i64 vn,.string vs]] w
   fun e w' => e = .returned (.int .i64 (fieldTold l name ⟨vk,vn,vs⟩)) ∧ Below w.heap.size w w':=by
 have HH:=Lib.hid h
 clear h
 have hlen:l.length = n:=HH.out.len
 cases ha:l.any (hasName name)
 ·have h2:findRes (hasName name) l = (0,5):=by rw [findRes,ha];rfl
  have h3:fieldTold l name ⟨vk,vn,vs⟩ = 5:=by rw [fieldTold,find_none _ _ ha]
  rw [h3]
  have h21:(findRes (hasName name) l).1 = 0:=by rw [h2]
  have h22:(findRes (hasName name) l).2 = 5:=by rw [h2]
  clear ha h2 h3 hlen
  go_enter Tryz.func108,Tryz.ntmps108
  go_wp2_with (go_at_call 57;refine (field_Find _ _ _ l _ _ hn (HH.out.nowN keeps_Fld bel)).mono ?_;rintro e w1 ⟨rfl,hb1⟩;obtain ⟨hc1,hf1⟩:=bcell hb1;(try simp only [bqh,bqc,bqf] at hc1 hf1);have hz1:=hb1.size;(try simp at hz1);(try have hy1:=nl1 hz1);(try have hx1:=nl2 hy1);refine szz w1 w ?_;intros)
  go_ret
  exact ⟨rfl,bel⟩
 ·obtain ⟨f,hf1,hf2,hf3⟩:=find_at _ _ ha
  have h2:findRes (hasName name) l = ((firstAt (hasName name) l:Int),0):=by rw [findRes,ha];rfl
  have h3:fieldTold l name ⟨vk,vn,vs⟩ = if f.kind = 1 then if valKnown ⟨vk,vn,vs⟩ = true ∧ vk = f.type then 0 else 9 else 2:=by rw [fieldTold,hf2]
  have h21:(findRes (hasName name) l).1 = (firstAt (hasName name) l:Int):=by rw [h2]
  have h22:(findRes (hasName name) l).2 = 0:=by rw [h2]
  generalize firstAt (hasName name) l = k at *
  have hk:k < n:=by omega
  obtain ⟨b,o,f',X,C,rfl,hold,hl,_,c0,c1,c2,c3,c4,c5,c6,c7,c8⟩:=Fld_at HH.out hk
  rw [hf1] at hl
  cases hl
  have hold':b < w.heap.size:=hold
  rw [h3]
  have hn':=hn
  unfold inL at hn'
  clear ha h2 h3 hlen hf1 hf2 hf3
  by_cases hk1:f.kind = 1
  case neg =>
   have hk1':(f.kind != 1) = true:=by simpa using hk1
   rw [if_neg hk1]
   clear hk1
   go_enter Tryz.func108,Tryz.ntmps108
   go_wp2_with (first | (go_at_call 57;refine (field_Find _ _ _ l _ _ hn (HH.out.nowN keeps_Fld bel)).mono ?_;rintro e w1 ⟨rfl,hb1⟩;obtain ⟨hc1,hf1⟩:=bcell hb1;(try simp only [bqh,bqc,bqf] at hc1 hf1);have hz1:=hb1.size;(try simp at hz1);(try have hy1:=nl1 hz1);(try have hx1:=nl2 hy1);refine szz w1 w ?_;intros))
   go_ret
   exact ⟨rfl,bel⟩
  have hk1':(f.kind != 1) = false:=by simpa using hk1
  rw [if_pos hk1]
  have HK1:=Lib.hid hk1
  clear hk1
  cases hkn:valKnown ⟨vk,vn,vs⟩
  ·rw [if_neg (by simp)]
   go_enter Tryz.func108,Tryz.ntmps108
   go_wp2_with (first | (go_at_call 57;refine (field_Find _ _ _ l _ _ hn (HH.out.nowN keeps_Fld bel)).mono ?_;rintro e w1 ⟨rfl,hb1⟩;obtain ⟨hc1,hf1⟩:=bcell hb1;(try simp only [bqh,bqc,bqf] at hc1 hf1);have hz1:=hb1.size;(try simp at hz1);(try have hy1:=nl1 hz1);(try have hx1:=nl2 hy1);refine szz w1 w ?_;intros))
   refine wp_world ?_;intro W0 hW0
   have hS0:W0.cell? ⟨w.heap.size,0,none⟩ = some (.int .i64 vk) ∧ W0.cell? ⟨w.heap.size,1,none⟩ = some (.int .i64 vn) ∧ W0.cell? ⟨w.heap.size,2,none⟩ = some (.string vs) ∧ Below W0.heap.size W0 W0 ∧ W0.heap.size ≤ W0.heap.size:=⟨by rw [hW0];go_simp,by rw [hW0];go_simp,by rw [hW0];go_simp,Below.refl _ _,Nat.le_refl _⟩
   have HW0:=Lib.hid hW0;clear hW0
   refine wp_quietC (C:=fun w' => w'.cell? ⟨w.heap.size,0,none⟩ = some (.int .i64 vk) ∧ w'.cell? ⟨w.heap.size,1,none⟩ = some (.int .i64 vn) ∧ w'.cell? ⟨w.heap.size,2,none⟩ = some (.string vs) ∧ Below W0.heap.size W0 w' ∧ W0.heap.size ≤ w'.heap.size) (by kernel_rfl) (by kernel_rfl) (held3d hS0) ?_
   clear hS0
   repeat (first
    | go_big_quiet_skip
    | (go_big_quiet_want;go_big_quiet_op;go_big_quiet_on)
    |
     go_big_quiet_want
     apply Exists.intro
     refine ⟨fun w' hw' => ?_,?_⟩
     ·unfold Oper.quietAt
      have hqs:=hw'
      obtain ⟨hq0,hq1,hq2,hqb,hql⟩:=hw'
      try go_simp
      first
       | with_reducible rfl
       | exact ⟨rfl,rfl⟩
       | (go_at_call 69;refine (value_Known _ _ _ _ hs).mono ?_;rintro e w2 ⟨rfl,hb2⟩;rw [hkn];exact ⟨rfl,held3 hqs hb2⟩)
     go_big_quiet_on
     try go_simp)
   refine wpQuiet_nil ?_;intro wq2;(try simp only [and_imp]);intro hq0 hq1 hq2 hb2 hql;clear hq0 hq1 hq2 hql
   have hW0:=HW0.out;clear HW0;subst hW0
   obtain ⟨hc2,hf2⟩:=bcell hb2;(try simp only [bqh,bqc,bqf] at hc2 hf2);have hz2:=hb2.size;(try simp at hz2);(try have hy2:=nl1 hz2);(try have hx2:=nl2 hy2)
   go_wp2_with fail
   go_ret
   exact ⟨rfl,bel⟩
  ·by_cases ht:vk = f.type
   ·have ht':(vk != f.type) = false:=by simpa using ht
    rw [if_pos ⟨rfl,ht⟩]
    have HT:=Lib.hid ht
    clear ht
    go_enter Tryz.func108,Tryz.ntmps108
    go_wp2_with (first | (go_at_call 57;refine (field_Find _ _ _ l _ _ hn (HH.out.nowN keeps_Fld bel)).mono ?_;rintro e w1 ⟨rfl,hb1⟩;obtain ⟨hc1,hf1⟩:=bcell hb1;(try simp only [bqh,bqc,bqf] at hc1 hf1);have hz1:=hb1.size;(try simp at hz1);(try have hy1:=nl1 hz1);(try have hx1:=nl2 hy1);refine szz w1 w ?_;intros))
    refine wp_world ?_;intro W0 hW0
    have hS0:W0.cell? ⟨w.heap.size,0,none⟩ = some (.int .i64 vk) ∧ W0.cell? ⟨w.heap.size,1,none⟩ = some (.int .i64 vn) ∧ W0.cell? ⟨w.heap.size,2,none⟩ = some (.string vs) ∧ W0.cell? ⟨b,o + k * 9 + 2,none⟩ = some (.int .i64 f.type) ∧ Below W0.heap.size W0 W0 ∧ W0.heap.size ≤ W0.heap.size:=⟨by rw [hW0];go_simp,by rw [hW0];go_simp,by rw [hW0];go_simp,by rw [hW0];go_simp,Below.refl _ _,Nat.le_refl _⟩
    have HW0:=Lib.hid hW0;clear hW0
    go_region_held3 (fun w' => w'.cell? ⟨w.heap.size,0,none⟩ = some (.int .i64 vk) ∧ w'.cell? ⟨w.heap.size,1,none⟩ = some (.int .i64 vn) ∧ w'.cell? ⟨w.heap.size,2,none⟩ = some (.string vs) ∧ w'.cell? ⟨b,o + k * 9 + 2,none⟩ = some (.int .i64 f.type) ∧ Below W0.heap.size W0 w' ∧ W0.heap.size ≤ w'.heap.size) (first | exact held4d (by assumption) | exact held4 (by assumption) (by assumption) | assumption | exact held4o hS0 bel) (first | (go_at_call 69;refine (value_Known _ _ _ _ hs).mono ?_;rintro e w2 ⟨rfl,hb2⟩))
    all_goals
     obtain ⟨_,_,_,_,hb2,_⟩:=held4i (by assumption)
     have hW0:=HW0.out;clear hS0 HW0;subst hW0
     obtain ⟨hc2,hf2⟩:=bcell hb2;(try simp only [bqh,bqc,bqf] at hc2 hf2);have hz2:=hb2.size;(try simp at hz2);(try have hy2:=nl1 hz2);(try have hx2:=nl2 hy2)
    go_wp2_with fail
    go_ret
    exact ⟨rfl,bel⟩
   ·have ht':(vk != f.type) = true:=by simpa using ht
    rw [if_neg (fun h => ht h.2)]
    have HT:=Lib.hid ht
    clear ht
    go_enter Tryz.func108,Tryz.ntmps108
    go_wp2_with (first | (go_at_call 57;refine (field_Find _ _ _ l _ _ hn (HH.out.nowN keeps_Fld bel)).mono ?_;rintro e w1 ⟨rfl,hb1⟩;obtain ⟨hc1,hf1⟩:=bcell hb1;(try simp only [bqh,bqc,bqf] at hc1 hf1);have hz1:=hb1.size;(try simp at hz1);(try have hy1:=nl1 hz1);(try have hx1:=nl2 hy1);refine szz w1 w ?_;intros))
    refine wp_world ?_;intro W0 hW0
    have hS0:W0.cell? ⟨w.heap.size,0,none⟩ = some (.int .i64 vk) ∧ W0.cell? ⟨w.heap.size,1,none⟩ = some (.int .i64 vn) ∧ W0.cell? ⟨w.heap.size,2,none⟩ = some (.string vs) ∧ W0.cell? ⟨b,o + k * 9 + 2,none⟩ = some (.int .i64 f.type) ∧ Below W0.heap.size W0 W0 ∧ W0.heap.size ≤ W0.heap.size:=⟨by rw [hW0];go_simp,by rw [hW0];go_simp,by rw [hW0];go_simp,by rw [hW0];go_simp,Below.refl _ _,Nat.le_refl _⟩
    have HW0:=Lib.hid hW0;clear hW0
    go_region_held3 (fun w' => w'.cell? ⟨w.heap.size,0,none⟩ = some (.int .i64 vk) ∧ w'.cell? ⟨w.heap.size,1,none⟩ = some (.int .i64 vn) ∧ w'.cell? ⟨w.heap.size,2,none⟩ = some (.string vs) ∧ w'.cell? ⟨b,o + k * 9 + 2,none⟩ = some (.int .i64 f.type) ∧ Below W0.heap.size W0 w' ∧ W0.heap.size ≤ w'.heap.size) (first | exact held4d (by assumption) | exact held4 (by assumption) (by assumption) | assumption | exact held4o hS0 bel) (first | (go_at_call 69;refine (value_Known _ _ _ _ hs).mono ?_;rintro e w2 ⟨rfl,hb2⟩))
    all_goals
     obtain ⟨_,_,_,_,hb2,_⟩:=held4i (by assumption)
     have hW0:=HW0.out;clear hS0 HW0;subst hW0
     obtain ⟨hc2,hf2⟩:=bcell hb2;(try simp only [bqh,bqc,bqf] at hc2 hf2);have hz2:=hb2.size;(try simp at hz2);(try have hy2:=nl1 hz2);(try have hx2:=nl2 hy2)
    go_wp2_with fail
    go_ret
    exact ⟨rfl,bel⟩

set_option maxHeartbeats 400000 in
theorem ref_FieldAt (A:Option Addr) (n c:Nat) (l:List Fld) (name:ByteArray) (w:World) (hn:inL n) (h:Sl w (old w) 9 (RFld w (old w)) A n l) :
  Calls Tryz.prog 62 #[.slice A n c,.string name] w
   fun e w' => e = .returned (.int .i64 (firstAt (hasName name) l:Int)) ∧ Below w.heap.size w w':=by
 unfold inL at hn
 have HH:=Lib.hid h
 clear h
 go_enter Tryz.func62,Tryz.ntmps62
 go_wp2_with fail
 go_loopw [9] (fun i wr => ∃ k:Nat,k ≤ n ∧ i = .int .i64 k ∧ (l.take k).any (hasName name) = false ∧ Below w.heap.size w wr) (fun i _ => n - (intOf i).toNat)
 case atStart => exact ⟨0,by omega,rfl,by simp,Below.refl _ _⟩
 case round =>
  obtain ⟨k,hk,rfl,hv,hb⟩:=hrel
  by_cases hlt:k < n
  ·obtain ⟨b,o,x,X,C,rfl,_,hl,_,h0,h1,h2,h3,h4,h5,h6,h7,h8⟩:=Fld_at (HH.out.nowN keeps_Fld hb) hlt
   have HL:=Lib.hid (And.intro hl hv)
   clear hl hv
   cases hp:hasName name x
   ·have hp':(x.name.toList == name.toList) = false:=hp
    have HP:=Lib.hid hp
    clear hp
    go_wp2_with fail
    go_roundw
    case rel =>
     refine ⟨k + 1,by omega,by go_num,?_,bel⟩
     rw [List.take_add_one,HL.out.1,List.any_append,HL.out.2]
     simp [HP.out]
    case measure => simp [intOf];omega
   ·have hp':(x.name.toList == name.toList) = true:=hp
    have HP:=Lib.hid hp
    clear hp
    go_wp2_with fail
    go_ret
    refine ⟨ret_int ?_,bel⟩
    rw [firstAt_hit (hasName name) l k x HL.out.1 HP.out HL.out.2]
  ·have hke:k = n:=by omega
   subst hke
   have hl:l.take k = l:=by rw [List.take_of_length_le (by rw [HH.out.len];exact Nat.le_refl _)]
   rw [hl] at hv
   have HV:=Lib.hid hv
   clear hl hv
   go_wp2_with fail
   go_ret
   exact ⟨ret_int (by rw [firstAt_none _ _ HV.out,HH.out.len]),hb⟩

set_option maxRecDepth 100000 in
set_option maxHeartbeats 1000000 in
theorem ref_FieldTold (A:Option Addr) (n c:Nat) (l:List Fld) (name:ByteArray) (vk vn:Int) (vs:ByteArray) (w:World) (hn:inL n) (h:Sl w (old w) 9 (RFld w (old w)) A n l) (hs:vs.size ≤ maxLen) :
  Calls Tryz.prog 111 #[.slice A n c,.string name,.agg #[.int .i64 vk,.int .i64 vn,.string vs]] w
   fun e w' => e = .returned (.int .i64 (fieldTold l name ⟨vk,vn,vs⟩)) ∧ Below w.heap.size w w':=by
 have HH:=Lib.hid h
 clear h
 have hlen:l.length = n:=HH.out.len
 cases ha:l.any (hasName name)
 ·have h3:fieldTold l name ⟨vk,vn,vs⟩ = 5:=by rw [fieldTold,find_none _ _ ha]
  have h2:firstAt (hasName name) l = n:=by rw [firstAt_none _ _ ha,hlen]
  rw [h3]
  clear ha h3 hlen
  go_enter Tryz.func111,Tryz.ntmps111
  go_wp2_with (go_at_call 62;refine (ref_FieldAt _ _ _ l _ _ hn (HH.out.nowN keeps_Fld bel)).mono ?_;rintro e w1 ⟨rfl,hb1⟩;obtain ⟨hc1,hf1⟩:=bcell hb1;(try simp only [bqh,bqc,bqf] at hc1 hf1);have hz1:=hb1.size;(try simp at hz1);(try have hy1:=nl1 hz1);(try have hx1:=nl2 hy1);refine szz w1 w ?_;intros)
  go_ret
  exact ⟨rfl,bel⟩
 ·obtain ⟨f,hf1,hf2,hf3⟩:=find_at _ _ ha
  have h3:fieldTold l name ⟨vk,vn,vs⟩ = if f.kind = 1 then if valKnown ⟨vk,vn,vs⟩ = true ∧ vk = f.type then 0 else 9 else 2:=by rw [fieldTold,hf2]
  generalize hfi:firstAt (hasName name) l = k at *
  have hk:k < n:=by omega
  obtain ⟨b,o,f',X,C,rfl,hold,hl,_,c0,c1,c2,c3,c4,c5,c6,c7,c8⟩:=Fld_at HH.out hk
  rw [hf1] at hl
  cases hl
  have hold':b < w.heap.size:=hold
  rw [h3]
  have hn':=hn
  unfold inL at hn'
  have hkn':((k:Int) == (n:Int)) = false:=by simp;omega
  clear ha h3 hlen hf1 hf2 hf3
  by_cases hk1:f.kind = 1
  case neg =>
   have hk1':(f.kind != 1) = true:=by simpa using hk1
   rw [if_neg hk1]
   clear hk1
   go_enter Tryz.func111,Tryz.ntmps111
   go_wp2_with (go_at_call 62;refine (ref_FieldAt _ _ _ l _ _ hn (HH.out.nowN keeps_Fld bel)).mono ?_;rintro e w1 ⟨rfl,hb1⟩;obtain ⟨hc1,hf1⟩:=bcell hb1;(try simp only [bqh,bqc,bqf] at hc1 hf1);have hz1:=hb1.size;(try simp at hz1);(try have hy1:=nl1 hz1);(try have hx1:=nl2 hy1);refine szz w1 w ?_;intros)
   go_ret
   exact ⟨rfl,bel⟩
  have hk1':(f.kind != 1) = false:=by simpa using hk1
  rw [if_pos hk1]
  have HK1:=Lib.hid hk1
  clear hk1
  by_cases ht:vk = f.type
  case neg =>
   have ht':(vk != f.type) = true:=by simpa using ht
   rw [if_neg (fun h => ht h.2)]
   clear ht
   go_enter Tryz.func111,Tryz.ntmps111
   go_wp2_with (go_at_call 62;refine (ref_FieldAt _ _ _ l _ _ hn (HH.out.nowN keeps_Fld bel)).mono ?_;rintro e w1 ⟨rfl,hb1⟩;obtain ⟨hc1,hf1⟩:=bcell hb1;(try simp only [bqh,bqc,bqf] at hc1 hf1);have hz1:=hb1.size;(try simp at hz1);(try have hy1:=nl1 hz1);(try have hx1:=nl2 hy1);refine szz w1 w ?_;intros)
   refine wp_world ?_;intro W0 hW0
   have hS0:W0.cell? ⟨w.heap.size,0,none⟩ = some (.int .i64 vk) ∧ W0.cell? ⟨w.heap.size,1,none⟩ = some (.int .i64 vn) ∧ W0.cell? ⟨w.heap.size,2,none⟩ = some (.string vs) ∧ W0.cell? ⟨b,o + k * 9 + 2,none⟩ = some (.int .i64 f.type) ∧ Below W0.heap.size W0 W0 ∧ W0.heap.size ≤ W0.heap.size:=⟨by rw [hW0];go_simp,by rw [hW0];go_simp,by rw [hW0];go_simp,by rw [hW0];go_simp,Below.refl _ _,Nat.le_refl _⟩
   have HW0:=Lib.hid hW0;clear hW0
   refine wp_quietC (C:=fun w' => w'.cell? ⟨w.heap.size,0,none⟩ = some (.int .i64 vk) ∧ w'.cell? ⟨w.heap.size,1,none⟩ = some (.int .i64 vn) ∧ w'.cell? ⟨w.heap.size,2,none⟩ = some (.string vs) ∧ w'.cell? ⟨b,o + k * 9 + 2,none⟩ = some (.int .i64 f.type) ∧ Below W0.heap.size W0 w' ∧ W0.heap.size ≤ w'.heap.size) (by kernel_rfl) (by kernel_rfl) (held4d hS0) ?_
   clear hS0
   repeat (first
    | go_big_quiet_skip
    | (go_big_quiet_want;go_big_quiet_op;go_big_quiet_on)
    |
     go_big_quiet_want
     apply Exists.intro
     refine ⟨fun w' hw' => ?_,?_⟩
     ·unfold Oper.quietAt
      have hqs:=hw'
      obtain ⟨hq0,hq1,hq2,hq3,hqb,hql⟩:=hw'
      try go_simp
      first
       | with_reducible rfl
       | exact ⟨rfl,rfl⟩
       
     go_big_quiet_on
     try go_simp)
   refine wpQuiet_nil ?_;intro wq2;(try simp only [and_imp]);intro hq0 hq1 hq2 hq3 hb2 hql;clear hq0 hq1 hq2 hq3 hql
   have hW0:=HW0.out;clear HW0;subst hW0
   obtain ⟨hc2,hf2⟩:=bcell hb2;(try simp only [bqh,bqc,bqf] at hc2 hf2);have hz2:=hb2.size;(try simp at hz2);(try have hy2:=nl1 hz2);(try have hx2:=nl2 hy2)
   go_wp2_with fail
   go_ret
   exact ⟨rfl,bel⟩
  have ht':(vk != f.type) = false:=by simpa using ht
  have HT:=Lib.hid ht
  clear ht
  cases hkn:valKnown ⟨vk,vn,vs⟩
  ·rw [if_neg (by simp)]
   go_enter Tryz.func111,Tryz.ntmps111
   go_wp2_with (go_at_call 62;refine (ref_FieldAt _ _ _ l _ _ hn (HH.out.nowN keeps_Fld bel)).mono ?_;rintro e w1 ⟨rfl,hb1⟩;obtain ⟨hc1,hf1⟩:=bcell hb1;(try simp only [bqh,bqc,bqf] at hc1 hf1);have hz1:=hb1.size;(try simp at hz1);(try have hy1:=nl1 hz1);(try have hx1:=nl2 hy1);refine szz w1 w ?_;intros)
   refine wp_world ?_;intro W0 hW0
   have hS0:W0.cell? ⟨w.heap.size,0,none⟩ = some (.int .i64 vk) ∧ W0.cell? ⟨w.heap.size,1,none⟩ = some (.int .i64 vn) ∧ W0.cell? ⟨w.heap.size,2,none⟩ = some (.string vs) ∧ W0.cell? ⟨b,o + k * 9 + 2,none⟩ = some (.int .i64 f.type) ∧ Below W0.heap.size W0 W0 ∧ W0.heap.size ≤ W0.heap.size:=⟨by rw [hW0];go_simp,by rw [hW0];go_simp,by rw [hW0];go_simp,by rw [hW0];go_simp,Below.refl _ _,Nat.le_refl _⟩
   have HW0:=Lib.hid hW0;clear hW0
   refine wp_quietC (C:=fun w' => w'.cell? ⟨w.heap.size,0,none⟩ = some (.int .i64 vk) ∧ w'.cell? ⟨w.heap.size,1,none⟩ = some (.int .i64 vn) ∧ w'.cell? ⟨w.heap.size,2,none⟩ = some (.string vs) ∧ w'.cell? ⟨b,o + k * 9 + 2,none⟩ = some (.int .i64 f.type) ∧ Below W0.heap.size W0 w' ∧ W0.heap.size ≤ w'.heap.size) (by kernel_rfl) (by kernel_rfl) (held4d hS0) ?_
   clear hS0
   repeat (first
    | go_big_quiet_skip
    | (go_big_quiet_want;go_big_quiet_op;go_big_quiet_on)
    |
     go_big_quiet_want
     apply Exists.intro
     refine ⟨fun w' hw' => ?_,?_⟩
     ·unfold Oper.quietAt
      have hqs:=hw'
      obtain ⟨hq0,hq1,hq2,hq3,hqb,hql⟩:=hw'
      try go_simp
      first
       | with_reducible rfl
       | exact ⟨rfl,rfl⟩
       | (go_at_call 144;refine (ref_Known _ _ _ _ hs).mono ?_;rintro e w2 ⟨rfl,hb2⟩;rw [hkn];exact ⟨rfl,held4 hqs hb2⟩)
     go_big_quiet_on
     try go_simp)
   refine wpQuiet_nil ?_;intro wq2;(try simp only [and_imp]);intro hq0 hq1 hq2 hq3 hb2 hql;clear hq0 hq1 hq2 hq3 hql
   have hW0:=HW0.out;clear HW0;subst hW0
   obtain ⟨hc2,hf2⟩:=bcell hb2;(try simp only [bqh,bqc,bqf] at hc2 hf2);have hz2:=hb2.size;(try simp at hz2);(try have hy2:=nl1 hz2);(try have hx2:=nl2 hy2)
   go_wp2_with fail
   go_ret
   exact ⟨rfl,bel⟩
  ·rw [if_pos ⟨rfl,HT.out⟩]
   go_enter Tryz.func111,Tryz.ntmps111
   go_wp2_with (go_at_call 62;refine (ref_FieldAt _ _ _ l _ _ hn (HH.out.nowN keeps_Fld bel)).mono ?_;rintro e w1 ⟨rfl,hb1⟩;obtain ⟨hc1,hf1⟩:=bcell hb1;(try simp only [bqh,bqc,bqf] at hc1 hf1);have hz1:=hb1.size;(try simp at hz1);(try have hy1:=nl1 hz1);(try have hx1:=nl2 hy1);refine szz w1 w ?_;intros)
   refine wp_world ?_;intro W0 hW0
   have hS0:W0.cell? ⟨w.heap.size,0,none⟩ = some (.int .i64 vk) ∧ W0.cell? ⟨w.heap.size,1,none⟩ = some (.int .i64 vn) ∧ W0.cell? ⟨w.heap.size,2,none⟩ = some (.string vs) ∧ W0.cell? ⟨b,o + k * 9 + 2,none⟩ = some (.int .i64 f.type) ∧ Below W0.heap.size W0 W0 ∧ W0.heap.size ≤ W0.heap.size:=⟨by rw [hW0];go_simp,by rw [hW0];go_simp,by rw [hW0];go_simp,by rw [hW0];go_simp,Below.refl _ _,Nat.le_refl _⟩
   have HW0:=Lib.hid hW0;clear hW0
   refine wp_quietC (C:=fun w' => w'.cell? ⟨w.heap.size,0,none⟩ = some (.int .i64 vk) ∧ w'.cell? ⟨w.heap.size,1,none⟩ = some (.int .i64 vn) ∧ w'.cell? ⟨w.heap.size,2,none⟩ = some (.string vs) ∧ w'.cell? ⟨b,o + k * 9 + 2,none⟩ = some (.int .i64 f.type) ∧ Below W0.heap.size W0 w' ∧ W0.heap.size ≤ w'.heap.size) (by kernel_rfl) (by kernel_rfl) (held4d hS0) ?_
   clear hS0
   repeat (first
    | go_big_quiet_skip
    | (go_big_quiet_want;go_big_quiet_op;go_big_quiet_on)
    |
     go_big_quiet_want
     apply Exists.intro
     refine ⟨fun w' hw' => ?_,?_⟩
     ·unfold Oper.quietAt
      have hqs:=hw'
      obtain ⟨hq0,hq1,hq2,hq3,hqb,hql⟩:=hw'
      try go_simp
      first
       | with_reducible rfl
       | exact ⟨rfl,rfl⟩
       | (go_at_call 144;refine (ref_Known _ _ _ _ hs).mono ?_;rintro e w2 ⟨rfl,hb2⟩;rw [hkn];exact ⟨rfl,held4 hqs hb2⟩)
     go_big_quiet_on
     try go_simp)
   refine wpQuiet_nil ?_;intro wq2;(try simp only [and_imp]);intro hq0 hq1 hq2 hq3 hb2 hql;clear hq0 hq1 hq2 hq3 hql
   have hW0:=HW0.out;clear HW0;subst hW0
   obtain ⟨hc2,hf2⟩:=bcell hb2;(try simp only [bqh,bqc,bqf] at hc2 hf2);have hz2:=hb2.size;(try simp at hz2);(try have hy2:=nl1 hz2);(try have hx2:=nl2 hy2)
   go_wp2_with fail
   go_ret
   exact ⟨rfl,bel⟩
end Go.Proofs.YtbhkpepinogigaaGreat
