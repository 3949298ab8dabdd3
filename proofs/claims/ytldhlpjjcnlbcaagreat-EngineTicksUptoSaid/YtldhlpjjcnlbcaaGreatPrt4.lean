/- Texts merged (mergeh.py): Fld1 Ty Prt4. -/
import Derived.Test.YtldhlpjjcnlbcaaGreatTypes
import Derived.Test.YtldhlpjjcnlbcaaGreatLexName
import Derived.Deep.QuietTactic
import Derived.BigQuiet
import Derived.Test.YtldhlpjjcnlbcaaGreatBkw
import Derived.Test.YtldhlpjjcnlbcaaGreatPrt3
import Derived.Deep.DeepCutAuto
/- field.Find, field.Told and the references FieldAt, FieldTold. -/
set_option maxRecDepth 100000
set_option maxHeartbeats 8000000
namespace Go.Proofs.YtldhlpjjcnlbcaaGreat
open Go.RowKit
def z0a (name:ByteArray)(f:Fld):Bool:=f.name.toList==name.toList
def fieldAt (l:List Fld)(name:ByteArray):Nat:=firstAt (z0a name) l
theorem field_Find1 (name:ByteArray)(g:Nat)(fn:ByteArray)(fk ft op vk vn:Int)(vs nm:ByteArray)(X:Option Addr)(m C:Nat)(w:World)(h:w.cell? ⟨g,0,none⟩=some (.string name)) :
  Calls Tryz.prog 85 #[.agg #[.string fn,.int .i64 fk,.int .i64 ft,.int .i64 op,.int .i64 vk,.int .i64 vn,.string vs,.string nm,.slice X m C],.pointer (some ⟨g,0,none⟩)] w
   fun e w'=>e=.returned (.bool (fn.toList==name.toList))/\Below w.heap.size w w':=by
 have hg:=block_lt_of_cell h
 simp only at hg
 go_enter Tryz.func85,Tryz.ntmps85
 go_wp2
 go_ret
 exact⟨rfl,bel⟩
theorem zah (name:ByteArray)(g:Nat)(A:Option Addr)(n c:Nat)(l:List Fld)(w:World)(hn:inL n)(hg:w.cell? ⟨g,0,none⟩=some (.string name))(h:Sl w (old w) 9 (RFld w (old w)) A n l) :
  Calls Tryz.prog 84 #[.slice A n c,.func (.func 85) #[] #[.pointer (some ⟨g,0,none⟩)]] w
   fun e w'=>e=.returned (.int .i64 (idxOf (z0a name) l))/\Below w.heap.size w w':=by
 unfold inL at hn
 have hgl:=block_lt_of_cell hg
 simp only at hgl
 have HH:=zh (ai h hg)
 clear h hg
 go_enter Tryz.func84,Tryz.ntmps84
 go_wp2_with fail
 go_loopw [8] (fun i wr=>∃ k:Nat,k<=n/\i=.int .i64 k/\(l.take k).any (z0a name)=false/\Below w.heap.size w wr) (fun i _=>n-(intOf i).toNat)
 case atStart=>exact⟨0,by omega,rfl,by simp,Below.refl _ _⟩
 case round =>
  obtain⟨k,hk,rfl,hv,hb⟩:=hrel
  by_cases hlt:k<n
  ·obtain⟨b,o,x,X,C,rfl,_,hl,_,h0,h1,h2,h3,h4,h5,h6,h7,h8⟩:=z25 (HH.out.1.nowN z02 hb) hlt
   have hgr:=z00 HH.out.2 hb
   have HL:=zh (ai hl hv)
   clear hl hv
   cases hp:z0a name x
   ·have hp':(x.name.toList==name.toList)=false:=hp
    have HP:=zh hp
    clear hp
    go_wp2_with (refine (field_Find1 _ _ _ _ _ _ _ _ _ _ _ _ _ _ hgr).mono ?_;rintro e w1 ⟨rfl,hb1⟩)
    go_roundw
    case rel =>
     refine⟨k+1,by omega,by go_num,?_,bel⟩
     rw[List.take_add_one,HL.out.1,List.any_append,HL.out.2]
     simp[HP.out]
    case measure=>simp[intOf];omega
   have hp':(x.name.toList==name.toList)=true:=hp
   have HP:=zh hp
   clear hp
   go_wp2_with (refine (field_Find1 _ _ _ _ _ _ _ _ _ _ _ _ _ _ hgr).mono ?_;rintro e w1 ⟨rfl,hb1⟩)
   go_ret
   refine⟨z0n ?_,bel⟩
   have e1:=z1x (z0a name) l k x HL.out.1 HP.out HL.out.2
   have e2:l.any (z0a name)=true:=by
    rw[List.any_eq_true]
    exact⟨x,List.mem_of_getElem? HL.out.1,HP.out⟩
   rw[idxOf,if_pos e2,e1]
  have hke:k=n:=by omega
  subst hke
  have hl:l.take k=l:=by rw[List.take_of_length_le (by rw[HH.out.1.len];exact nr _)]
  rw[hl] at hv
  have HV:=zh hv
  clear hl hv
  go_wp2_with fail
  go_ret
  exact⟨z0n (by rw[idxOf,HV.out];rfl),hb⟩
def z1w (p:Fld->Bool)(l:List Fld):Int×Int:=if l.any p then ((firstAt p l:Int),0) else (0,5)
theorem z39 (A:Option Addr)(n c:Nat)(l:List Fld)(name:ByteArray)(w:World)(hn:inL n)(h:Sl w (old w) 9 (RFld w (old w)) A n l) :
  Calls Tryz.prog 51 #[.slice A n c,.string name] w
   fun e w'=>e=.returned (.tuple #[.int .i64 (z1w (z0a name) l).1,.int .i64 (z1w (z0a name) l).2])/\Below w.heap.size w w':=by
 have HH:=zh h
 clear h
 cases ha:l.any (z0a name)
 ·have h1:idxOf (z0a name) l=-1:=by rw[idxOf,ha];rfl
  have h2:z1w (z0a name) l=(0,5):=by rw[z1w,ha];rfl
  rw[h2]
  clear ha h2
  go_enter Tryz.func51,Tryz.ntmps51
  go_wp2_with (go_at_call 84;refine (zah name _ A n c l _ hn (by go_simp) (HH.out.nowN z02 bel)).mono ?_;rintro e w1 ⟨rfl,hb1⟩)
  go_ret2
  exact⟨rfl,bel⟩
 have h1:idxOf (z0a name) l=(firstAt (z0a name) l:Int):=by rw[idxOf,ha];rfl
 have h2:z1w (z0a name) l=((firstAt (z0a name) l:Int),0):=by rw[z1w,ha];rfl
 rw[h2]
 clear ha h2
 go_enter Tryz.func51,Tryz.ntmps51
 go_wp2_with (go_at_call 84;refine (zah name _ A n c l _ hn (by go_simp) (HH.out.nowN z02 bel)).mono ?_;rintro e w1 ⟨rfl,hb1⟩)
 go_ret2
 exact⟨rfl,bel⟩
def z19 (l:List Fld)(name:ByteArray)(v:Val):Int :=
 match l.find? (z0a name) with
 | none=>5
 | some f=>if f.kind=1 then if z0b v=true/\v.k=f.type then 0 else 9 else 2
theorem z98 (A:Option Addr)(n c:Nat)(l:List Fld)(name:ByteArray)(vk vn:Int)(vs:ByteArray)(w:World)(hn:inL n)(h:Sl w (old w) 9 (RFld w (old w)) A n l)(hs:vs.size<=maxLen) :
  Calls Tryz.prog 47 #[.slice A n c,.string name,.agg #[.int .i64 vk,.int .i64 vn,.string vs]] w
   fun e w'=>e=.returned (.int .i64 (z19 l name ⟨vk,vn,vs⟩))/\Below w.heap.size w w':=by
 have HH:=zh h
 clear h
 have hlen:l.length=n:=HH.out.len
 cases ha:l.any (z0a name)
 ·have h2:z1w (z0a name) l=(0,5):=by rw[z1w,ha];rfl
  have h3:z19 l name ⟨vk,vn,vs⟩=5:=by rw[z19,z5e _ _ ha]
  rw[h3]
  have h21:(z1w (z0a name) l).1=0:=by rw[h2]
  have h22:(z1w (z0a name) l).2=5:=by rw[h2]
  clear ha h2 h3 hlen
  go_enter Tryz.func47,Tryz.ntmps47
  go_wp2_with (go_at_call 51;refine (z39 _ _ _ l _ _ hn (HH.out.nowN z02 bel)).mono ?_;rintro e w1 ⟨rfl,hb1⟩;refine zb hb1 ?_;rintro ⟨hc1,hf1⟩ hz1 hy1 hx1;refine szz w1 w ?_;intros)
  go_ret
  exact⟨rfl,bel⟩
 obtain⟨f,hf1,hf2,hf3⟩:=z9s _ _ ha
 have h2:z1w (z0a name) l=((firstAt (z0a name) l:Int),0):=by rw[z1w,ha];rfl
 have h3:z19 l name ⟨vk,vn,vs⟩=if f.kind=1 then if z0b ⟨vk,vn,vs⟩=true/\vk=f.type then 0 else 9 else 2:=by rw[z19,hf2]
 have h21:(z1w (z0a name) l).1=(firstAt (z0a name) l:Int):=by rw[h2]
 have h22:(z1w (z0a name) l).2=0:=by rw[h2]
 generalize firstAt (z0a name) l=k at *
 have hk:k<n:=by omega
 obtain⟨b,o,f',X,C,rfl,hold,hl,_,c0,c1,c2,c3,c4,c5,c6,c7,c8⟩:=z25 HH.out hk
 rw[hf1] at hl
 cases hl
 have hold':b<w.heap.size:=hold
 rw[h3]
 have hn':=hn
 unfold inL at hn'
 clear ha h2 h3 hlen hf1 hf2 hf3
 by_cases hk1:f.kind=1
 case neg =>
  have hk1':(f.kind != 1)=true:=by simpa using hk1
  rw[if_neg hk1]
  clear hk1
  go_enter Tryz.func47,Tryz.ntmps47
  go_wp2_with (first | (go_at_call 51;refine (z39 _ _ _ l _ _ hn (HH.out.nowN z02 bel)).mono ?_;rintro e w1 ⟨rfl,hb1⟩;refine zb hb1 ?_;rintro ⟨hc1,hf1⟩ hz1 hy1 hx1;refine szz w1 w ?_;intros))
  go_ret
  exact⟨rfl,bel⟩
 have hk1':(f.kind != 1)=false:=by simpa using hk1
 rw[if_pos hk1]
 have HK1:=zh hk1
 clear hk1
 cases hkn:z0b ⟨vk,vn,vs⟩
 ·rw[if_neg (by simp)]
  go_enter Tryz.func47,Tryz.ntmps47
  go_wp2_with (first | (go_at_call 51;refine (z39 _ _ _ l _ _ hn (HH.out.nowN z02 bel)).mono ?_;rintro e w1 ⟨rfl,hb1⟩;refine zb hb1 ?_;rintro ⟨hc1,hf1⟩ hz1 hy1 hx1;refine szz w1 w ?_;intros))
  refine z0k ?_;intro W0 hW0
  have hS0:W0.cell? ⟨w.heap.size,0,none⟩=some (.int .i64 vk)/\W0.cell? ⟨w.heap.size,1,none⟩=some (.int .i64 vn)/\W0.cell? ⟨w.heap.size,2,none⟩=some (.string vs)/\Below W0.heap.size W0 W0/\W0.heap.size<=W0.heap.size:=⟨by rw[hW0];go_simp,by rw[hW0];go_simp,by rw[hW0];go_simp,Below.refl _ _,nr _⟩
  have HW0:=zh hW0;clear hW0
  refine wp_quietC (C:=fun w'=>w'.cell? ⟨w.heap.size,0,none⟩=some (.int .i64 vk)/\w'.cell? ⟨w.heap.size,1,none⟩=some (.int .i64 vn)/\w'.cell? ⟨w.heap.size,2,none⟩=some (.string vs)/\Below W0.heap.size W0 w'/\W0.heap.size<=w'.heap.size) (by kernel_rfl) (by kernel_rfl) (held3d hS0) ?_
  clear hS0
  repeat (first
   | go_big_quiet_skip
   | (go_big_quiet_want;go_big_quiet_op;go_big_quiet_on)
   |
    go_big_quiet_want
    apply Exists.intro
    refine⟨fun w' hw'=>?_,?_⟩
    ·unfold Oper.quietAt
     have hqs:=hw'
     obtain⟨hq0,hq1,hq2,hqb,hql⟩:=hw'
     try go_simp
     first
      | with_reducible rfl
      | exact⟨rfl,rfl⟩
      | (go_at_call 83;refine (z0q _ _ _ _ hs).mono ?_;rintro e w2 ⟨rfl,hb2⟩;rw[hkn];exact⟨rfl,held3 hqs hb2⟩)
    go_big_quiet_on
    try go_simp)
  refine wpQuiet_nil ?_;intro wq2;(try simp only[and_imp]);intro hq0 hq1 hq2 hb2 hql;clear hq0 hq1 hq2 hql
  have hW0:=HW0.out;clear HW0;subst hW0
  refine zb hb2 ?_;rintro ⟨hc2,hf2⟩ hz2 hy2 hx2
  go_wp2_with fail
  go_ret
  exact⟨rfl,bel⟩
 by_cases ht:vk=f.type
 ·have ht':(vk != f.type)=false:=by simpa using ht
  rw[if_pos ⟨rfl,ht⟩]
  have HT:=zh ht
  clear ht
  go_enter Tryz.func47,Tryz.ntmps47
  go_wp2_with (first | (go_at_call 51;refine (z39 _ _ _ l _ _ hn (HH.out.nowN z02 bel)).mono ?_;rintro e w1 ⟨rfl,hb1⟩;refine zb hb1 ?_;rintro ⟨hc1,hf1⟩ hz1 hy1 hx1;refine szz w1 w ?_;intros))
  refine z0k ?_;intro W0 hW0
  have hS0:W0.cell? ⟨w.heap.size,0,none⟩=some (.int .i64 vk)/\W0.cell? ⟨w.heap.size,1,none⟩=some (.int .i64 vn)/\W0.cell? ⟨w.heap.size,2,none⟩=some (.string vs)/\W0.cell? ⟨b,o+k*9+2,none⟩=some (.int .i64 f.type)/\Below W0.heap.size W0 W0/\W0.heap.size<=W0.heap.size:=⟨by rw[hW0];go_simp,by rw[hW0];go_simp,by rw[hW0];go_simp,by rw[hW0];go_simp,Below.refl _ _,nr _⟩
  have HW0:=zh hW0;clear hW0
  go_region_held3 (fun w'=>w'.cell? ⟨w.heap.size,0,none⟩=some (.int .i64 vk)/\w'.cell? ⟨w.heap.size,1,none⟩=some (.int .i64 vn)/\w'.cell? ⟨w.heap.size,2,none⟩=some (.string vs)/\w'.cell? ⟨b,o+k*9+2,none⟩=some (.int .i64 f.type)/\Below W0.heap.size W0 w'/\W0.heap.size<=w'.heap.size) (first | exact held4d (by assumption) | exact held4 (by assumption) (by assumption) | assumption | exact held4o hS0 bel) (first | (go_at_call 83;refine (z0q _ _ _ _ hs).mono ?_;rintro e w2 ⟨rfl,hb2⟩))
  all_goals
   obtain⟨_,_,_,_,hb2,_⟩:=held4i (by assumption)
   have hW0:=HW0.out;clear hS0 HW0;subst hW0
   refine zb hb2 ?_;rintro ⟨hc2,hf2⟩ hz2 hy2 hx2
  go_wp2_with fail
  go_ret
  exact⟨rfl,bel⟩
 have ht':(vk != f.type)=true:=by simpa using ht
 rw[if_neg (fun h=>ht h.2)]
 have HT:=zh ht
 clear ht
 go_enter Tryz.func47,Tryz.ntmps47
 go_wp2_with (first | (go_at_call 51;refine (z39 _ _ _ l _ _ hn (HH.out.nowN z02 bel)).mono ?_;rintro e w1 ⟨rfl,hb1⟩;refine zb hb1 ?_;rintro ⟨hc1,hf1⟩ hz1 hy1 hx1;refine szz w1 w ?_;intros))
 refine z0k ?_;intro W0 hW0
 have hS0:W0.cell? ⟨w.heap.size,0,none⟩=some (.int .i64 vk)/\W0.cell? ⟨w.heap.size,1,none⟩=some (.int .i64 vn)/\W0.cell? ⟨w.heap.size,2,none⟩=some (.string vs)/\W0.cell? ⟨b,o+k*9+2,none⟩=some (.int .i64 f.type)/\Below W0.heap.size W0 W0/\W0.heap.size<=W0.heap.size:=⟨by rw[hW0];go_simp,by rw[hW0];go_simp,by rw[hW0];go_simp,by rw[hW0];go_simp,Below.refl _ _,nr _⟩
 have HW0:=zh hW0;clear hW0
 go_region_held3 (fun w'=>w'.cell? ⟨w.heap.size,0,none⟩=some (.int .i64 vk)/\w'.cell? ⟨w.heap.size,1,none⟩=some (.int .i64 vn)/\w'.cell? ⟨w.heap.size,2,none⟩=some (.string vs)/\w'.cell? ⟨b,o+k*9+2,none⟩=some (.int .i64 f.type)/\Below W0.heap.size W0 w'/\W0.heap.size<=w'.heap.size) (first | exact held4d (by assumption) | exact held4 (by assumption) (by assumption) | assumption | exact held4o hS0 bel) (first | (go_at_call 83;refine (z0q _ _ _ _ hs).mono ?_;rintro e w2 ⟨rfl,hb2⟩))
 all_goals
  obtain⟨_,_,_,_,hb2,_⟩:=held4i (by assumption)
  have hW0:=HW0.out;clear hS0 HW0;subst hW0
  refine zb hb2 ?_;rintro ⟨hc2,hf2⟩ hz2 hy2 hx2
 go_wp2_with fail
 go_ret
 exact⟨rfl,bel⟩
theorem z2n (A:Option Addr)(n c:Nat)(l:List Fld)(name:ByteArray)(w:World)(hn:inL n)(h:Sl w (old w) 9 (RFld w (old w)) A n l) :
  Calls Tryz.prog 53 #[.slice A n c,.string name] w
   fun e w'=>e=.returned (.int .i64 (firstAt (z0a name) l:Int))/\Below w.heap.size w w':=by
 unfold inL at hn
 have HH:=zh h
 clear h
 go_enter Tryz.func53,Tryz.ntmps53
 go_wp2_with fail
 go_loopw [9] (fun i wr=>∃ k:Nat,k<=n/\i=.int .i64 k/\(l.take k).any (z0a name)=false/\Below w.heap.size w wr) (fun i _=>n-(intOf i).toNat)
 case atStart=>exact⟨0,by omega,rfl,by simp,Below.refl _ _⟩
 case round =>
  obtain⟨k,hk,rfl,hv,hb⟩:=hrel
  by_cases hlt:k<n
  ·obtain⟨b,o,x,X,C,rfl,_,hl,_,h0,h1,h2,h3,h4,h5,h6,h7,h8⟩:=z25 (HH.out.nowN z02 hb) hlt
   have HL:=zh (ai hl hv)
   clear hl hv
   cases hp:z0a name x
   ·have hp':(x.name.toList==name.toList)=false:=hp
    have HP:=zh hp
    clear hp
    go_wp2_with fail
    go_roundw
    case rel =>
     refine⟨k+1,by omega,by go_num,?_,bel⟩
     rw[List.take_add_one,HL.out.1,List.any_append,HL.out.2]
     simp[HP.out]
    case measure=>simp[intOf];omega
   have hp':(x.name.toList==name.toList)=true:=hp
   have HP:=zh hp
   clear hp
   go_wp2_with fail
   go_ret
   refine⟨z0n ?_,bel⟩
   rw[z1x (z0a name) l k x HL.out.1 HP.out HL.out.2]
  have hke:k=n:=by omega
  subst hke
  have hl:l.take k=l:=by rw[List.take_of_length_le (by rw[HH.out.len];exact nr _)]
  rw[hl] at hv
  have HV:=zh hv
  clear hl hv
  go_wp2_with fail
  go_ret
  exact⟨z0n (by rw[z2c _ _ HV.out,HH.out.len]),hb⟩
theorem z7u (A:Option Addr)(n c:Nat)(l:List Fld)(name:ByteArray)(vk vn:Int)(vs:ByteArray)(w:World)(hn:inL n)(h:Sl w (old w) 9 (RFld w (old w)) A n l)(hs:vs.size<=maxLen) :
  Calls Tryz.prog 50 #[.slice A n c,.string name,.agg #[.int .i64 vk,.int .i64 vn,.string vs]] w
   fun e w'=>e=.returned (.int .i64 (z19 l name ⟨vk,vn,vs⟩))/\Below w.heap.size w w':=by
 have HH:=zh h
 clear h
 have hlen:l.length=n:=HH.out.len
 cases ha:l.any (z0a name)
 ·have h3:z19 l name ⟨vk,vn,vs⟩=5:=by rw[z19,z5e _ _ ha]
  have h2:firstAt (z0a name) l=n:=by rw[z2c _ _ ha,hlen]
  rw[h3]
  clear ha h3 hlen
  go_enter Tryz.func50,Tryz.ntmps50
  go_wp2_with (go_at_call 53;refine (z2n _ _ _ l _ _ hn (HH.out.nowN z02 bel)).mono ?_;rintro e w1 ⟨rfl,hb1⟩;refine zb hb1 ?_;rintro ⟨hc1,hf1⟩ hz1 hy1 hx1;refine szz w1 w ?_;intros)
  go_ret
  exact⟨rfl,bel⟩
 obtain⟨f,hf1,hf2,hf3⟩:=z9s _ _ ha
 have h3:z19 l name ⟨vk,vn,vs⟩=if f.kind=1 then if z0b ⟨vk,vn,vs⟩=true/\vk=f.type then 0 else 9 else 2:=by rw[z19,hf2]
 generalize hfi:firstAt (z0a name) l=k at *
 have hk:k<n:=by omega
 obtain⟨b,o,f',X,C,rfl,hold,hl,_,c0,c1,c2,c3,c4,c5,c6,c7,c8⟩:=z25 HH.out hk
 rw[hf1] at hl
 cases hl
 have hold':b<w.heap.size:=hold
 rw[h3]
 have hn':=hn
 unfold inL at hn'
 have hkn':((k:Int)==(n:Int))=false:=by simp;omega
 clear ha h3 hlen hf1 hf2 hf3
 by_cases hk1:f.kind=1
 case neg =>
  have hk1':(f.kind != 1)=true:=by simpa using hk1
  rw[if_neg hk1]
  clear hk1
  go_enter Tryz.func50,Tryz.ntmps50
  go_wp2_with (go_at_call 53;refine (z2n _ _ _ l _ _ hn (HH.out.nowN z02 bel)).mono ?_;rintro e w1 ⟨rfl,hb1⟩;refine zb hb1 ?_;rintro ⟨hc1,hf1⟩ hz1 hy1 hx1;refine szz w1 w ?_;intros)
  go_ret
  exact⟨rfl,bel⟩
 have hk1':(f.kind != 1)=false:=by simpa using hk1
 rw[if_pos hk1]
 have HK1:=zh hk1
 clear hk1
 by_cases ht:vk=f.type
 case neg =>
  have ht':(vk != f.type)=true:=by simpa using ht
  rw[if_neg (fun h=>ht h.2)]
  clear ht
  go_enter Tryz.func50,Tryz.ntmps50
  go_wp2_with (go_at_call 53;refine (z2n _ _ _ l _ _ hn (HH.out.nowN z02 bel)).mono ?_;rintro e w1 ⟨rfl,hb1⟩;refine zb hb1 ?_;rintro ⟨hc1,hf1⟩ hz1 hy1 hx1;refine szz w1 w ?_;intros)
  refine z0k ?_;intro W0 hW0
  have hS0:W0.cell? ⟨w.heap.size,0,none⟩=some (.int .i64 vk)/\W0.cell? ⟨w.heap.size,1,none⟩=some (.int .i64 vn)/\W0.cell? ⟨w.heap.size,2,none⟩=some (.string vs)/\W0.cell? ⟨b,o+k*9+2,none⟩=some (.int .i64 f.type)/\Below W0.heap.size W0 W0/\W0.heap.size<=W0.heap.size:=⟨by rw[hW0];go_simp,by rw[hW0];go_simp,by rw[hW0];go_simp,by rw[hW0];go_simp,Below.refl _ _,nr _⟩
  have HW0:=zh hW0;clear hW0
  refine wp_quietC (C:=fun w'=>w'.cell? ⟨w.heap.size,0,none⟩=some (.int .i64 vk)/\w'.cell? ⟨w.heap.size,1,none⟩=some (.int .i64 vn)/\w'.cell? ⟨w.heap.size,2,none⟩=some (.string vs)/\w'.cell? ⟨b,o+k*9+2,none⟩=some (.int .i64 f.type)/\Below W0.heap.size W0 w'/\W0.heap.size<=w'.heap.size) (by kernel_rfl) (by kernel_rfl) (held4d hS0) ?_
  clear hS0
  repeat (first
   | go_big_quiet_skip
   | (go_big_quiet_want;go_big_quiet_op;go_big_quiet_on)
   |
    go_big_quiet_want
    apply Exists.intro
    refine⟨fun w' hw'=>?_,?_⟩
    ·unfold Oper.quietAt
     have hqs:=hw'
     obtain⟨hq0,hq1,hq2,hq3,hqb,hql⟩:=hw'
     try go_simp
     first
      | with_reducible rfl
      | exact⟨rfl,rfl⟩
    go_big_quiet_on
    try go_simp)
  refine wpQuiet_nil ?_;intro wq2;(try simp only[and_imp]);intro hq0 hq1 hq2 hq3 hb2 hql;clear hq0 hq1 hq2 hq3 hql
  have hW0:=HW0.out;clear HW0;subst hW0
  refine zb hb2 ?_;rintro ⟨hc2,hf2⟩ hz2 hy2 hx2
  go_wp2_with fail
  go_ret
  exact⟨rfl,bel⟩
 have ht':(vk != f.type)=false:=by simpa using ht
 have HT:=zh ht
 clear ht
 cases hkn:z0b ⟨vk,vn,vs⟩
 ·rw[if_neg (by simp)]
  go_enter Tryz.func50,Tryz.ntmps50
  go_wp2_with (go_at_call 53;refine (z2n _ _ _ l _ _ hn (HH.out.nowN z02 bel)).mono ?_;rintro e w1 ⟨rfl,hb1⟩;refine zb hb1 ?_;rintro ⟨hc1,hf1⟩ hz1 hy1 hx1;refine szz w1 w ?_;intros)
  refine z0k ?_;intro W0 hW0
  have hS0:W0.cell? ⟨w.heap.size,0,none⟩=some (.int .i64 vk)/\W0.cell? ⟨w.heap.size,1,none⟩=some (.int .i64 vn)/\W0.cell? ⟨w.heap.size,2,none⟩=some (.string vs)/\W0.cell? ⟨b,o+k*9+2,none⟩=some (.int .i64 f.type)/\Below W0.heap.size W0 W0/\W0.heap.size<=W0.heap.size:=⟨by rw[hW0];go_simp,by rw[hW0];go_simp,by rw[hW0];go_simp,by rw[hW0];go_simp,Below.refl _ _,nr _⟩
  have HW0:=zh hW0;clear hW0
  refine wp_quietC (C:=fun w'=>w'.cell? ⟨w.heap.size,0,none⟩=some (.int .i64 vk)/\w'.cell? ⟨w.heap.size,1,none⟩=some (.int .i64 vn)/\w'.cell? ⟨w.heap.size,2,none⟩=some (.string vs)/\w'.cell? ⟨b,o+k*9+2,none⟩=some (.int .i64 f.type)/\Below W0.heap.size W0 w'/\W0.heap.size<=w'.heap.size) (by kernel_rfl) (by kernel_rfl) (held4d hS0) ?_
  clear hS0
  repeat (first
   | go_big_quiet_skip
   | (go_big_quiet_want;go_big_quiet_op;go_big_quiet_on)
   |
    go_big_quiet_want
    apply Exists.intro
    refine⟨fun w' hw'=>?_,?_⟩
    ·unfold Oper.quietAt
     have hqs:=hw'
     obtain⟨hq0,hq1,hq2,hq3,hqb,hql⟩:=hw'
     try go_simp
     first
      | with_reducible rfl
      | exact⟨rfl,rfl⟩
      | (go_at_call 74;refine (z1d _ _ _ _ hs).mono ?_;rintro e w2 ⟨rfl,hb2⟩;rw[hkn];exact⟨rfl,held4 hqs hb2⟩)
    go_big_quiet_on
    try go_simp)
  refine wpQuiet_nil ?_;intro wq2;(try simp only[and_imp]);intro hq0 hq1 hq2 hq3 hb2 hql;clear hq0 hq1 hq2 hq3 hql
  have hW0:=HW0.out;clear HW0;subst hW0
  refine zb hb2 ?_;rintro ⟨hc2,hf2⟩ hz2 hy2 hx2
  go_wp2_with fail
  go_ret
  exact⟨rfl,bel⟩
 rw[if_pos ⟨rfl,HT.out⟩]
 go_enter Tryz.func50,Tryz.ntmps50
 go_wp2_with (go_at_call 53;refine (z2n _ _ _ l _ _ hn (HH.out.nowN z02 bel)).mono ?_;rintro e w1 ⟨rfl,hb1⟩;refine zb hb1 ?_;rintro ⟨hc1,hf1⟩ hz1 hy1 hx1;refine szz w1 w ?_;intros)
 refine z0k ?_;intro W0 hW0
 have hS0:W0.cell? ⟨w.heap.size,0,none⟩=some (.int .i64 vk)/\W0.cell? ⟨w.heap.size,1,none⟩=some (.int .i64 vn)/\W0.cell? ⟨w.heap.size,2,none⟩=some (.string vs)/\W0.cell? ⟨b,o+k*9+2,none⟩=some (.int .i64 f.type)/\Below W0.heap.size W0 W0/\W0.heap.size<=W0.heap.size:=⟨by rw[hW0];go_simp,by rw[hW0];go_simp,by rw[hW0];go_simp,by rw[hW0];go_simp,Below.refl _ _,nr _⟩
 have HW0:=zh hW0;clear hW0
 refine wp_quietC (C:=fun w'=>w'.cell? ⟨w.heap.size,0,none⟩=some (.int .i64 vk)/\w'.cell? ⟨w.heap.size,1,none⟩=some (.int .i64 vn)/\w'.cell? ⟨w.heap.size,2,none⟩=some (.string vs)/\w'.cell? ⟨b,o+k*9+2,none⟩=some (.int .i64 f.type)/\Below W0.heap.size W0 w'/\W0.heap.size<=w'.heap.size) (by kernel_rfl) (by kernel_rfl) (held4d hS0) ?_
 clear hS0
 repeat (first
  | go_big_quiet_skip
  | (go_big_quiet_want;go_big_quiet_op;go_big_quiet_on)
  |
   go_big_quiet_want
   apply Exists.intro
   refine⟨fun w' hw'=>?_,?_⟩
   ·unfold Oper.quietAt
    have hqs:=hw'
    obtain⟨hq0,hq1,hq2,hq3,hqb,hql⟩:=hw'
    try go_simp
    first
     | with_reducible rfl
     | exact⟨rfl,rfl⟩
     | (go_at_call 74;refine (z1d _ _ _ _ hs).mono ?_;rintro e w2 ⟨rfl,hb2⟩;rw[hkn];exact⟨rfl,held4 hqs hb2⟩)
   go_big_quiet_on
   try go_simp)
 refine wpQuiet_nil ?_;intro wq2;(try simp only[and_imp]);intro hq0 hq1 hq2 hq3 hb2 hql;clear hq0 hq1 hq2 hq3 hql
 have hW0:=HW0.out;clear HW0;subst hW0
 refine zb hb2 ?_;rintro ⟨hc2,hf2⟩ hz2 hy2 hx2
 go_wp2_with fail
 go_ret
 exact⟨rfl,bel⟩
open Go.RowKit
def RetP (w:World)(r:Int×Int)(e:Ending)(w':World):Prop:=e=.returned (.tuple #[.int .i64 r.1,.int .i64 r.2])/\Below w.heap.size w w'
def z7e (l:List Fld)(name:ByteArray):Option Int:=(l.find? (z0a name)).map (·.type)
def tyApp (op:Int)(ts:List Int):Int×Int :=
 match z8l op with
 | some q=>if ts.all (·==q.1) then (q.2.2,0) else (0,9)
 | none=>if op=17 then (if (ts[0]?.getD 0==2&&ts[1]?.getD 0==ts[2]?.getD 0) then (ts[1]?.getD 0,0) else (0,9))
  else if ts[0]?.getD 0==ts[1]?.getD 0 then (2,0) else (0,9)
mutual
def tyX (l:List Fld):Exp->Int×Int
 | .mk op v name args=>if op=1 then (v.k,0) else if op=2 then (match z7e l name with | some t=>(t,0) | none=>(0,5))
  else match (tyL l args).find? (fun r=>r.2 != 0) with | some r=>(0,r.2) | none=>tyApp op ((tyL l args).map (·.1))
def tyL (l:List Fld):List Exp->List (Int×Int)
 | []=>[]
 | a::r=>tyX l a::tyL l r
end
theorem tyL_map (l:List Fld):∀ xs,tyL l xs=xs.map (tyX l)
 | []=>by simp[tyL]
 | a::r=>by simp[tyL,tyL_map l r]
theorem tyX_const (l:List Fld){x:Exp}(h:x.op=1):tyX l x=(x.v.k,0):=by
 obtain⟨op,v,nm,args⟩:=x
 have h':op=1:=h
 simp[tyX,h',Exp.v]
theorem tyX_ref (l:List Fld){x:Exp}(h:x.op=2):tyX l x=(match z7e l x.name with | some t=>(t,0) | none=>(0,5)):=by
 obtain⟨op,v,nm,args⟩:=x
 have h':op=2:=h
 simp[tyX,h',Exp.name]
theorem tyX_app (l:List Fld){x:Exp}(h1:x.op≠1)(h2:x.op≠2):tyX l x=(match (x.args.map (tyX l)).find? (fun r=>r.2 != 0) with | some r=>(0,r.2) | none=>tyApp x.op ((x.args.map (tyX l)).map (·.1))):=by
 obtain⟨op,v,nm,args⟩:=x
 have h1':op≠1:=h1
 have h2':op≠2:=h2
 simp only[tyX,h1',h2',if_false,tyL_map]
 rfl
theorem tyX_err (l:List Fld){x a:Exp}{k:Nat}(h1:x.op≠1)(h2:x.op≠2)(hz:∀ a∈x.args.take k,(tyX l a).2=0)(ha:x.args[k]?=some a)(he:(tyX l a).2≠0):tyX l x=(0,(tyX l a).2):=by
 rw[tyX_app l h1 h2]
 have hk:k<x.args.length:=(List.getElem?_eq_some_iff.1 ha).1
 have hka:x.args[k]=a:=by rw[gq hk] at ha;exact Option.some.inj ha
 have e1:x.args=x.args.take k++a::x.args.drop (k+1):=by rw[<-hka,<-List.drop_eq_getElem_cons hk,List.take_append_drop]
 have e2:(x.args.map (tyX l)).find? (fun r=>r.2 != 0)=some (tyX l a):=by
  rw[e1,List.map_append,List.find?_append,List.find?_eq_none.2 (fun r hr=>by
   obtain⟨b,hb,rfl⟩:=List.mem_map.1 hr
   simp[hz b hb])]
  simp[he]
 rw[e2]
theorem tyX_all (l:List Fld){x:Exp}(h1:x.op≠1)(h2:x.op≠2)(hz:∀ a∈x.args,(tyX l a).2=0):tyX l x=tyApp x.op (x.args.map fun a=>(tyX l a).1):=by
 rw[tyX_app l h1 h2]
 have e2:(x.args.map (tyX l)).find? (fun r=>r.2 != 0)=none:=List.find?_eq_none.2 (fun r hr=>by
  obtain⟨b,hb,rfl⟩:=List.mem_map.1 hr
  simp[hz b hb])
 rw[e2,List.map_map]
 rfl
theorem z7n {x:Exp}(h:prtN x=0):1<=x.op/\x.op<=18/\(x.args.length:Int)=argsN x.op/\∀ a∈x.args,prtN a=0:=by
 rw[zd9] at h
 by_cases hp:partErr x.op x.v x.name x.args.length=0
 ·rw[if_pos hp] at h
  unfold partErr at hp
  by_cases ho:x.op<1\/18<x.op
  ·rw[if_pos ho] at hp;cases hp
  rw[if_neg ho] at hp
  have hk:z2d x.op x.v x.name x.args.length=true:=by
   cases hq:z2d x.op x.v x.name x.args.length
   ·rw[hq] at hp;simp at hp
   rfl
  unfold z2d at hk
  simp only[Bool.and_eq_true,decide_eq_true_eq] at hk
  refine⟨by omega,by omega,hk.1,?_⟩
  have hall:∀ l:List Exp,prtL l=0->∀ a∈l,prtN a=0:=by
   intro l
   induction l with
   | nil=>intro _ a ha;cases ha
   | cons b r ih =>
    intro hl a ha
    rw[prtL] at hl
    by_cases hb:prtN b=0
    ·rw[if_pos hb] at hl
     rcases List.mem_cons.1 ha with rfl | ha
     ·exact hb
     exact ih hl a ha
    rw[if_neg hb] at hl;exact absurd hl hb
  exact hall _ h
 rw[if_neg hp] at h;exact absurd h hp
theorem zfo (name:ByteArray):∀ l:List Fld,zbh l.reverse (.string name.data.toList)=(z7e l name).map (fun t=>Value.int .i64 t)
 | []=>rfl
 | a::r=>by
  rw[List.reverse_cons,zgr]
  unfold z7e
  cases hn:z0a name a
  ·have hne:(Lit.string name.data.toList)≠.string a.name.data.toList:=by
    unfold z0a at hn
    rw[ByteArray.toList_eq,ByteArray.toList_eq] at hn
    intro e
    injection e with e
    simp[e] at hn
   rw[z3j hne,zfo name r,List.find?_cons_of_neg (by simp[hn])]
   rfl
  have he:(Lit.string name.data.toList)=.string a.name.data.toList:=by
   unfold z0a at hn
   rw[ByteArray.toList_eq,ByteArray.toList_eq] at hn
   rw[show name.data.toList=a.name.data.toList from (by simpa using hn:_=_).symm]
  rw[he,z4q (by simp[WideAt.IsKeyLit]),List.find?_cons_of_pos (by simp[hn])]
  rfl
theorem zdh {op wt own:Int}{m:Nat}(h:z8l op=some (wt,m,own)):(m:Int)=argsN op/\(wt=1\/wt=2\/wt=3)/\(m=1\/m=2):=by
 unfold z8l at h
 unfold argsN
 split at h
 ·cases h;subst op;simp
 split at h
 ·cases h;subst op;simp
 split at h
 ·cases h;subst op;simp
 split at h
 ·rename_i h4;cases h;rcases h4 with h4 | h4 | h4 | h4 | h4<;>subst h4<;>simp
 split at h
 ·cases h;subst op;simp
 split at h
 ·rename_i h6;cases h;rcases h6 with h6 | h6<;>subst h6<;>simp
 cases h
theorem zdg {op:Int}(h:z8l op=none)(h1:3<=op)(h2:op<=18):op=17\/(11<=op/\op<=14):=by
 rcases (by omega:op=3\/op=4\/op=5\/op=6\/op=7\/op=8\/op=9\/op=10\/op=15\/op=16\/op=18\/op=17\/(11<=op/\op<=14)) with e | e | e | e | e | e | e | e | e | e | e | e | e
 all_goals first | exact .inl e | exact .inr e | (subst e;exact absurd h (by decide))
theorem tyApp_known {op wt own:Int}{m:Nat}{ts:List Int}(h:z8l op=some (wt,m,own))(hl:ts.length=m):tyApp op ts=if (ts.take m==[wt,wt].take m) then (own,0) else (0,9):=by
 have hm:=(zdh h).2.2
 unfold tyApp
 rw[h]
 have e:ts.all (·==wt)=(ts.take m==[wt,wt].take m):=by
  rcases hm with rfl | rfl
  ·match ts,hl with
   | [a],_=>simp
  match ts,hl with
  | [a,b],_=>simp
 show (if ts.all (·==wt)=true then _ else _)=_
 rw[e]
theorem tyApp_if {op a b c:Int}(h:op=17):tyApp op [a,b,c]=if (a==2&&b==c) then (b,0) else (0,9):=by
 subst h;rfl
theorem tyApp_cmp {op a b:Int}(h:11<=op/\op<=14):tyApp op [a,b]=if a==b then (2,0) else (0,9):=by
 have h1:z8l op=none:=by
  rcases (by omega:op=11\/op=12\/op=13\/op=14) with rfl | rfl | rfl | rfl<;>rfl
 unfold tyApp
 rw[h1]
 have h2:op≠17:=by omega
 simp[h2]
theorem Rules.row {w:World}{b g:Nat}(h:Rules w b g){wt:Int}(hw:wt=1\/wt=2\/wt=3):Row3 w (g+(wt.toNat - 1)) wt:=by
 rcases hw with rfl | rfl | rfl
 ·exact h.2.1
 ·exact h.2.2.1
 exact h.2.2.2.1
open Go.RowKit
theorem ref_partFault (N:Nat):∀ (x:Exp)(A:Option Addr)(c:Nat)(w:World),x.nodes<=N ->
  XRep w (old w) [.int .i64 x.op,.int .i64 x.v.k,.int .i64 x.v.n,.string x.v.s,.string x.name,.slice A x.args.length c] x ->
  Calls Tryz.prog 167 #[.agg #[.int .i64 x.op,.int .i64 x.v.k,.int .i64 x.v.n,.string x.v.s,.string x.name,.slice A x.args.length c]] w (RetI w (prtN x)):=by
 induction N with
 | zero =>
  intro x A c w hN
  obtain⟨op,v,nm,args⟩:=x
  simp[Exp.nodes] at hN
 | succ N ih =>
  intro x A c w hN hx
  have HI:=zh ih
  clear ih
  obtain⟨i1,i2,i3,i4,i5,hsl,hch⟩:=hx.kids
  have HH:=zh (ai hsl (fun i a h=>by have:=hch i a h;omega:∀ (i:Nat) (a:Exp),x.args[i]?=some a->a.nodes<=N))
  have hlen:x.args.length<=1759218604416:=by unfold inB at i4;omega
  have hvs:=z0s i2.2.2
  have hnm:=z0s i3
  have hpn:=zd9 x
  clear hsl hch hx hN i1 i2 i3 i4 i5
  by_cases ho:x.op<1\/18<x.op
  ·rw[partErr_out ho,if_neg (by decide)] at hpn
   rw[hpn]
   clear hpn
   rcases ho with ho | ho
   ·go_enter Tryz.func167,Tryz.ntmps167
    go_wp2_with fail
    go_ret
    exact⟨rfl,bel⟩
   have ho':¬ x.op<1:=by omega
   go_enter Tryz.func167,Tryz.ntmps167
   go_wp2_with fail
   go_ret
   exact⟨rfl,bel⟩
  have ho1:¬ x.op<1:=by omega
  have ho2:¬ 18<x.op:=by omega
  rw[partErr_in ho] at hpn
  have HPN:=zh hpn
  clear ho hpn
  generalize prtN x=R at HPN ⊢
  go_enter Tryz.func167,Tryz.ntmps167
  go_wp2_with fail
  refine z0k ?_;intro W0 hW0
  have hS0:W0.cell? ⟨w.heap.size,5,none⟩=some (.slice A x.args.length c)/\W0.cell? ⟨w.heap.size,0,none⟩=some (.int .i64 x.op)/\Below W0.heap.size W0 W0/\W0.heap.size<=W0.heap.size:=⟨by rw[hW0];go_simp,by rw[hW0];go_simp,Below.refl _ _,nr _⟩
  have HW0:=zh hW0;clear hW0
  refine wp_quietC (C:=fun w'=>w'.cell? ⟨w.heap.size,5,none⟩=some (.slice A x.args.length c)/\w'.cell? ⟨w.heap.size,0,none⟩=some (.int .i64 x.op)/\Below W0.heap.size W0 w'/\W0.heap.size<=w'.heap.size) (by kernel_rfl) (by kernel_rfl) (held2d hS0) ?_
  clear hS0
  repeat (first
   | go_big_quiet_skip
   | (go_big_quiet_want;go_big_quiet_op;go_big_quiet_on)
   |
    go_big_quiet_want
    apply Exists.intro
    refine⟨fun w' hw'=>?_,?_⟩
    ·unfold Oper.quietAt
     have hqs:=hw'
     obtain⟨hq0,hq1,hqb,hql⟩:=hw'
     try go_simp
     first
      | with_reducible rfl
      | exact⟨rfl,rfl⟩
      | (go_at_call 192;refine Calls.mono (ref_argsOf _ _) ?_;rintro e w' ⟨rfl,hb⟩;exact⟨rfl,held2 hqs hb⟩)
    go_big_quiet_on
    try go_simp)
  refine wpQuiet_nil ?_;intro wq9;(try simp only[and_imp]);intro hq0 hq1 hb9 hql;clear hq0 hq1 hql
  have hW0:=HW0.out;clear HW0;subst hW0
  refine zb hb9 ?_;rintro ⟨hc9,hf9⟩ hz9 hy9 hx9
  go_upto_if 24 with fail
  go_cut [3] (fun s3 wx=>s3=.bool (z2d x.op x.v x.name x.args.length)/\Below (w.alloc (.cells #[.int .i64 x.op,.int .i64 x.v.k,.int .i64 x.v.n,.string x.v.s,.string x.name,.slice A x.args.length c] 78)).heap.size (w.alloc (.cells #[.int .i64 x.op,.int .i64 x.v.k,.int .i64 x.v.n,.string x.v.s,.string x.name,.slice A x.args.length c] 78)) wx)
  case first =>
   have hzv:∀ {b:Bool},valEq x.v ⟨0,0,⟨#[]⟩⟩=b->valEq ⟨x.v.k,x.v.n,x.v.s⟩ ⟨0,0,⟨#[]⟩⟩=b:=fun h=>h
   by_cases hl:(x.args.length:Int)=argsN x.op
   ·have hl1:((x.args.length:Int)==argsN x.op)=true:=by simpa using hl
    by_cases e1:x.op=1
    ·have e1':(x.op==1)=true:=by simpa using e1
     rw[e1] at hl
     have e0:∀ {b:Bool},z2d 1 x.v x.name x.args.length=b->z2d x.op x.v x.name x.args.length=b:=fun h=>by rw[e1];exact h
     clear e1
     rcases part_const (v:=x.v) (name:=x.name) hl with ⟨z,e⟩ | ⟨z,z2,e⟩ | ⟨z,z2,z3,z4,e⟩ | ⟨z,z2,z3,z4,e⟩ | ⟨z,z2,z3,e⟩
     all_goals
      have E:=zh (e0 e)
      try (have z':x.name.toList.isEmpty=false:=by simpa using z)
      try (have z':x.name.toList.isEmpty=true:=by simpa using z)
      try (have z3':(x.v.k != 1)=false:=by simpa using z3)
      try (have z3':(x.v.k != 1)=true:=by simpa using z3)
      try (have z4':¬ 0<=x.v.n:=by omega)
      try (have hkn:=fun w=>z1d x.v.k x.v.n x.v.s w hvs;rw[show (⟨x.v.k,x.v.n,x.v.s⟩:Val)=x.v from rfl] at hkn;simp only[z2] at hkn)
      try clear z3
      clear e hl e0
      generalize argsN x.op=q at hl1 ⊢
      first
       | (go_wp2_with (go_at_call 74;refine (hkn _).mono ?_;rintro e w2 ⟨rfl,hb2⟩;refine zb hb2 ?_;rintro ⟨hc2,hf2⟩ hz2 hy2 hx2;refine szz w2 w ?_;intros;refine szz w2 wq9 ?_;intros;);go_meet;exact⟨by first | (rw[E.out];done) | (rw[E.out];simp;omega) | (rw[E.out];simp;done),bel⟩)
       | (go_wp2_with fail;go_meet;exact⟨by first | (rw[E.out];done) | (rw[E.out];simp;omega) | (rw[E.out];simp;done),bel⟩)
    have e1':(x.op==1)=false:=by simpa using e1
    have hne:=fun w=>z1j w x.v.k x.v.n 0 0 x.v.s ⟨#[]⟩
    cases hv:valEq x.v ⟨0,0,⟨#[]⟩⟩
    ·have E:z2d x.op x.v x.name x.args.length=false:=by unfold z2d;rw[if_neg e1,hv];simp
     simp only[hzv hv] at hne
     have EE:=zh E
     clear hl hv E e1
     generalize argsN x.op=q at hl1 ⊢
     go_wp2_with fail
     go_meet
     exact⟨by rw[EE.out],bel⟩
    simp only[hzv hv] at hne
    by_cases e2:x.op=2
    ·have e2':(x.op==2)=true:=by simpa using e2
     have hlx:=fun w=>z8f x.name w hnm
     by_cases hc:nameCheck x.name=0
     ·have E:z2d x.op x.v x.name x.args.length=true:=by unfold z2d;rw[if_neg e1,hv,if_pos e2,decide_eq_true hl,decide_eq_true hc];rfl
      have EE:=zh E
      simp only[hc] at hlx
      clear hl hv E e1 e2 hc
      generalize argsN x.op=q at hl1 ⊢
      go_wp2_with (go_at_call 105;refine (hlx _).mono ?_;rintro e w2 ⟨rfl,hb2⟩;refine zb hb2 ?_;rintro ⟨hc2,hf2⟩ hz2 hy2 hx2)
      go_meet
      exact⟨by rw[EE.out],bel⟩
     have E:z2d x.op x.v x.name x.args.length=false:=by unfold z2d;rw[if_neg e1,hv,if_pos e2,decide_eq_true hl,decide_eq_false hc];rfl
     have EE:=zh E
     have hc':(nameCheck x.name==0)=false:=by simpa using hc
     have e2'':(x.op != 2)=false:=by simpa using e2
     clear hl hv E e1 e2 hc
     generalize argsN x.op=q at hl1 ⊢
     generalize nameCheck x.name=nc at hlx hc'
     go_wp2_with (go_at_call 105;refine (hlx _).mono ?_;rintro e w2 ⟨rfl,hb2⟩;refine zb hb2 ?_;rintro ⟨hc2,hf2⟩ hz2 hy2 hx2)
     go_meet
     exact⟨by rw[EE.out],bel⟩
    have e2':(x.op==2)=false:=by simpa using e2
    have e2'':(x.op != 2)=true:=by simpa using e2
    cases hm:x.name.toList.isEmpty
    all_goals
     have E:=zh (by unfold z2d;rw[if_neg e1,hv,if_neg e2,decide_eq_true hl,hm]:z2d x.op x.v x.name x.args.length=_)
     clear hl hv e1 e2
     generalize argsN x.op=q at hl1 ⊢
     go_wp2_with fail
     go_meet
     exact⟨by rw[E.out];rfl,bel⟩
   have hl1:((x.args.length:Int)==argsN x.op)=false:=by simpa using hl
   have E:z2d x.op x.v x.name x.args.length=false:=by unfold z2d;rw[decide_eq_false hl];rfl
   have EE:=zh E
   clear hl E
   generalize argsN x.op=q at hl1 ⊢
   cases e1':(x.op==1)
   all_goals
    go_wp2_with fail
    go_meet
    exact⟨by rw[EE.out],bel⟩
  case rest =>
   obtain⟨rfl,hbc⟩:=hcut
   have hW1:Below w.heap.size w wc:=z14 (by simpa using hbc)
   have hbx:wc.cell? ⟨w.heap.size,5,none⟩=some (.slice A x.args.length c):=(hbc.cell (p:=⟨w.heap.size,5,none⟩) (by simp)).trans (by go_simp)
   clear hc9 hf9
   cases hok:z2d x.op x.v x.name x.args.length
   ·have hr:=HPN.out
    simp only[hok,Bool.false_eq_true,if_false] at hr
    rw[if_neg (by decide)] at hr
    subst hr
    clear HPN
    go_wp2_with fail
    go_ret
    exact⟨rfl,bel⟩
   have hr:=HPN.out
   simp only[hok,if_true] at hr
   have HR:=zh hr.symm
   clear HPN hr
   go_wp2_with fail
   go_loopw [81] (fun i wr=>∃ k:Nat,k<=x.args.length/\i=.int .i64 k/\prtL (x.args.take k)=0/\Below wc.heap.size wc wr) (fun i _=>x.args.length-(intOf i).toNat)
   case atStart=>exact⟨0,by omega,rfl,by simp[prtL],Below.refl _ _⟩
   case round =>
    obtain⟨k,hk,rfl,hz,hbr⟩:=hrel
    have hbw:Below w.heap.size w wr:=z01 hW1 hbr hW1.size
    by_cases hlt:k<x.args.length
    ·obtain⟨b,o,a,X,C,hAe,hbl,hl,hxa,x0,x1,x2,x3,x4,x5⟩:=z1g (HH.out.1.nowN z0e hbw) hlt
     subst hAe
     have hbl':b<wr.heap.size:=hbl
     have HX:=zh (ai hxa (ai (HH.out.2 k a hl) (ai hl hz)))
     clear hxa hl hz hbl
     have hia:=fun w (h:XRep w (old w) [.int .i64 a.op,.int .i64 a.v.k,.int .i64 a.v.n,.string a.v.s,.string a.name,.slice X a.args.length C] a)=>HI.out a X C w HX.out.2.1 h
     by_cases hp:prtN a=0
     ·have hp':prtL (x.args.take (k+1))=0:=prtL_next HX.out.2.2.2 HX.out.2.2.1 hp
      have HP:=zh hp'
      simp only[hp] at hia
      clear hp hp'
      go_wp2_with (go_at_call 167;refine (hia _ (HX.out.1.keep (z05 bel))).mono ?_;rintro e w2 ⟨rfl,hb2⟩)
      go_roundw
      case rel=>exact⟨k+1,by omega,by go_num,HP.out,bel⟩
      case measure=>simp[intOf];omega
     have hr:prtL x.args=prtN a:=prtL_hit HX.out.2.2.2 HX.out.2.2.1 hp
     rw[HR.out] at hr
     have hp':(prtN a != 0)=true:=by simpa using hp
     rw[<-hr] at hp'
     simp only[<-hr] at hia
     clear hp hr
     go_wp2_with (go_at_call 167;refine (hia _ (HX.out.1.keep (z05 bel))).mono ?_;rintro e w2 ⟨rfl,hb2⟩)
     go_ret
     exact⟨rfl,bel⟩
    have hkn:k=x.args.length:=by omega
    subst hkn
    have etk:x.args.take x.args.length=x.args:=List.take_of_length_le (nr _)
    rw[etk,HR.out] at hz
    subst hz
    go_wp2_with fail
    go_ret
    exact⟨rfl,hbw⟩
theorem z33 (x:Exp)(A:Option Addr)(c:Nat)(w:World)(hx:XRep w (old w) [.int .i64 x.op,.int .i64 x.v.k,.int .i64 x.v.n,.string x.v.s,.string x.name,.slice A x.args.length c] x) :
  Calls Tryz.prog 126 #[.agg #[.int .i64 x.op,.int .i64 x.v.k,.int .i64 x.v.n,.string x.v.s,.string x.name,.slice A x.args.length c]] w (RetI w (exprErr x)):=by
 have HX:=zh hx
 have hpt:=fun w h=>ref_partFault _ x A c w (nr _) h
 have hsz:=fun w h=>zgj _ x A c w (nr _) h
 have he:exprErr x=if 60<szN x then 1 else if 12<dpN x then 4 else prtN x:=rfl
 clear hx
 generalize exprErr x=R at he ⊢
 generalize szN x=s at hsz he
 generalize dpN x=d at hsz he
 generalize prtN x=p at hpt he
 by_cases h1:60<s
 ·rw[if_pos h1] at he
  subst he
  go_enter Tryz.func126,Tryz.ntmps126
  go_wp2_with (go_at_call 166;refine (hsz _ (HX.out.keep (z05 bel))).mono ?_;rintro e w1 ⟨rfl,hb1⟩;refine zb hb1 ?_;rintro ⟨hc1,hf1⟩ hz1 hy1 hx1;refine szz w1 w ?_;intros)
  go_ret
  exact⟨rfl,bel⟩
 rw[if_neg h1] at he
 by_cases h2:12<d
 ·rw[if_pos h2] at he
  subst he
  go_enter Tryz.func126,Tryz.ntmps126
  go_wp2_with (go_at_call 166;refine (hsz _ (HX.out.keep (z05 bel))).mono ?_;rintro e w1 ⟨rfl,hb1⟩;refine zb hb1 ?_;rintro ⟨hc1,hf1⟩ hz1 hy1 hx1;refine szz w1 w ?_;intros)
  go_ret
  exact⟨rfl,bel⟩
 rw[if_neg h2] at he
 subst he
 go_enter Tryz.func126,Tryz.ntmps126
 go_wp2_with (first | (go_at_call 166;refine (hsz _ (HX.out.keep (z05 bel))).mono ?_;rintro e w1 ⟨rfl,hb1⟩;refine zb hb1 ?_;rintro ⟨hc1,hf1⟩ hz1 hy1 hx1;refine szz w1 w ?_;intros;) | (go_at_call 167;refine (hpt _ (HX.out.keep (z05 bel))).mono ?_;rintro e w2 ⟨rfl,hb2⟩))
 go_ret
 exact⟨rfl,bel⟩
end Go.Proofs.YtldhlpjjcnlbcaaGreat
