/- What engines become when an answer comes, when a field is told, when time goes by. Plain definitions and laws. -/
import Derived.Test.YtldhlpjjcnlbcaaGreatEng5
import Derived.Test.YtldhlpjjcnlbcaaGreatCall3
set_option maxRecDepth 100000
set_option maxHeartbeats 8000000
namespace Go.Proofs.YtldhlpjjcnlbcaaGreat
open Go.RowKit
theorem z85 {g:Eng}(h:engErr g=0):z2k g=0:=by
 unfold engErr at h
 by_cases h0:z2k g=0
 ·exact h0
 rw[if_pos h0] at h;exact absurd h h0
theorem facts_apart {F:List Fld}{l:List Fct}(h:factsCheck F l=0){k:Nat}{x:Fct}(hx:l[k]?=some x):(l.take k).any (z0y x.name)=false:=by
 have hk:=(List.getElem?_eq_some_iff.1 hx).1
 have h1:=z1n h k hk
 unfold z3k at h1
 rw[hx] at h1
 change (if z19 F x.name x.has=0 then (if valEq x.key ⟨0,0,⟨#[]⟩⟩ then (if (l.take k).any (z0y x.name) then 6 else 0) else 3) else z19 F x.name x.has)=0 at h1
 by_cases h2:z19 F x.name x.has=0
 ·rw[if_pos h2] at h1
  split at h1
  ·split at h1
   ·cases h1
   rename_i h3;simpa using h3
  cases h1
 rw[if_neg h2] at h1;exact absurd h1 h2
theorem facts_told {F:List Fld}{l:List Fct}(h:factsCheck F l=0){k:Nat}{x:Fct}(hx:l[k]?=some x):z19 F x.name x.has=0:=by
 have hk:=(List.getElem?_eq_some_iff.1 hx).1
 have h1:=z1n h k hk
 unfold z3k at h1
 rw[hx] at h1
 apply Classical.byContradiction
 intro h2
 change (if z19 F x.name x.has=0 then (if valEq x.key ⟨0,0,⟨#[]⟩⟩ then (if (l.take k).any (z0y x.name) then 6 else 0) else 3) else z19 F x.name x.has)=0 at h1
 rw[if_neg h2] at h1
 exact h2 h1
theorem facts_len {F:List Fld}{l:List Fct}(h:factsCheck F l=0):l.length<=F.length:=by
 have h1:(l.map fun x=>x.name.toList).Nodup:=by
  unfold List.Nodup
  rw[List.pairwise_iff_getElem]
  intro i j hi hj hij
  rw[List.length_map] at hi hj
  rw[List.getElem_map,List.getElem_map]
  have h2:=facts_apart h (gq hj)
  rw[List.any_eq_false] at h2
  intro he
  exact h2 l[i] (List.mem_of_getElem? (i:=i) (by rw[List.getElem?_take_of_lt hij];exact gq hi)) (by unfold z0y;rw[beq_iff_eq];exact he)
 have h2:(l.map fun x=>x.name.toList) ⊆ F.map fun f=>f.name.toList:=by
  intro a ha
  obtain⟨x,hx,rfl⟩:=List.mem_map.1 ha
  obtain⟨i,hi,rfl⟩:=List.mem_iff_getElem.1 hx
  have h3:=facts_told h (gq hi)
  unfold z19 at h3
  split at h3
  ·cases h3
  rename_i f hf
  have h4:=List.find?_some hf
  unfold z0a at h4
  rw[beq_iff_eq] at h4
  exact List.mem_map.2 ⟨f,List.mem_of_find?_eq_some hf,h4⟩
 have h3:=h1.length_le_of_subset h2
 rw[List.length_map,List.length_map] at h3
 exact h3
def mapTo {α:Type}(f:α->α)(l:List α)(k:Nat):List α:=(l.take k).map f++l.drop k
theorem mapTo_next {α:Type}{f:α->α}{l:List α}{k:Nat}{x:α}(hx:l[k]?=some x):mapTo f l (k+1)=(mapTo f l k).set k (f x):=by
 obtain⟨hk,rfl⟩:=List.getElem?_eq_some_iff.1 hx
 unfold mapTo
 rw[List.take_succ_eq_append_getElem hk,List.map_append,List.map_singleton,List.drop_eq_getElem_cons hk]
 have hl:((l.take k).map f).length=k:=by rw[List.length_map,List.length_take];omega
 rw[List.set_append_right _ _ (by omega),hl,Nat.sub_self,List.set_cons_zero,List.append_assoc]
 rfl
theorem mapTo_at {α:Type}{f:α->α}{l:List α}{k:Nat}:(mapTo f l k)[k]?=l[k]?:=by
 unfold mapTo
 by_cases hk:k<=l.length
 ·have hl:((l.take k).map f).length=k:=by rw[List.length_map,List.length_take];omega
  rw[List.getElem?_append_right (by omega),hl,Nat.sub_self,List.getElem?_drop,Nat.add_zero]
 rw[List.getElem?_eq_none (by rw[List.length_append,List.length_map,List.length_take,List.length_drop];omega),List.getElem?_eq_none (by omega)]
theorem mapTo_len {α:Type}{f:α->α}{l:List α}{k:Nat}:(mapTo f l k).length=l.length:=by
 unfold mapTo
 rw[List.length_append,List.length_map,List.length_take,List.length_drop];omega
theorem mapTo_all {α:Type}{f:α->α}{l:List α}{k:Nat}(h:l.length<=k):mapTo f l k=l.map f:=by
 unfold mapTo
 rw[List.take_of_length_le h,List.drop_eq_nil_of_le h,List.append_nil]
end Go.Proofs.YtldhlpjjcnlbcaaGreat
