/- What a shown text is: plain laws of the library's ReplaceAll at one byte. No program text is walked here. -/
import Derived.Test.YtldbpmlgbbomcaaGreatDoorTypes
import Derived.Lib.Replace
import Derived.Lib.SplitLaws
namespace Go.Proofs.YtldbpmlgbbomcaaGreatDoor

def escF (c:UInt8):List UInt8:=if c = 34 ∨ c = 92 then [92,c] else [c]
def escL (s:List UInt8):List UInt8:=s.flatMap escF
theorem flatMap_absent {a:UInt8} {new:List UInt8}:∀ {s:List UInt8},a ∉ s → s.flatMap (fun c => if c = a then new else [c]) = s
 | [],_ => rfl
 | b :: r,h => by
  have hb:b ≠ a:=fun e => h (by rw [e];exact List.mem_cons_self)
  rw [List.flatMap_cons,if_neg hb,flatMap_absent (fun hr => h (List.mem_cons_of_mem _ hr))]
  rfl
theorem occ_one {s:List UInt8} {a:UInt8} {j:Nat}:Lib.occAt s [a] j = true ↔ s[j]? = some a:=by
 unfold Lib.occAt
 rw [← List.head?_drop]
 cases s.drop j with
 | nil => simp
 | cons b r =>
  show (a == b && true) = true ↔ some b = some a
  rw [Bool.and_true,beq_iff_eq,Option.some.injEq]
  exact eq_comm
theorem replaceK_one (a:UInt8) (new:List UInt8):∀ (k:Nat) (s:List UInt8),s.count a ≤ k → Lib.replaceK [a] new k s = s.flatMap (fun c => if c = a then new else [c])
 | 0,s,h => by
  rw [flatMap_absent (List.count_eq_zero.1 (by omega))]
  rfl
 | k + 1,s,h => by
  rcases Lib.index_spec s [a] with ⟨h1,h2⟩ | ⟨i,h1,h2,h3,h4⟩
  ·have hno:a ∉ s:=by
    intro hm
    obtain ⟨j,hj,he⟩:=List.mem_iff_getElem.1 hm
    have:=h2 j (Nat.le_of_lt hj)
    rw [occ_one.2 (by rw [List.getElem?_eq_getElem hj,he])] at this
    cases this
   rw [flatMap_absent hno,Lib.replaceK,if_pos (by rw [h1];rfl)]
  ·have hi:s[i]? = some a:=occ_one.1 h3
   have hlt:i < s.length:=(List.getElem?_eq_some_iff.1 hi).1
   have hge:s[i] = a:=(List.getElem?_eq_some_iff.1 hi).2
   have hsp:s = s.take i ++ a :: s.drop (i + 1):=by
    rw [← hge,← List.drop_eq_getElem_cons hlt,List.take_append_drop]
   have hno:a ∉ s.take i:=by
    intro hm
    obtain ⟨j,hj,he⟩:=List.mem_iff_getElem.1 hm
    rw [List.length_take] at hj
    have h5:=h4 j (by omega)
    rw [List.getElem_take] at he
    rw [occ_one.2 (by rw [List.getElem?_eq_getElem (by omega),he])] at h5
    cases h5
   have hc:(s.drop (i + 1)).count a ≤ k:=by
    have hh:=h
    rw [hsp,List.count_append,List.count_cons_self,List.count_eq_zero.2 hno] at hh
    omega
   rw [Lib.replaceK_hit _ _ _ _ _ h1]
   show s.take i ++ new ++ Lib.replaceK [a] new k (s.drop (i + 1)) = _
   rw [replaceK_one a new k _ hc]
   conv => rhs;rw [hsp]
   rw [List.flatMap_append,List.flatMap_cons,if_pos rfl,flatMap_absent hno,List.append_assoc]
theorem replaceAll_one (a:UInt8) (new:List UInt8) (s:List UInt8) (h:[a] ≠ new):Lib.replaceAll s [a] new = s.flatMap (fun c => if c = a then new else [c]):=by
 unfold Lib.replaceAll Lib.replace
 have hb:([a] == new) = false:=by simpa using h
 rw [hb,if_neg (by decide)]
 unfold Lib.replaceNum
 rw [if_pos (Or.inl (by decide))]
 refine replaceK_one a new _ s ?_
 rw [Lib.count_one]
 exact Nat.le_refl _
theorem escL_two (s:List UInt8):Lib.replaceAll (Lib.replaceAll s [92] [92,92]) [34] [92,34] = escL s:=by
 rw [replaceAll_one 92 _ _ (by decide),replaceAll_one 34 _ _ (by decide),List.flatMap_assoc]
 unfold escL
 congr 1
 funext c
 unfold escF
 by_cases h1:c = 92
 ·subst h1;rfl
 ·rw [if_neg h1]
  by_cases h2:c = 34
  ·subst h2;rfl
  ·rw [if_neg (by simp [h1,h2])]
   simp [h2]
end Go.Proofs.YtldbpmlgbbomcaaGreatDoor
