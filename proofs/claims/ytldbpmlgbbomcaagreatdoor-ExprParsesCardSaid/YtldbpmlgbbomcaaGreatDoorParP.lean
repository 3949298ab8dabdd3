/- What a text is the showing of. Plain laws. -/
import Derived.Test.YtldbpmlgbbomcaaGreatDoorShow
import Derived.Lib.AtoiAll
namespace Go.Proofs.YtldbpmlgbbomcaaGreatDoor

def unq (s:List UInt8) (i:Nat):List UInt8 :=
 if h:i + 1 < s.length then (if s[i]? = some 92 ∧ i + 2 < s.length then (s[i + 1]?).toList ++ unq s (i + 2) else (s[i]?).toList ++ unq s (i + 1)) else []
termination_by s.length - i
decreasing_by all_goals omega
theorem unq_end {s:List UInt8} {i:Nat} (h:¬ i + 1 < s.length):unq s i = []:=by rw [unq,dif_neg h]
theorem unq_esc {s:List UInt8} {i:Nat} {c:UInt8} (h2:i + 2 < s.length) (h3:s[i]? = some 92) (h4:s[i + 1]? = some c):unq s i = c :: unq s (i + 2):=by
 rw [unq,dif_pos (by omega),if_pos ⟨h3,h2⟩,h4];rfl
theorem unq_one {s:List UInt8} {i:Nat} {c:UInt8} (h:i + 1 < s.length) (h2:¬ (s[i]? = some 92 ∧ i + 2 < s.length)) (h4:s[i]? = some c):unq s i = c :: unq s (i + 1):=by
 rw [unq,dif_pos h,if_neg h2,h4];rfl
theorem unq_len (s:List UInt8):∀ (k i:Nat),s.length - i ≤ k → (unq s i).length ≤ s.length - i
 | 0,i,h => by rw [unq_end (by omega)];simp
 | k + 1,i,h => by
  by_cases h1:i + 1 < s.length
  ·rw [unq,dif_pos h1]
   split
   ·have:=unq_len s k (i + 2) (by omega)
    have h3:((s[i + 1]?).toList).length ≤ 1:=by cases s[i + 1]? <;> simp
    rw [List.length_append];omega
   ·have:=unq_len s k (i + 1) (by omega)
    have h3:((s[i]?).toList).length ≤ 1:=by cases s[i]? <;> simp
    rw [List.length_append];omega
  ·rw [unq_end h1];simp

def atoiV (l:List UInt8):Int:=match Lib.atoiAll l with | .ok v => v | .«syntax» => 0 | .range => Lib.atoiSat l
theorem atoiV_in (l:List UInt8):inI (atoiV l):=by
 have key:∀ x:Int,-9223372036854775808 ≤ x → x ≤ 9223372036854775807 → inI x:=by
  intro x h1 h2
  have e:IntKind.i64.min = -9223372036854775808:=by decide
  have e2:IntKind.i64.max = 9223372036854775807:=by decide
  simp only [inI,Lit.wf,e,e2,Bool.and_eq_true,decide_eq_true_eq]
  exact ⟨h1,h2⟩
 unfold atoiV
 split
 ·rename_i v h
  unfold Lib.atoiAll at h
  split at h
  ·cases h
  ·dsimp only at h
   split at h
   ·cases h
   ·cases h
   ·split at h
    ·cases h
    ·split at h
     ·cases h
     ·cases h
      split <;> apply key <;> omega
 ·exact key 0 (by decide) (by decide)
 ·unfold Lib.atoiSat
  split <;> apply key <;> decide

def candV (s:List UInt8):Val :=
 if s = [63] then ⟨4,0,⟨#[]⟩⟩ else if s = [116,114,117,101] then ⟨2,1,⟨#[]⟩⟩ else if s = [102,97,108,115,101] then ⟨2,0,⟨#[]⟩⟩
 else if s.head? = some 33 then ⟨5,atoiV s.tail,⟨#[]⟩⟩ else if s.head? = some 34 then ⟨3,0,ofL (unq s 1)⟩ else ⟨1,atoiV s,⟨#[]⟩⟩
def parseV (s:ByteArray):Val × Int:=if valCheck (candV s.data.toList) = 0 ∧ showV (candV s.data.toList) = s then (candV s.data.toList,0) else (noVal,3)
def shows (s:ByteArray) (v:Val):Bool:=decide (valCheck v = 0) && (showV v).toList == s.toList
def candsV (s:ByteArray):List Val:=[⟨4,0,⟨#[]⟩⟩,⟨2,0,⟨#[]⟩⟩,⟨2,1,⟨#[]⟩⟩,⟨1,atoiV s.data.toList,⟨#[]⟩⟩,⟨5,if s.data.toList = [] then 0 else atoiV s.data.toList.tail,⟨#[]⟩⟩,⟨3,0,ofL (unq s.data.toList 1)⟩]
def refV (s:ByteArray):Val × Int:=match (candsV s).find? (shows s) with | some v => (v,0) | none => (noVal,3)

theorem dec_head:∀ (k u:Nat),u ≤ k → ∃ c r,Lib.decDigits u = c :: r ∧ 48 ≤ c.toNat ∧ c.toNat ≤ 57
 | 0,u,h => by
  have:u = 0:=by omega
  subst this
  exact ⟨48,[],by rw [Lib.decDigits];rfl,by decide,by decide⟩
 | k + 1,u,h => by
  rw [Lib.decDigits]
  split
  ·rename_i h1
   refine ⟨_,_,rfl,?_,?_⟩ <;> rw [UInt8.toNat_ofNat'] <;> omega
  ·obtain ⟨c,r,h2,h3,h4⟩:=dec_head k (u / 10) (by omega)
   rw [h2]
   exact ⟨c,_,rfl,h3,h4⟩
theorem itoa_head (n:Int):∃ c r,Lib.itoa n = c :: r ∧ c ≠ 33 ∧ c ≠ 34:=by
 unfold Lib.itoa
 split
 ·exact ⟨45,_,rfl,by decide,by decide⟩
 ·obtain ⟨c,r,h2,h3,h4⟩:=dec_head _ n.toNat (Nat.le_refl _)
  refine ⟨c,r,h2,?_,?_⟩ <;> rintro rfl <;> revert h3 <;> decide
theorem shows_iff (s:ByteArray) (v:Val):shows s v = true ↔ valCheck v = 0 ∧ showL v = s.data.toList:=by
 unfold shows
 rw [Bool.and_eq_true,decide_eq_true_eq,beq_iff_eq]
 constructor
 ·rintro ⟨h1,h2⟩
  refine ⟨h1,?_⟩
  rw [ByteArray.toList_eq,ByteArray.toList_eq,showV,if_pos h1] at h2
  simpa [ofL] using h2
 ·rintro ⟨h1,h2⟩
  refine ⟨h1,?_⟩
  rw [ByteArray.toList_eq,ByteArray.toList_eq,showV,if_pos h1]
  simpa [ofL] using h2
theorem parseV_shows (s:ByteArray):parseV s = if shows s (candV s.data.toList) = true then (candV s.data.toList,0) else (noVal,3):=by
 have hq:(valCheck (candV s.data.toList) = 0 ∧ showV (candV s.data.toList) = s) ↔ shows s (candV s.data.toList) = true:=by
  unfold shows
  rw [Bool.and_eq_true,decide_eq_true_eq,beq_iff_eq]
  exact ⟨fun h => ⟨h.1,by rw [h.2]⟩,fun h => ⟨h.1,toList_inj h.2⟩⟩
 unfold parseV
 by_cases h:shows s (candV s.data.toList) = true
 ·rw [if_pos h,if_pos (hq.2 h)]
 ·rw [if_neg h,if_neg (fun k => h (hq.1 k))]
theorem emptyCheck_nil:emptyCheck ⟨#[]⟩ = 0:=by
 unfold emptyCheck
 rw [if_pos (by rw [ByteArray.toList_eq];rfl)]
theorem vc_4:valCheck ⟨4,0,⟨#[]⟩⟩ = 0:=by simp [valCheck,emptyCheck_nil]
theorem vc_20:valCheck ⟨2,0,⟨#[]⟩⟩ = 0:=by simp [valCheck,emptyCheck_nil]
theorem vc_21:valCheck ⟨2,1,⟨#[]⟩⟩ = 0:=by simp [valCheck,emptyCheck_nil]
theorem refV_eq (s:ByteArray):refV s = parseV s:=by
 rw [parseV_shows]
 have c4:shows s ⟨4,0,⟨#[]⟩⟩ = true ↔ s.data.toList = [63]:=by
  rw [shows_iff]
  exact ⟨fun h => h.2.symm,fun h => ⟨vc_4,h.symm⟩⟩
 have c20:shows s ⟨2,0,⟨#[]⟩⟩ = true ↔ s.data.toList = [102,97,108,115,101]:=by
  rw [shows_iff]
  exact ⟨fun h => h.2.symm,fun h => ⟨vc_20,h.symm⟩⟩
 have c21:shows s ⟨2,1,⟨#[]⟩⟩ = true ↔ s.data.toList = [116,114,117,101]:=by
  rw [shows_iff]
  exact ⟨fun h => h.2.symm,fun h => ⟨vc_21,h.symm⟩⟩
 have c1:∀ n,shows s ⟨1,n,⟨#[]⟩⟩ = true → s.data.toList.head? ≠ some 33 ∧ s.data.toList.head? ≠ some 34:=by
  intro n h
  rw [shows_iff] at h
  obtain ⟨c,r,h1,h2,h3⟩:=itoa_head n
  have h4:Lib.itoa n = s.data.toList:=h.2
  rw [← h4,h1]
  exact ⟨by simpa using h2,by simpa using h3⟩
 have c5:∀ n,shows s ⟨5,n,⟨#[]⟩⟩ = true → s.data.toList.head? = some 33:=by
  intro n h
  rw [shows_iff] at h
  have h4:33 :: Lib.itoa n = s.data.toList:=h.2
  rw [← h4];rfl
 have c3:∀ t,shows s ⟨3,0,t⟩ = true → s.data.toList.head? = some 34:=by
  intro t h
  rw [shows_iff] at h
  have h4:34 :: (escL t.data.toList ++ [34]) = s.data.toList:=h.2
  rw [← h4];rfl
 have nf:∀ {v:Val} {p:Prop},(shows s v = true → p) → ¬ p → shows s v = false:=fun h1 h2 => by rw [Bool.eq_false_iff];exact fun h => h2 (h1 h)
 unfold refV candsV candV
 by_cases h1:s.data.toList = [63]
 ·rw [if_pos h1,if_pos (c4.2 h1),List.find?_cons_of_pos (c4.2 h1)]
 rw [if_neg h1,List.find?_cons_of_neg (by rw [nf c4.1 h1];simp)]
 by_cases h2:s.data.toList = [102,97,108,115,101]
 ·rw [if_neg (show ¬ s.data.toList = [116,114,117,101] by rw [h2];decide),if_pos h2,List.find?_cons_of_pos (c20.2 h2),if_pos (c20.2 h2)]
 rw [List.find?_cons_of_neg (by rw [nf c20.1 h2];simp)]
 by_cases h3:s.data.toList = [116,114,117,101]
 ·rw [List.find?_cons_of_pos (c21.2 h3),if_pos h3,if_pos (c21.2 h3)]
 rw [List.find?_cons_of_neg (by rw [nf c21.1 h3];simp),if_neg h3,if_neg h2]
 by_cases h4:s.data.toList.head? = some 33
 ·have hne:s.data.toList ≠ []:=by intro e;rw [e] at h4;cases h4
  rw [List.find?_cons_of_neg (by rw [nf (c1 _) (fun h => h.1 h4)];simp),if_pos h4,if_neg hne]
  cases hs:shows s ⟨5,atoiV s.data.toList.tail,⟨#[]⟩⟩
  ·rw [List.find?_cons_of_neg (by rw [hs];simp),List.find?_cons_of_neg (by rw [nf (c3 _) (by rw [h4];decide)];simp),if_neg (by simp)]
   rfl
  ·rw [List.find?_cons_of_pos hs,if_pos rfl]
 rw [if_neg h4]
 by_cases h5:s.data.toList.head? = some 34
 ·rw [List.find?_cons_of_neg (by rw [nf (c1 _) (fun h => h.2 h5)];simp),List.find?_cons_of_neg (by rw [nf (c5 _) h4];simp),if_pos h5]
  cases hs:shows s ⟨3,0,ofL (unq s.data.toList 1)⟩
  ·rw [List.find?_cons_of_neg (by rw [hs];simp),if_neg (by simp)]
   rfl
  ·rw [List.find?_cons_of_pos hs,if_pos rfl]
 rw [if_neg h5]
 cases hs:shows s ⟨1,atoiV s.data.toList,⟨#[]⟩⟩
 ·rw [List.find?_cons_of_neg (by rw [hs];simp),List.find?_cons_of_neg (by rw [nf (c5 _) h4];simp),List.find?_cons_of_neg (by rw [nf (c3 _) h5];simp),if_neg (by simp)]
  rfl
 ·rw [List.find?_cons_of_pos hs,if_pos rfl]
end Go.Proofs.YtldbpmlgbbomcaaGreatDoor
