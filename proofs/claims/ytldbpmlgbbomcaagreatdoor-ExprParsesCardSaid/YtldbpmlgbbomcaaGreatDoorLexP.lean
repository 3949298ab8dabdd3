/- The tokens of a text: what they are. Plain laws. -/
import Derived.Test.YtldbpmlgbbomcaaGreatDoorLexName
import Derived.Test.YtldbpmlgbbomcaaGreatDoorShow
import Derived.Lib.AtoiAll
import Derived.Lib.Strings
namespace Go.Proofs.YtldbpmlgbbomcaaGreatDoor
open Go.RowKit

def tkVal:Val:=⟨0,0,⟨#[]⟩⟩
def noTk:Tkn:=⟨0,0,⟨#[]⟩,tkVal⟩
def digStep (v:Nat) (c:UInt8):Nat:=10 * v + (c.toNat - 48)
def digV (l:List UInt8):Nat:=l.foldl digStep 0
theorem digV_snoc (l:List UInt8) (c:UInt8):digV (l ++ [c]) = 10 * digV l + (c.toNat - 48):=by simp [digV,digStep]
theorem dig_grow:∀ (r:List UInt8) (v:Nat),v ≤ r.foldl digStep v
 | [],v => Nat.le_refl _
 | c :: r,v => Nat.le_trans (by unfold digStep;omega) (dig_grow r (digStep v c))
theorem digV_take (l:List UInt8) (k:Nat):digV (l.take k) ≤ digV l:=by
 have h:=dig_grow (l.drop k) (digV (l.take k))
 unfold digV at h ⊢
 rw [← List.foldl_append,List.take_append_drop] at h
 exact h
theorem isDig_iff {c:UInt8}:isDig c = true ↔ 48 ≤ c.toNat ∧ c.toNat ≤ 57:=by
 unfold isDig
 simp only [Bool.and_eq_true,decide_eq_true_eq]
 omega
theorem parse_digs:∀ (r:List UInt8) (v:Nat),r.all isDig = true → v < 18446744073709551616 →
  (Lib.parseUint10 v r = .ok (r.foldl digStep v) ∧ r.foldl digStep v < 18446744073709551616) ∨ (Lib.parseUint10 v r = .range ∧ 18446744073709551616 ≤ r.foldl digStep v)
 | [],v,_,hv => .inl ⟨rfl,hv⟩
 | c :: r,v,h,hv => by
  simp only [List.all_cons,Bool.and_eq_true] at h
  have hd:=isDig_iff.1 h.1
  have hg:=dig_grow r (digStep v c)
  have hs:digStep v c = 10 * v + (c.toNat - 48):=rfl
  simp only [List.foldl_cons]
  by_cases h1:1844674407370955162 ≤ v
  ·refine .inr ⟨?_,by omega⟩
   rw [Lib.parseUint10,if_pos hd,if_pos h1]
  ·by_cases h2:18446744073709551616 ≤ v * 10 + (c.toNat - 48)
   ·refine .inr ⟨?_,by omega⟩
    rw [Lib.parseUint10,if_pos hd,if_neg h1,if_pos h2]
   ·have ih:=parse_digs r (digStep v c) h.2 (by omega)
    have e:v * 10 + (c.toNat - 48) = digStep v c:=by omega
    have e2:Lib.parseUint10 v (c :: r) = Lib.parseUint10 (digStep v c) r:=by rw [Lib.parseUint10,if_pos hd,if_neg h1,if_neg h2,e]
    rw [e2]
    exact ih
theorem atoi_digs {l:List UInt8} (h:l.all isDig = true) (h0:l ≠ []) :
  (Lib.atoiAll l = .ok (digV l:Int) ∧ digV l < 9223372036854775808) ∨ (Lib.atoiAll l = .range ∧ 9223372036854775808 ≤ digV l):=by
 cases l with
 | nil => exact absurd rfl h0
 | cons c r =>
  have hc:=isDig_iff.1 (by simp only [List.all_cons,Bool.and_eq_true] at h;exact h.1)
  have hp:=parse_digs (c :: r) 0 h (by decide)
  have e43:¬ (c.toNat = 43 ∨ c.toNat = 45):=by omega
  have e45:¬ c.toNat = 45:=by omega
  unfold Lib.atoiAll
  have em:Lib.parseMag (if c.toNat = 43 ∨ c.toNat = 45 then r else c :: r) = Lib.parseUint10 0 (c :: r):=by rw [if_neg e43,Lib.parseMag,if_neg (by simp)]
  dsimp only
  rw [em]
  simp only [e45,false_and,not_false_eq_true,true_and,if_false]
  unfold digV
  rcases hp with ⟨hp,hl⟩ | ⟨hp,hl⟩
  ·rw [hp]
   dsimp only
   by_cases h2:9223372036854775808 ≤ (c :: r).foldl digStep 0
   ·exact .inr ⟨by rw [if_pos h2],h2⟩
   ·exact .inl ⟨by rw [if_neg h2],by omega⟩
  ·rw [hp]
   exact .inr ⟨rfl,by omega⟩

def numX (r:List UInt8):Tkn × Int :=
 if 1 < spanLen isDig r ∧ r[0]? = some 48 then (noTk,3)
 else if 1099511627776 < digV (r.take (spanLen isDig r)) then (noTk,7)
 else (⟨1,0,ofL (r.take (spanLen isDig r)),⟨1,digV (r.take (spanLen isDig r)),⟨#[]⟩⟩⟩,0)
def wordX (r:List UInt8):Tkn × Int:=if 10 < spanLen isWord r then (noTk,1) else (⟨2,0,ofL (r.take (spanLen isWord r)),tkVal⟩,0)
def qt:List UInt8 → Option (List UInt8 × Nat)
 | [] => none
 | c :: t =>
  if c = 34 then some ([],1)
  else if c = 92 then
   match t with
   | [] => none
   | d :: t' => if d = 34 ∨ d = 92 then (qt t').map fun x => (d :: x.1,x.2 + 2) else none
  else if c.toNat < 32 ∨ 126 < c.toNat then none
  else (qt t).map fun x => (c :: x.1,x.2 + 1)
theorem qt_q (t:List UInt8):qt (34 :: t) = some ([],1):=by cases t <;> simp [qt]
theorem qt_e0:qt [92] = none:=by simp [qt]
theorem qt_e (d:UInt8) (t:List UInt8):qt (92 :: d :: t) = if d = 34 ∨ d = 92 then (qt t).map fun x => (d :: x.1,x.2 + 2) else none:=by simp [qt]
theorem qt_c {c:UInt8} (t:List UInt8) (h34:c ≠ 34) (h92:c ≠ 92):qt (c :: t) = if c.toNat < 32 ∨ 126 < c.toNat then none else (qt t).map fun x => (c :: x.1,x.2 + 1):=by cases t <;> simp [qt,h34,h92]
def quoteX (r:List UInt8):Tkn × Int :=
 match qt r.tail with
 | none => (noTk,3)
 | some (x,n) => if 40 < x.length then (noTk,1) else (⟨3,0,ofL (r.take (n + 1)),⟨3,0,ofL x⟩⟩,0)
def signsX:List (List UInt8):=[[60,61],[33,61],[60],[61],[43],[45],[42],[47],[37],[38],[40],[41],[44]]
def signX (r:List UInt8):Tkn × Int :=
 match signsX.find? (fun g => Lib.hasPrefix r g) with
 | none => (noTk,3)
 | some g => (⟨4,0,ofL g,tkVal⟩,0)
def oneX (r:List UInt8):Tkn × Int :=
 match r with
 | [] => (noTk,3)
 | c :: _ => if isDig c then numX r else if isLow c then wordX r else if c = 34 then quoteX r else signX r

def qtAt (r:List UInt8) (i:Nat) (x:List UInt8):Prop:=qt r.tail = (qt (r.drop i)).map fun y => (x ++ y.1,y.2 + (i - 1))
theorem qtAt_start (r:List UInt8):qtAt r 1 []:=by
 unfold qtAt
 rw [List.drop_one]
 cases qt r.tail <;> simp
theorem qtAt_end {r:List UInt8} {i:Nat} {x:List UInt8} (h:qtAt r i x) (hi:r.length ≤ i):quoteX r = (noTk,3):=by
 unfold qtAt at h
 rw [List.drop_eq_nil_of_le hi] at h
 unfold quoteX
 rw [h]
 rfl
theorem dropB_at {r:List UInt8} {i:Nat} {c:UInt8} (hc:r[i]? = some c):r.drop i = c :: r.drop (i + 1):=by
 have hl:=(List.getElem?_eq_some_iff.1 hc).1
 rw [List.drop_eq_getElem_cons hl]
 congr 1
 exact (List.getElem?_eq_some_iff.1 hc).2
theorem qtAt_close {r:List UInt8} {i:Nat} {x:List UInt8} (h:qtAt r i x) (h1:1 ≤ i) (hc:r[i]? = some 34) :
  quoteX r = if 40 < x.length then (noTk,1) else (⟨3,0,ofL (r.take (i + 1)),⟨3,0,ofL x⟩⟩,0):=by
 unfold qtAt at h
 rw [dropB_at hc,qt_q] at h
 unfold quoteX
 rw [h]
 simp only [Option.map_some,List.append_nil]
 rw [show 1 + (i - 1) = i by omega]
theorem qtAt_bad {r:List UInt8} {i:Nat} {x:List UInt8} {c:UInt8} (h:qtAt r i x) (hc:r[i]? = some c) (h34:c ≠ 34)
  (hb:(c = 92 ∧ ∀ d,r[i + 1]? = some d → d ≠ 34 ∧ d ≠ 92) ∨ (c ≠ 92 ∧ (c.toNat < 32 ∨ 126 < c.toNat))):quoteX r = (noTk,3):=by
 have hn:qt (r.drop i) = none:=by
  rw [dropB_at hc]
  rcases hb with ⟨rfl,hd⟩ | ⟨h92,hb⟩
  ·cases hdr:r.drop (i + 1) with
   | nil => exact qt_e0
   | cons d t =>
    have:r[i + 1]? = some d:=by rw [← List.head?_drop,hdr];rfl
    have:=hd d this
    rw [qt_e,if_neg (by intro h;rcases h with h | h;exact this.1 h;exact this.2 h)]
  ·rw [qt_c _ h34 h92,if_pos hb]
 unfold qtAt at h
 rw [hn] at h
 unfold quoteX
 rw [h]
 rfl
theorem qtAt_esc {r:List UInt8} {i:Nat} {x:List UInt8} {d:UInt8} (h:qtAt r i x) (h1:1 ≤ i) (hc:r[i]? = some 92) (hd:r[i + 1]? = some d) (hdd:d = 34 ∨ d = 92):qtAt r (i + 2) (x ++ [d]):=by
 unfold qtAt at h ⊢
 rw [dropB_at hc,dropB_at hd,qt_e,if_pos hdd] at h
 rw [h]
 cases qt (r.drop (i + 2)) with
 | none => simp
 | some y => simp;omega
theorem qtAt_char {r:List UInt8} {i:Nat} {x:List UInt8} {c:UInt8} (h:qtAt r i x) (h1:1 ≤ i) (hc:r[i]? = some c) (h34:c ≠ 34) (h92:c ≠ 92) (hb:¬ (c.toNat < 32 ∨ 126 < c.toNat)):qtAt r (i + 1) (x ++ [c]):=by
 unfold qtAt at h ⊢
 rw [dropB_at hc,qt_c _ h34 h92,if_neg hb] at h
 rw [h]
 cases qt (r.drop (i + 1)) with
 | none => simp
 | some y => simp;omega
theorem spanLen_pos {p:UInt8 → Bool} {c:UInt8} {r:List UInt8} (h:p c = true):1 ≤ spanLen p (c :: r):=by simp [spanLen,h]
theorem spanLen_take (p:UInt8 → Bool) (r:List UInt8):(r.take (spanLen p r)).all p = true:=by
 induction r with
 | nil => rfl
 | cons a r ih =>
  by_cases h:p a = true
  ·simp only [spanLen] at ih ⊢
   simp [h,ih]
  ·simp [spanLen,h]
theorem ofL_size (l:List UInt8):(ofL l).size = l.length:=by show l.toArray.size = _;simp
theorem qt_len:∀ (k:Nat) (l:List UInt8) (x:List UInt8) (n:Nat),l.length ≤ k → qt l = some (x,n) → n ≤ l.length
 | 0,l,x,n,hk,h => by
  cases l with
  | nil => cases h
  | cons c t => simp at hk
 | k + 1,l,x,n,hk,h => by
  cases l with
  | nil => cases h
  | cons c t =>
   simp only [List.length_cons] at hk ⊢
   by_cases h34:c = 34
   ·rw [h34,qt_q] at h
    cases h;omega
   ·by_cases h92:c = 92
    ·rw [h92] at h
     cases t with
     | nil => rw [qt_e0] at h;cases h
     | cons d t' =>
      simp only [List.length_cons] at hk ⊢
      rw [qt_e] at h
      split at h
      ·cases hq:qt t' with
       | none => rw [hq] at h;cases h
       | some y =>
        rw [hq] at h
        cases h
        have:=qt_len k t' y.1 y.2 (by omega) (by rw [hq])
        omega
      ·cases h
    ·rw [qt_c _ h34 h92] at h
     split at h
     ·cases h
     ·cases hq:qt t with
      | none => rw [hq] at h;cases h
      | some y =>
       rw [hq] at h
       cases h
       have:=qt_len k t y.1 y.2 (by omega) (by rw [hq])
       omega
theorem find_pref {r:List UInt8} {g:List UInt8} (h:signsX.find? (fun g => Lib.hasPrefix r g) = some g):1 ≤ g.length ∧ g.length ≤ r.length:=by
 have h1:=List.mem_of_find?_eq_some h
 have h2:Lib.hasPrefix r g = true:=by simpa using List.find?_some h
 constructor
 ·simp only [signsX,List.mem_cons,List.not_mem_nil,or_false] at h1
  rcases h1 with h | h | h | h | h | h | h | h | h | h | h | h | h <;> subst h <;> decide
 ·unfold Lib.hasPrefix at h2
  exact (List.isPrefixOf_iff_prefix.1 h2).length_le
theorem oneX_len {r:List UInt8} (h:(oneX r).2 = 0):1 ≤ (oneX r).1.s.size ∧ (oneX r).1.s.size ≤ r.length:=by
 unfold oneX at h ⊢
 cases r with
 | nil => cases h
 | cons c t =>
  dsimp only at h ⊢
  split at h
  ·rename_i hc
   rw [if_pos hc]
   have h1:=spanLen_pos (p:=isDig) (r:=t) hc
   have h2:=spanLen_le isDig (c :: t)
   unfold numX at h ⊢
   split at h
   ·cases h
   ·rename_i a1
    split at h
    ·cases h
    ·rename_i a2
     rw [if_neg a1,if_neg a2]
     dsimp only
     rw [ofL_size,List.length_take]
     omega
  ·rename_i hc
   rw [if_neg hc]
   split at h
   ·rename_i hl
    rw [if_pos hl]
    have h1:=spanLen_pos (p:=isWord) (r:=t) (isLow_word hl)
    have h2:=spanLen_le isWord (c :: t)
    unfold wordX at h ⊢
    split at h
    ·cases h
    ·rename_i a1
     rw [if_neg a1]
     dsimp only
     rw [ofL_size,List.length_take]
     omega
   ·rename_i hl
    rw [if_neg hl]
    split at h
    ·rename_i hq
     rw [if_pos hq]
     unfold quoteX at h ⊢
     simp only [List.tail_cons] at h ⊢
     cases hx:qt t with
     | none => rw [hx] at h;cases h
     | some y =>
      obtain ⟨x,n⟩:=y
      rw [hx] at h
      dsimp only at h ⊢
      have hn:=qt_len _ t x n (Nat.le_refl _) hx
      split at h
      ·cases h
      ·rename_i a1
       rw [if_neg a1]
       dsimp only
       rw [ofL_size,List.length_take,List.length_cons]
       omega
    ·rename_i hq
     rw [if_neg hq]
     unfold signX at h ⊢
     cases hx:signsX.find? (fun g => Lib.hasPrefix (c :: t) g) with
     | none => rw [hx] at h;cases h
     | some g =>
      have:=find_pref hx
      dsimp only
      rw [ofL_size]
      exact this
def lexF (l:List UInt8):Nat → Nat → List Tkn × Int × Int
 | 0,_ => ([],0,0)
 | f + 1,p =>
  if p < l.length then
   if l[p]? = some 32 then lexF l f (p + 1)
   else if (oneX (l.drop p)).2 = 0 then
    (if (lexF l f (p + (oneX (l.drop p)).1.s.size)).2.2 = 0 then (⟨(oneX (l.drop p)).1.kind,p,(oneX (l.drop p)).1.s,(oneX (l.drop p)).1.v⟩ :: (lexF l f (p + (oneX (l.drop p)).1.s.size)).1,0,0)
     else ([],(lexF l f (p + (oneX (l.drop p)).1.s.size)).2))
   else ([],(p:Int),(oneX (l.drop p)).2)
  else ([],0,0)
def lexX (l:List UInt8):List Tkn × Int × Int:=if 160 < l.length then ([],0,1) else lexF l (l.length + 1) 0
def lexAt (l:List UInt8) (f p:Nat) (out:List Tkn):Prop:=lexF l (l.length + 1) 0 = if (lexF l f p).2.2 = 0 then (out ++ (lexF l f p).1,0,0) else ([],(lexF l f p).2)
theorem lexF_ok:∀ (l:List UInt8) (f p:Nat),(lexF l f p).2.2 = 0 → (lexF l f p).2.1 = 0
 | l,0,p,_ => rfl
 | l,f + 1,p,h => by
  rw [lexF] at h ⊢
  split at h
  ·rename_i a1
   rw [if_pos a1]
   split at h
   ·rename_i a2
    rw [if_pos a2]
    exact lexF_ok l f _ h
   ·rename_i a2
    rw [if_neg a2]
    split at h
    ·rename_i a3
     rw [if_pos a3]
     split at h
     ·rename_i a4
      rw [if_pos a4]
     ·rename_i a4
      exact absurd h a4
    ·rename_i a3
     exact absurd h a3
  ·rename_i a1
   rw [if_neg a1]
theorem lexF_err:∀ (l:List UInt8) (f p:Nat),(lexF l f p).2.2 ≠ 0 → (lexF l f p).1 = []
 | l,0,p,_ => rfl
 | l,f + 1,p,h => by
  rw [lexF] at h ⊢
  split at h
  ·rename_i a1
   rw [if_pos a1]
   split at h
   ·rename_i a2
    rw [if_pos a2]
    exact lexF_err l f _ h
   ·rename_i a2
    rw [if_neg a2]
    split at h
    ·rename_i a3
     rw [if_pos a3]
     split at h
     ·exact absurd rfl h
     ·rename_i a4
      rw [if_neg a4]
    ·rename_i a3
     rw [if_neg a3]
  ·exact absurd rfl h
theorem lexAt_start (l:List UInt8):lexAt l (l.length + 1) 0 []:=by
 unfold lexAt
 split
 ·rename_i h
  have h1:=lexF_ok l _ _ h
  rw [List.nil_append]
  ext1
  ·rfl
  ·ext1
   ·exact h1
   ·exact h
 ·rename_i h
  have h1:=lexF_err l _ _ h
  ext1
  ·exact h1
  ·rfl
theorem lexAt_end {l:List UInt8} {f p:Nat} {out:List Tkn} (h:lexAt l (f + 1) p out) (hp:l.length ≤ p):lexF l (l.length + 1) 0 = (out,0,0):=by
 unfold lexAt at h
 have e:lexF l (f + 1) p = ([],0,0):=by rw [lexF,if_neg (by omega)]
 rw [e] at h
 simpa using h
theorem lexAt_blank {l:List UInt8} {f p:Nat} {out:List Tkn} (h:lexAt l (f + 1) p out) (hp:l[p]? = some 32):lexAt l f (p + 1) out:=by
 have hl:=(List.getElem?_eq_some_iff.1 hp).1
 unfold lexAt at h ⊢
 have e:lexF l (f + 1) p = lexF l f (p + 1):=by rw [lexF,if_pos hl,if_pos hp]
 rw [e] at h
 exact h
theorem lexAt_bad {l:List UInt8} {f p:Nat} {out:List Tkn} (h:lexAt l (f + 1) p out) (hl:p < l.length) (hp:l[p]? ≠ some 32) (he:(oneX (l.drop p)).2 ≠ 0):lexF l (l.length + 1) 0 = ([],(p:Int),(oneX (l.drop p)).2):=by
 unfold lexAt at h
 have e:lexF l (f + 1) p = ([],(p:Int),(oneX (l.drop p)).2):=by rw [lexF,if_pos hl,if_neg hp,if_neg he]
 rw [e,if_neg he] at h
 exact h
theorem lexAt_next {l:List UInt8} {f p:Nat} {out:List Tkn} (h:lexAt l (f + 1) p out) (hl:p < l.length) (hp:l[p]? ≠ some 32) (he:(oneX (l.drop p)).2 = 0) :
  lexAt l f (p + (oneX (l.drop p)).1.s.size) (out ++ [⟨(oneX (l.drop p)).1.kind,p,(oneX (l.drop p)).1.s,(oneX (l.drop p)).1.v⟩]):=by
 unfold lexAt at h ⊢
 rw [h]
 have e:lexF l (f + 1) p = (if (lexF l f (p + (oneX (l.drop p)).1.s.size)).2.2 = 0 then (⟨(oneX (l.drop p)).1.kind,p,(oneX (l.drop p)).1.s,(oneX (l.drop p)).1.v⟩ :: (lexF l f (p + (oneX (l.drop p)).1.s.size)).1,0,0) else ([],(lexF l f (p + (oneX (l.drop p)).1.s.size)).2)):=by
  rw [lexF,if_pos hl,if_neg hp,if_pos he]
 rw [e]
 by_cases h2:(lexF l f (p + (oneX (l.drop p)).1.s.size)).2.2 = 0
 ·simp only [if_pos h2]
  simp
 ·simp only [if_neg h2]
end Go.Proofs.YtldbpmlgbbomcaaGreatDoor
