/- Texts merged: RnkP Rnk1 Rnk2 Rnk3 Rnk4 Rnk5 RnkM Mpr Rnk6 Rnk7. -/
import Derived.Test.YtldbpmlgbbomcaaGreatDoorFCk
import Derived.Test.YtldbpmlgbbomcaaGreatDoorNamP
import Derived.Test.YtldbpmlgbbomcaaGreatDoorTypes
import Derived.Test.YtldbpmlgbbomcaaGreatDoorNam3
import Derived.Deep.OwnRows
import Derived.Test.YtldbpmlgbbomcaaGreatDoorBkw
import Derived.Maps.RangeWalk
import Derived.StringKeys
import Derived.Test.YtldbpmlgbbomcaaGreatDoorRis
import Derived.Test.YtldbpmlgbbomcaaGreatDoorTy2
/- Which fields hang on which: the plain functions. No program text is walked here. -/
namespace Go.Proofs.YtldbpmlgbbomcaaGreatDoor

def ndAt (nd:List (List Nat)) (i:Nat):List Nat:=nd[i]?.getD []
def rkL (nd:List (List Nat)):Nat → Nat → Option Nat
 | 0,_ => none
 | k + 1,i => match rkL nd k i with
  | some n => some n
  | none => if (ndAt nd i).all (fun s => (rkL nd k s).isSome) then some k else none
theorem rkL_succ {nd:List (List Nat)} {k i n:Nat} (h:rkL nd k i = some n):rkL nd (k + 1) i = some n:=by
 rw [rkL,h]
theorem rkL_mono {nd:List (List Nat)} {k i n:Nat} (h:rkL nd k i = some n):∀ m,k ≤ m → rkL nd m i = some n:=by
 intro m hm
 induction m with
 | zero => rw [Nat.le_zero.1 hm] at h;exact h
 | succ m ih =>
  rcases Nat.lt_or_ge k (m + 1) with h1 | h1
  ·exact rkL_succ (ih (by omega))
  ·rw [show k = m + 1 by omega] at h;exact h
theorem rkL_none {nd:List (List Nat)} {k i:Nat} (h:rkL nd k i = none) {m:Nat} (hm:m ≤ k):rkL nd m i = none:=by
 cases hq:rkL nd m i with
 | none => rfl
 | some n => rw [rkL_mono hq k hm] at h;cases h
theorem rkL_inv {nd:List (List Nat)} {i n:Nat}:∀ {k:Nat},rkL nd k i = some n → n < k ∧ rkL nd n i = none ∧ (∀ s ∈ ndAt nd i,(rkL nd n s).isSome = true)
 | 0,h => by cases h
 | k + 1,h => by
  rw [rkL] at h
  cases hq:rkL nd k i with
  | some m =>
   rw [hq] at h
   cases h
   obtain ⟨h1,h2⟩:=rkL_inv hq
   exact ⟨by omega,h2⟩
  | none =>
   rw [hq] at h
   dsimp only at h
   split at h
   ·rename_i ha
    cases h
    exact ⟨by omega,hq,fun s hs => (List.all_eq_true.1 ha) s hs⟩
   ·cases h
theorem rkL_mk {nd:List (List Nat)} {i n:Nat} (h:rkL nd n i = none) (ha:∀ s ∈ ndAt nd i,(rkL nd n s).isSome = true):rkL nd (n + 1) i = some n:=by
 rw [rkL,h]
 dsimp only
 rw [if_pos (List.all_eq_true.2 ha)]
theorem rkL_at {nd:List (List Nat)} {i n k:Nat} (h:rkL nd k i = some n):rkL nd (n + 1) i = some n :=
 rkL_mk (rkL_inv h).2.1 (rkL_inv h).2.2
theorem rkL_unique {nd:List (List Nat)} {i n m k j:Nat} (h:rkL nd k i = some n) (h':rkL nd j i = some m):n = m:=by
 have h1:=rkL_mono h (k + j) (by omega)
 have h2:=rkL_mono h' (k + j) (by omega)
 rw [h1] at h2
 exact Option.some.inj h2
theorem short_of_nodup:∀ (N:Nat) (l:List Nat),l.Nodup → (∀ x ∈ l,x < N) → l.length ≤ N
 | 0,[],_,_ => Nat.le_refl _
 | 0,a :: l,_,h => absurd (h a List.mem_cons_self) (Nat.not_lt_zero _)
 | N + 1,l,hn,h => by
  have h1:=short_of_nodup N (l.erase N) (hn.erase N) (fun x hx => by
   rw [hn.mem_erase_iff] at hx
   have:=h x hx.2
   omega)
  by_cases hm:N ∈ l
  ·rw [List.length_erase_of_mem hm] at h1;omega
  ·rw [List.erase_of_not_mem hm] at h1;omega
theorem rkL_chain {nd:List (List Nat)} {N:Nat} (hN:∀ i,∀ s ∈ ndAt nd i,s < N):∀ (k i:Nat),i < N → rkL nd (k + 1) i = some k →
  ∃ L:List Nat,L.length = k + 1 ∧ L.Nodup ∧ ∀ x ∈ L,x < N ∧ ∃ m,m ≤ k ∧ rkL nd (k + 1) x = some m
 | 0,i,hi,h => ⟨[i],rfl,by simp,fun x hx => by simp at hx;subst hx;exact ⟨hi,0,Nat.le_refl _,h⟩⟩
 | k + 1,i,hi,h => by
  obtain ⟨_,h1,h2⟩:=rkL_inv h
  have hk:rkL nd k i = none:=rkL_none h1 (by omega)
  have hex:∃ s ∈ ndAt nd i,rkL nd k s = none:=by
   apply Classical.byContradiction
   intro hno
   have:∀ s ∈ ndAt nd i,(rkL nd k s).isSome = true:=fun s hs => by
    cases hq:rkL nd k s with
    | some n => rfl
    | none => exact absurd ⟨s,hs,hq⟩ hno
   rw [rkL_mk hk this] at h1
   cases h1
  obtain ⟨s,hs,hsn⟩:=hex
  obtain ⟨n,hn⟩:=Option.isSome_iff_exists.1 (h2 s hs)
  have hnk:n = k:=by
   have h3:=(rkL_inv hn).1
   rcases Nat.lt_or_ge n k with h4 | h4
   ·have:=rkL_mono (rkL_at hn) k (by omega)
    rw [this] at hsn;cases hsn
   ·omega
  subst hnk
  obtain ⟨L,l1,l2,l3⟩:=rkL_chain hN n s (hN i s hs) hn
  refine ⟨i :: L,by simp [l1],?_,?_⟩
  ·rw [List.nodup_cons]
   refine ⟨fun hm => ?_,l2⟩
   obtain ⟨_,m,hm1,hm2⟩:=l3 i hm
   rw [hm2] at h1;cases h1
  ·intro x hx
   rcases List.mem_cons.1 hx with rfl | hx
   ·exact ⟨hi,n + 1,Nat.le_refl _,h⟩
   ·obtain ⟨hx1,m,hm1,hm2⟩:=l3 x hx
    exact ⟨hx1,m,by omega,rkL_succ hm2⟩
theorem rkL_top {nd:List (List Nat)} {N:Nat} (hN:∀ i,∀ s ∈ ndAt nd i,s < N) {k i n:Nat} (hi:i < N) (h:rkL nd k i = some n):rkL nd N i = some n:=by
 obtain ⟨L,l1,l2,l3⟩:=rkL_chain hN n i hi (rkL_at h)
 have:=short_of_nodup N L l2 (fun x hx => (l3 x hx).1)
 exact rkL_mono (rkL_at h) N (by omega)

def outAt (out:List Int) (k:Nat):Int:=out[k]?.getD 0
def maxO (out:List Int) (l:List Nat):Int:=l.foldl (fun m k => max m (outAt out k + 1)) 0
def mostO (out:List Int) (l:List Nat):Int:=if l.any (fun k => decide (outAt out k < 0)) then -1 else maxO out l
def stepO (nd:List (List Nat)) (out:List Int) (i:Nat):List Int:=out.set i (max (outAt out i) (mostO out (ndAt nd i)))
def sweepTo (nd:List (List Nat)) (out:List Int):Nat → List Int
 | 0 => out
 | i + 1 => stepO nd (sweepTo nd out i) i
def sweepsO (nd:List (List Nat)) (N:Nat):Nat → List Int
 | 0 => List.replicate N (-1)
 | t + 1 => sweepTo nd (sweepsO nd N t) N
theorem maxO_ge (out:List Int):∀ (l:List Nat) (m:Int),m ≤ l.foldl (fun m k => max m (outAt out k + 1)) m ∧ ∀ s ∈ l,outAt out s + 1 ≤ l.foldl (fun m k => max m (outAt out k + 1)) m
 | [],m => ⟨Int.le_refl _,fun s h => absurd h List.not_mem_nil⟩
 | a :: l,m => by
  obtain ⟨h1,h2⟩:=maxO_ge out l (max m (outAt out a + 1))
  rw [List.foldl_cons]
  refine ⟨by omega,fun s hs => ?_⟩
  rcases List.mem_cons.1 hs with rfl | hs
  ·omega
  ·exact h2 s hs
theorem maxO_is (out:List Int):∀ (l:List Nat) (m:Int),l.foldl (fun m k => max m (outAt out k + 1)) m = m ∨ ∃ s ∈ l,l.foldl (fun m k => max m (outAt out k + 1)) m = outAt out s + 1
 | [],m => .inl rfl
 | a :: l,m => by
  rw [List.foldl_cons]
  rcases maxO_is out l (max m (outAt out a + 1)) with h | ⟨s,hs,h⟩
  ·rw [h]
   rcases Int.le_total m (outAt out a + 1) with h1 | h1
   ·exact .inr ⟨a,List.mem_cons_self,by omega⟩
   ·exact .inl (by omega)
  ·exact .inr ⟨s,List.mem_cons_of_mem _ hs,h⟩
def GoodO (nd:List (List Nat)) (N:Nat) (out:List Int):Prop:=out.length = N ∧ ∀ i,i < N → outAt out i = -1 ∨ ∃ n k:Nat,outAt out i = n ∧ rkL nd k i = some n
theorem mostO_good {nd:List (List Nat)} {N:Nat} (hN:∀ i,∀ s ∈ ndAt nd i,s < N) {out:List Int} (h:GoodO nd N out) (i:Nat) :
  (mostO out (ndAt nd i) = -1 ∧ ∃ s ∈ ndAt nd i,outAt out s < 0) ∨ ∃ n k:Nat,mostO out (ndAt nd i) = n ∧ rkL nd k i = some n:=by
 unfold mostO
 split
 ·rename_i ha
  obtain ⟨s,hs,h1⟩:=List.any_eq_true.1 ha
  exact .inl ⟨rfl,s,hs,by simpa using h1⟩
 ·rename_i ha
  right
  have hall:∀ s ∈ ndAt nd i,∃ n k:Nat,outAt out s = n ∧ rkL nd k s = some n:=fun s hs => by
   rcases h.2 s (hN i s hs) with h1 | h1
   ·exfalso
    apply ha
    exact List.any_eq_true.2 ⟨s,hs,by rw [h1];rfl⟩
   ·exact h1
  obtain ⟨g1,g2⟩:=maxO_ge out (ndAt nd i) 0
  have g3:=maxO_is out (ndAt nd i) 0
  change (0:Int) ≤ maxO out (ndAt nd i) at g1
  change ∀ s ∈ ndAt nd i,outAt out s + 1 ≤ maxO out (ndAt nd i) at g2
  change maxO out (ndAt nd i) = 0 ∨ ∃ s ∈ ndAt nd i,maxO out (ndAt nd i) = outAt out s + 1 at g3
  obtain ⟨M,hM⟩:=Int.eq_ofNat_of_zero_le g1
  have hsome:∀ s ∈ ndAt nd i,(rkL nd M s).isSome = true:=fun s hs => by
   obtain ⟨n,k,h1,h2⟩:=hall s hs
   have:=g2 s hs
   rw [rkL_mono (rkL_at h2) M (by omega)]
   rfl
  have hMi:rkL nd M i = none:=by
   cases hq:rkL nd M i with
   | none => rfl
   | some m =>
    exfalso
    obtain ⟨m1,m2,m3⟩:=rkL_inv hq
    rcases g3 with g3 | ⟨s,hs,g3⟩
    ·omega
    ·obtain ⟨n,k,h1,h2⟩:=hall s hs
     obtain ⟨m',hm'⟩:=Option.isSome_iff_exists.1 (m3 s hs)
     have:=rkL_unique h2 hm'
     have:=(rkL_inv hm').1
     omega
  exact ⟨M,M + 1,hM,rkL_mk hMi hsome⟩
theorem outAt_set (out:List Int) (i j:Nat) (v:Int) (hi:i < out.length):outAt (out.set i v) j = if i = j then v else outAt out j:=by
 unfold outAt
 rw [List.getElem?_set]
 split
 ·rfl
 ·rfl
theorem stepO_good {nd:List (List Nat)} {N:Nat} (hN:∀ i,∀ s ∈ ndAt nd i,s < N) {out:List Int} (h:GoodO nd N out) {i:Nat} (hi:i < N):GoodO nd N (stepO nd out i):=by
 refine ⟨by simp [stepO,h.1],fun j hj => ?_⟩
 unfold stepO
 rw [outAt_set _ _ _ _ (by rw [h.1];exact hi)]
 split
 ·rename_i he
  subst he
  rcases mostO_good hN h i with ⟨h1,_⟩ | ⟨n,k,h1,h2⟩
  ·rw [h1]
   rcases h.2 i hi with h3 | ⟨m,k,h3,h4⟩
   ·exact .inl (by omega)
   ·exact .inr ⟨m,k,by omega,h4⟩
  ·rw [h1]
   rcases h.2 i hi with h3 | ⟨m,k',h3,h4⟩
   ·exact .inr ⟨n,k,by omega,h2⟩
   ·have:=rkL_unique h2 h4
    exact .inr ⟨n,k,by omega,h2⟩
 ·exact h.2 j hj
theorem stepO_ge {nd:List (List Nat)} {out:List Int} {i j:Nat}:outAt out j ≤ outAt (stepO nd out i) j:=by
 unfold stepO
 rcases Nat.lt_or_ge i out.length with h | h
 ·rw [outAt_set _ _ _ _ h]
  split
  ·rename_i he;subst he;omega
  ·exact Int.le_refl _
 ·rw [List.set_eq_of_length_le h];exact Int.le_refl _
theorem sweepTo_good {nd:List (List Nat)} {N:Nat} (hN:∀ i,∀ s ∈ ndAt nd i,s < N) {out:List Int} (h:GoodO nd N out):∀ m,m ≤ N → GoodO nd N (sweepTo nd out m) ∧
  ∀ j,outAt out j ≤ outAt (sweepTo nd out m) j
 | 0,_ => ⟨h,fun j => Int.le_refl _⟩
 | m + 1,hm => by
  obtain ⟨h1,h2⟩:=sweepTo_good hN h m (by omega)
  exact ⟨stepO_good hN h1 (by omega),fun j => Int.le_trans (h2 j) stepO_ge⟩
theorem sweepTo_next {nd:List (List Nat)} {N:Nat} (hN:∀ i,∀ s ∈ ndAt nd i,s < N) {out:List Int} (h:GoodO nd N out) {t:Nat} (ht:∀ i,i < N → (rkL nd t i).isSome = true → 0 ≤ outAt out i) :
  ∀ m,m ≤ N → ∀ i,i < m → (rkL nd (t + 1) i).isSome = true → 0 ≤ outAt (sweepTo nd out m) i
 | 0,_,i,hi,_ => absurd hi (Nat.not_lt_zero _)
 | m + 1,hm,i,hi,hs => by
  by_cases he:i = m
  ·subst he
   obtain ⟨g1,g2⟩:=sweepTo_good hN h i (by omega)
   have hlen:i < (sweepTo nd out i).length:=by rw [g1.1];omega
   show 0 ≤ outAt (stepO nd (sweepTo nd out i) i) i
   unfold stepO
   rw [outAt_set _ _ _ _ hlen,if_pos rfl]
   rcases mostO_good hN g1 i with ⟨h1,s,hs1,hs2⟩ | ⟨n,k,h1,h2⟩
   ·exfalso
    obtain ⟨n,hn⟩:=Option.isSome_iff_exists.1 hs
    obtain ⟨n1,n2,n3⟩:=rkL_inv hn
    have h5:=n3 s hs1
    obtain ⟨q,hq⟩:=Option.isSome_iff_exists.1 h5
    have h6:=ht s (hN i s hs1) (by rw [rkL_mono hq t (by omega)];rfl)
    have:=g2 s
    omega
   ·omega
  ·have h1:=sweepTo_next hN h ht m (by omega) i (by omega) hs
   exact Int.le_trans h1 stepO_ge
theorem outAt_rep (N i:Nat) (hi:i < N):outAt (List.replicate N (-1)) i = -1:=by
 unfold outAt
 rw [List.getElem?_replicate,if_pos hi]
 rfl
theorem sweepsO_good {nd:List (List Nat)} {N:Nat} (hN:∀ i,∀ s ∈ ndAt nd i,s < N):∀ t,GoodO nd N (sweepsO nd N t) ∧ ∀ i,i < N → (rkL nd t i).isSome = true → 0 ≤ outAt (sweepsO nd N t) i
 | 0 => ⟨⟨by simp [sweepsO],fun i hi => .inl (outAt_rep N i hi)⟩,fun i _ h => by simp [rkL] at h⟩
 | t + 1 => by
  obtain ⟨h1,h2⟩:=sweepsO_good hN t
  exact ⟨(sweepTo_good hN h1 N (Nat.le_refl _)).1,fun i hi hs => sweepTo_next hN h1 h2 N (Nat.le_refl _) i hi hs⟩
theorem sweepsO_is {nd:List (List Nat)} {N:Nat} (hN:∀ i,∀ s ∈ ndAt nd i,s < N) {i:Nat} (hi:i < N) :
  outAt (sweepsO nd N N) i = match rkL nd N i with | some n => (n:Int) | none => -1:=by
 obtain ⟨h1,h2⟩:=sweepsO_good hN N
 cases hq:rkL nd N i with
 | some n =>
  have h3:=h2 i hi (by rw [hq];rfl)
  rcases h1.2 i hi with h4 | ⟨m,k,h4,h5⟩
  ·omega
  ·rw [h4,rkL_unique h5 hq]
 | none =>
  rcases h1.2 i hi with h4 | ⟨m,k,h4,h5⟩
  ·exact h4
  ·rw [rkL_top hN hi h5] at hq;cases hq
theorem rkL_stuck {nd:List (List Nat)} {N:Nat} (hN:∀ i,∀ s ∈ ndAt nd i,s < N) {i:Nat} (hi:i < N) (h:rkL nd N i = none):∃ s ∈ ndAt nd i,rkL nd N s = none:=by
 apply Classical.byContradiction
 intro hno
 have:∀ s ∈ ndAt nd i,(rkL nd N s).isSome = true:=fun s hs => by
  cases hq:rkL nd N s with
  | some n => rfl
  | none => exact absurd ⟨s,hs,hq⟩ hno
 have h1:=rkL_top hN hi (rkL_mk h this)
 rw [h] at h1
 cases h1
def nxtC (bad:Nat → Bool) (nd:List (List Nat)) (i:Nat):Nat:=((ndAt nd i).find? bad).getD i
def cycC (bad:Nat → Bool) (nd:List (List Nat)):Nat → List Nat → Nat → List Nat
 | 0,path,_ => path
 | f + 1,path,i => if path.any (fun x => x == i) then path.drop (firstAt (fun x => x == i) path) else cycC bad nd f (path ++ [i]) (nxtC bad nd i)
theorem nxtC_lt {bad:Nat → Bool} {nd:List (List Nat)} {N:Nat} (hN:∀ i,∀ s ∈ ndAt nd i,s < N) {i:Nat} (hi:i < N):nxtC bad nd i < N:=by
 unfold nxtC
 cases hq:(ndAt nd i).find? bad with
 | none => exact hi
 | some s => exact hN i s (List.mem_of_find?_eq_some hq)
def PathC (N:Nat) (path:List Nat):Prop:=path.Nodup ∧ ∀ x ∈ path,x < N
theorem PathC.nil (N:Nat):PathC N []:=⟨List.nodup_nil,fun _ h => absurd h List.not_mem_nil⟩
theorem PathC.len {N:Nat} {path:List Nat} (h:PathC N path):path.length ≤ N:=short_of_nodup N path h.1 h.2
theorem PathC.snoc {N i:Nat} {path:List Nat} (h:PathC N path) (hi:i < N) (hn:path.any (fun x => x == i) = false):PathC N (path ++ [i]):=by
 have hn':i ∉ path:=fun hm => by
  rw [List.any_eq_false] at hn
  exact hn i hm (by simp)
 refine ⟨List.nodup_append.2 ⟨h.1,by simp,fun a ha b hb => ?_⟩,fun x hx => ?_⟩
 ·simp at hb;subst hb;intro e;subst e;exact hn' ha
 ·rcases List.mem_append.1 hx with hx | hx
  ·exact h.2 x hx
  ·simp at hx;subst hx;exact hi
theorem cycC_stop {bad:Nat → Bool} {nd:List (List Nat)} {f i:Nat} {path:List Nat} (h:path.any (fun x => x == i) = true):cycC bad nd (f + 1) path i = path.drop (firstAt (fun x => x == i) path):=by
 rw [cycC,if_pos h]
theorem cycC_step {bad:Nat → Bool} {nd:List (List Nat)} {f i:Nat} {path:List Nat} (h:path.any (fun x => x == i) = false):cycC bad nd (f + 1) path i = cycC bad nd f (path ++ [i]) (nxtC bad nd i):=by
 rw [cycC,if_neg (by rw [h];decide)]

def srcN (f:Fld):List ByteArray:=if f.kind = 1 then [] else rise (askN f.source)
def needL (l:List Fld):List (List Nat):=l.map fun f => (srcN f).map (fieldAt l)
def rankO (l:List Fld):List Int:=sweepsO (needL l) l.length l.length
def negO (r:Int):Bool:=decide (r < 0)
def badF (l:List Fld) (i:Nat):Bool:=negO (outAt (rankO l) i)
def nameAt (l:List Fld) (i:Nat):ByteArray:=(l[i]?.map (·.name)).getD ⟨#[]⟩
def cycF (l:List Fld):List Nat:=cycC (badF l) (needL l) (l.length + 1) [] (firstAt negO (rankO l))
def rankR (l:List Fld):List Int × List ByteArray × Int :=
 if fieldsErr l ≠ 0 then ([],[],fieldsErr l) else if (rankO l).any negO then ([],(cycF l).map (nameAt l),10) else (rankO l,[],0)

mutual
theorem tyX_asks (l:List Fld):∀ x:Exp,prtN x = 0 → (tyX l x).2 = 0 → ∀ s ∈ askN x,l.any (hasName s) = true
 | .mk op v nm args,hp,ht,s,hs => by
  obtain ⟨p1,p2,p3,p4⟩:=prt_ok hp
  have p3':(args.length:Int) = argsN op:=p3
  have p4':∀ a ∈ args,prtN a = 0:=p4
  by_cases h2:op = 2
  ·have h0:args = []:=by
    have:argsN op = 0:=by rw [h2];rfl
    exact List.eq_nil_of_length_eq_zero (by omega)
   subst h0
   rw [tyX_ref l (x:=.mk op v nm []) h2] at ht
   have ht':(match fieldTy l nm with | some t => (t,(0:Int)) | none => (0,5)).2 = 0:=ht
   simp [askN,h2,askNL] at hs
   subst hs
   unfold fieldTy at ht'
   cases hf:l.find? (hasName s) with
   | none => rw [hf] at ht';cases ht'
   | some f => exact List.any_eq_true.2 ⟨f,List.mem_of_find?_eq_some hf,List.find?_some hf⟩
  ·have hs':s ∈ askNL args:=by simpa [askN,h2] using hs
   by_cases h1:op = 1
   ·have h0:args = []:=by
     have:argsN op = 0:=by rw [h1];rfl
     exact List.eq_nil_of_length_eq_zero (by omega)
    rw [h0] at hs'
    simp [askNL] at hs'
   ·rw [tyX_app l (x:=.mk op v nm args) h1 h2] at ht
    cases hq:((Exp.mk op v nm args).args.map (tyX l)).find? (fun r => r.2 != 0) with
    | some r =>
     rw [hq] at ht
     have:=List.find?_some hq
     simp at this
     exact absurd ht this
    | none =>
     refine tyL_asks l args p4' (fun a ha => ?_) s hs'
     have:=List.find?_eq_none.1 hq (tyX l a) (List.mem_map.2 ⟨a,ha,rfl⟩)
     simpa using this
theorem tyL_asks (l:List Fld):∀ xs:List Exp,(∀ a ∈ xs,prtN a = 0) → (∀ a ∈ xs,(tyX l a).2 = 0) → ∀ s ∈ askNL xs,l.any (hasName s) = true
 | [],_,_,s,hs => by simp [askNL] at hs
 | a :: r,hp,ht,s,hs => by
  simp only [askNL,List.mem_append] at hs
  rcases hs with hs | hs
  ·exact tyX_asks l a (hp a (by simp)) (ht a (by simp)) s hs
  ·exact tyL_asks l r (fun b hb => hp b (by simp [hb])) (fun b hb => ht b (by simp [hb])) s hs
end
theorem fieldsErr_all {l:List Fld} (h:fieldsErr l = 0):l.length ≤ 14 ∧ ∀ (k:Nat) (f:Fld),l[k]? = some f → fieldErr f = 0 ∧ (l.take k).any (hasName f.name) = false ∧ (1 ≤ f.kind ∧ f.kind ≤ 3) ∧
  (f.kind ≠ 1 → exprErr f.source = 0) ∧ ∀ s ∈ srcN f,l.any (hasName s) = true:=by
 have h0:¬ 14 < l.length:=fun h14 => by unfold fieldsErr at h;rw [if_pos h14] at h;cases h
 have h1:firstErr (fe1 l) l.length = 0:=by
  apply Classical.byContradiction
  intro hne
  unfold fieldsErr at h
  rw [if_neg h0,if_pos hne] at h
  exact hne h
 have h2:firstErr (fe2 l) l.length = 0:=by
  unfold fieldsErr at h
  rw [if_neg h0,if_neg (by simpa using h1)] at h
  exact h
 refine ⟨by omega,fun k f hf => ?_⟩
 have hk:k < l.length:=(List.getElem?_eq_some_iff.1 hf).1
 have e1:=firstErr_all h1 k hk
 have e2:=firstErr_all h2 k hk
 rw [fe2_some hf] at e2
 have hkd:=fe1_kind e1 hf
 have hty:f.kind ≠ 1 → (tyRes l f.source).2 = 0:=fun hn => by
  unfold tyErr at e2
  by_cases hk2:f.kind = 2
  ·rw [if_pos hk2] at e2
   unfold fitErr at e2
   apply Classical.byContradiction
   intro hne
   rw [if_pos hne] at e2
   exact hne e2
  ·rw [if_neg hk2,if_pos (by omega)] at e2
   exact e2
 have hex:f.kind ≠ 1 → exprErr f.source = 0:=fun hn => by
  have:=hty hn
  unfold tyRes at this
  apply Classical.byContradiction
  intro hne
  rw [if_pos hne] at this
  exact hne this
 have hf1:fieldErr f = 0 ∧ (l.take k).any (hasName f.name) = false:=by
  rcases fe1_some hf with ⟨q1,q2⟩ | ⟨q1,q2,q3⟩ | ⟨q1,q2,q3⟩
  ·rw [e1] at q2;exact absurd q2.symm q1
  ·rw [e1] at q3;cases q3
  ·exact ⟨q1,q2⟩
 refine ⟨hf1.1,hf1.2,hkd,hex,fun s hs => ?_⟩
 unfold srcN at hs
 by_cases hk1:f.kind = 1
 ·rw [if_pos hk1] at hs;cases hs
 ·rw [if_neg hk1,rise_mem] at hs
  have h5:=hty hk1
  unfold tyRes at h5
  rw [if_neg (by simpa using hex hk1)] at h5
  exact tyX_asks l f.source (prt_of_expr (hex hk1)) h5 s hs
theorem hasName_iff {s:ByteArray} {f:Fld}:hasName s f = true ↔ f.name = s:=by
 unfold hasName
 constructor
 ·intro h;exact toList_inj (by simpa using h)
 ·intro h;rw [h];simp
theorem fieldAt_some {l:List Fld} {s:ByteArray} (h:l.any (hasName s) = true):fieldAt l s < l.length ∧ ∃ f,l[fieldAt l s]? = some f ∧ f.name = s:=by
 obtain ⟨a,h1,h2,h3⟩:=find_at (hasName s) l h
 exact ⟨h3,a,h1,hasName_iff.1 (List.find?_some h2)⟩
theorem fieldAt_name {l:List Fld} (h:fieldsErr l = 0) {i:Nat} {f:Fld} (hf:l[i]? = some f):fieldAt l f.name = i :=
 firstAt_hit _ l i f hf (hasName_iff.2 rfl) ((fieldsErr_all h).2 i f hf).2.1
theorem needL_lt {l:List Fld} (h:fieldsErr l = 0):∀ i,∀ s ∈ ndAt (needL l) i,s < l.length:=by
 intro i s hs
 unfold ndAt needL at hs
 rw [List.getElem?_map] at hs
 cases hf:l[i]? with
 | none => rw [hf] at hs;cases hs
 | some f =>
  rw [hf] at hs
  obtain ⟨t,ht,rfl⟩:=List.mem_map.1 (show s ∈ (srcN f).map (fieldAt l) from hs)
  exact (fieldAt_some (((fieldsErr_all h).2 i f hf).2.2.2.2 t ht)).1
theorem ndAt_need {l:List Fld} {i:Nat} {f:Fld} (hf:l[i]? = some f):ndAt (needL l) i = (srcN f).map (fieldAt l):=by
 unfold ndAt needL
 rw [List.getElem?_map,hf]
 rfl
end Go.Proofs.YtldbpmlgbbomcaaGreatDoor
/- Slices of ints: slices.IndexFunc, ContainsFunc, Index, Contains, Equal at []int. (printed by mkrnk.py) -/
namespace Go.Proofs.YtldbpmlgbbomcaaGreatDoor
open Go.RowKit

abbrev intCs (n:Int):List Value:=[.int .i64 n]
theorem Tryz.infoIn9:(Tryz.prog.info? 3).map (fun i => (i.zero,i.size,i.bytes)) = some (some (.int .i64 0),1,8):=by kernel_rfl
theorem ownInt {w:World} {base:Nat} {e:TypeId} {v:Value} {n:Nat} {l:List Int} (h:w.ownsRow base e 1 v n (l.flatMap intCs)) (hl:l.length = n) (hw:∀ a ∈ l,inI a) :
  ∃ A c,v = .slice A n c ∧ n ≤ c ∧ Sl w (old w) 1 RInt A n l:=own_slw intCs inI (fun _ => rfl) h hl hw
def isInt (v x:Int):Bool:=v == x
theorem isInt_comm {s t:Int} {b:Bool} (h:isInt s t = b):(t == s) = b:=by rw [← h,isInt,Bool.eq_iff_iff,beq_iff_eq,beq_iff_eq];exact ⟨Eq.symm,Eq.symm⟩
theorem negO_lt {r:Int} (h:negO r = true):r < 0:=by simpa [negO] using h
theorem negO_ge {r:Int} (h:negO r = false):¬ r < 0:=by simpa [negO] using h
abbrev natCs (n:Nat):List Value:=[.int .i64 (n:Int)]
def RNat (cs:List Value) (n:Nat):Prop:=cs = natCs n
theorem Nat_at {w:World} {S:Nat → Prop} {A:Option Addr} {n k:Nat} {l:List Nat} (h:Sl w S 1 RNat A n l) (hk:k < n) :
  ∃ b o c,A = some ⟨b,o,none⟩ ∧ S b ∧ l[k]? = some c ∧ w.cell? ⟨b,o + k,none⟩ = some (.int .i64 (c:Int)):=by
 obtain ⟨b,o,c,cs,rfl,hs,hl,hr,_,hc⟩:=h.at_ hk
 have h0:=hc 0 (by decide)
 rw [Nat.mul_one,hr] at h0
 exact ⟨b,o,c,rfl,hs,hl,h0⟩
def RIs (w:World) (S:Nat → Prop) (cs:List Value) (m:List Nat):Prop:=∃ A c,cs = [.slice A m.length c] ∧ m.length ≤ c ∧ Sl w S 1 RNat A m.length m
theorem keeps_RIs:Keeps RIs:=by
 rintro w w' S S' cs m ⟨A,c,h1,h2,h3⟩ hk
 exact ⟨A,c,h1,h2,h3.keepN (keeps_flat RNat) hk⟩
theorem Tryz.infoInts:(Tryz.prog.info? 101).map (fun i => (i.zero,i.size,i.bytes)) = some (some (.slice none 0 0),1,24):=by kernel_rfl
theorem Is_at {w:World} {S:Nat → Prop} {A:Option Addr} {n k:Nat} {l:List (List Nat)} (h:Sl w S 1 (RIs w S) A n l) (hk:k < n) :
  ∃ b o m X C,A = some ⟨b,o,none⟩ ∧ S b ∧ l[k]? = some m ∧ w.cell? ⟨b,o + k,none⟩ = some (.slice X m.length C) ∧ m.length ≤ C ∧ Sl w S 1 RNat X m.length m:=by
 obtain ⟨b,o,m,cs,rfl,hs,hl,⟨X,C,rfl,h2,h3⟩,_,hc⟩:=h.at_ hk
 have h0:=hc 0 (by decide)
 rw [Nat.mul_one] at h0
 exact ⟨b,o,m,X,C,rfl,hs,hl,h0,h2,h3⟩
set_option maxHeartbeats 400000 in
theorem neg_of (x:Int) (w:World):Calls Tryz.prog 100 #[.int .i64 x] w (RetB w (negO x)):=by
 cases h:negO x
 ·have h1:=negO_ge h
  clear h
  go_enter Tryz.func100,Tryz.ntmps100
  go_wp2
  go_ret
  exact ⟨rfl,bel⟩
 ·have h1:=negO_lt h
  clear h
  go_enter Tryz.func100,Tryz.ntmps100
  go_wp2
  go_ret
  exact ⟨rfl,bel⟩
theorem cf_neg_of (args:Array Value) (w:World):(callFunc 100 args).run Tryz.prog w = .ok (.enter 100 args) w :=
 cf _ _ Tryz.func100 (by kernel_rfl) (by kernel_rfl) args w
set_option maxHeartbeats 400000 in
theorem neg_cyc (x:Int) (w:World):Calls Tryz.prog 138 #[.int .i64 x] w (RetB w (negO x)):=by
 cases h:negO x
 ·have h1:=negO_ge h
  clear h
  go_enter Tryz.func138,Tryz.ntmps138
  go_wp2
  go_ret
  exact ⟨rfl,bel⟩
 ·have h1:=negO_lt h
  clear h
  go_enter Tryz.func138,Tryz.ntmps138
  go_wp2
  go_ret
  exact ⟨rfl,bel⟩
theorem cf_neg_cyc (args:Array Value) (w:World):(callFunc 138 args).run Tryz.prog w = .ok (.enter 138 args) w :=
 cf _ _ Tryz.func138 (by kernel_rfl) (by kernel_rfl) args w
set_option maxHeartbeats 400000 in
theorem ints_Index (v:Int) (A:Option Addr) (n c:Nat) (l:List Int) (w:World) (hn:inL n) (h:Sl w (old w) 1 RInt A n l) :
  Calls Tryz.prog 140 #[.slice A n c,.int .i64 v] w (RetI w (idxOf (isInt v) l)):=by
 unfold inL at hn
 have HH:=Lib.hid h
 clear h
 go_enter Tryz.func140,Tryz.ntmps140
 go_wp2_with fail
 go_loopw [8] (fun i wr => ∃ k:Nat,k ≤ n ∧ i = .int .i64 k ∧ (l.take k).any (isInt v) = false ∧ Below w.heap.size w wr) (fun i _ => n - (intOf i).toNat)
 case atStart => exact ⟨0,by omega,rfl,by simp,Below.refl _ _⟩
 case round =>
  obtain ⟨k,hk,rfl,hv,hb⟩:=hrel
  by_cases hlt:k < n
  ·obtain ⟨b,o,x,rfl,hbl,hl,_,h0⟩:=Int_at (HH.out.now hb) hlt
   have hbl':b < wr.heap.size:=hbl
   have HL:=Lib.hid (And.intro hl hv)
   clear hl hv hbl
   cases hp:isInt v x
   ·have HP:=Lib.hid hp
    have hp2:=isInt_comm hp
    have hp1:(v == x) = _:=hp
    clear hp
    go_wp2_with fail
    go_roundw
    case rel =>
     refine ⟨k + 1,by omega,by go_num,?_,bel⟩
     rw [List.take_add_one,HL.out.1,List.any_append,HL.out.2]
     simp [HP.out]
    case measure => simp [intOf];omega
   ·have HP:=Lib.hid hp
    have hp2:=isInt_comm hp
    have hp1:(v == x) = _:=hp
    clear hp
    go_wp2_with fail
    go_ret
    refine ⟨ret_int ?_,bel⟩
    have e2:l.any (isInt v) = true:=by
     rw [List.any_eq_true]
     exact ⟨x,List.mem_of_getElem? HL.out.1,HP.out⟩
    rw [idxOf,if_pos e2,firstAt_hit (isInt v) l k x HL.out.1 HP.out HL.out.2]
  ·have hke:k = n:=by omega
   subst hke
   have hl:l.take k = l:=by rw [List.take_of_length_le (by rw [HH.out.len];exact Nat.le_refl _)]
   rw [hl] at hv
   have HV:=Lib.hid hv
   clear hl hv
   go_wp2_with fail
   go_ret
   exact ⟨ret_int (by rw [idxOf,HV.out];rfl),hb⟩
set_option maxHeartbeats 400000 in
theorem ints_Contains (v:Int) (A:Option Addr) (n c:Nat) (l:List Int) (w:World) (hn:inL n) (h:Sl w (old w) 1 RInt A n l) :
  Calls Tryz.prog 139 #[.slice A n c,.int .i64 v] w (RetB w (l.any (isInt v))):=by
 have hcl:=ints_Index v A n c l w hn h
 cases hany:l.any (isInt v)
 ·have h1:idxOf (isInt v) l = -1:=by rw [idxOf,hany];rfl
  rw [h1] at hcl
  clear hany h1 h
  go_enter Tryz.func139,Tryz.ntmps139
  go_wp2_with (go_at_call 140;refine hcl.mono ?_;rintro e w1 ⟨rfl,hb1⟩)
  go_ret
  exact ⟨rfl,bel⟩
 ·have h1:idxOf (isInt v) l = (firstAt (isInt v) l:Int):=by rw [idxOf,hany];rfl
  rw [h1] at hcl
  have hlt:=firstAt_le (isInt v) l
  rw [h.len] at hlt
  unfold inL at hn
  clear hany h1 h
  go_enter Tryz.func139,Tryz.ntmps139
  go_wp2_with (go_at_call 140;refine hcl.mono ?_;rintro e w1 ⟨rfl,hb1⟩)
  go_ret
  exact ⟨rfl,bel⟩
set_option maxHeartbeats 400000 in
theorem ints_IdxOf  (A:Option Addr) (n c:Nat) (l:List Int) (w:World) (hn:inL n) (h:Sl w (old w) 1 RInt A n l) :
  Calls Tryz.prog 137 #[.slice A n c,.func (.func 100) #[] #[]] w (RetI w (idxOf (negO) l)):=by
 unfold inL at hn
 have HH:=Lib.hid h
 clear h
 go_enter Tryz.func137,Tryz.ntmps137
 go_wp2_with fail
 go_loopw [8] (fun i wr => ∃ k:Nat,k ≤ n ∧ i = .int .i64 k ∧ (l.take k).any (negO) = false ∧ Below w.heap.size w wr) (fun i _ => n - (intOf i).toNat)
 case atStart => exact ⟨0,by omega,rfl,by simp,Below.refl _ _⟩
 case round =>
  obtain ⟨k,hk,rfl,hv,hb⟩:=hrel
  by_cases hlt:k < n
  ·obtain ⟨b,o,x,rfl,hbl,hl,_,h0⟩:=Int_at (HH.out.now hb) hlt
   have hbl':b < wr.heap.size:=hbl
   have HL:=Lib.hid (And.intro hl hv)
   clear hl hv hbl
   cases hp:negO x
   ·have HP:=Lib.hid hp

    clear hp
    go_wp2_with (refine (neg_of _ _).mono ?_;rintro e w1 ⟨rfl,hb1⟩;try rw [HP.out])
    go_roundw
    case rel =>
     refine ⟨k + 1,by omega,by go_num,?_,bel⟩
     rw [List.take_add_one,HL.out.1,List.any_append,HL.out.2]
     simp [HP.out]
    case measure => simp [intOf];omega
   ·have HP:=Lib.hid hp

    clear hp
    go_wp2_with (refine (neg_of _ _).mono ?_;rintro e w1 ⟨rfl,hb1⟩;try rw [HP.out])
    go_ret
    refine ⟨ret_int ?_,bel⟩
    have e2:l.any (negO) = true:=by
     rw [List.any_eq_true]
     exact ⟨x,List.mem_of_getElem? HL.out.1,HP.out⟩
    rw [idxOf,if_pos e2,firstAt_hit (negO) l k x HL.out.1 HP.out HL.out.2]
  ·have hke:k = n:=by omega
   subst hke
   have hl:l.take k = l:=by rw [List.take_of_length_le (by rw [HH.out.len];exact Nat.le_refl _)]
   rw [hl] at hv
   have HV:=Lib.hid hv
   clear hl hv
   go_wp2_with fail
   go_ret
   exact ⟨ret_int (by rw [idxOf,HV.out];rfl),hb⟩
set_option maxHeartbeats 400000 in
theorem ints_IdxCyc  (A:Option Addr) (n c:Nat) (l:List Int) (w:World) (hn:inL n) (h:Sl w (old w) 1 RInt A n l) :
  Calls Tryz.prog 137 #[.slice A n c,.func (.func 138) #[] #[]] w (RetI w (idxOf (negO) l)):=by
 unfold inL at hn
 have HH:=Lib.hid h
 clear h
 go_enter Tryz.func137,Tryz.ntmps137
 go_wp2_with fail
 go_loopw [8] (fun i wr => ∃ k:Nat,k ≤ n ∧ i = .int .i64 k ∧ (l.take k).any (negO) = false ∧ Below w.heap.size w wr) (fun i _ => n - (intOf i).toNat)
 case atStart => exact ⟨0,by omega,rfl,by simp,Below.refl _ _⟩
 case round =>
  obtain ⟨k,hk,rfl,hv,hb⟩:=hrel
  by_cases hlt:k < n
  ·obtain ⟨b,o,x,rfl,hbl,hl,_,h0⟩:=Int_at (HH.out.now hb) hlt
   have hbl':b < wr.heap.size:=hbl
   have HL:=Lib.hid (And.intro hl hv)
   clear hl hv hbl
   cases hp:negO x
   ·have HP:=Lib.hid hp

    clear hp
    go_wp2_with (refine (neg_cyc _ _).mono ?_;rintro e w1 ⟨rfl,hb1⟩;try rw [HP.out])
    go_roundw
    case rel =>
     refine ⟨k + 1,by omega,by go_num,?_,bel⟩
     rw [List.take_add_one,HL.out.1,List.any_append,HL.out.2]
     simp [HP.out]
    case measure => simp [intOf];omega
   ·have HP:=Lib.hid hp

    clear hp
    go_wp2_with (refine (neg_cyc _ _).mono ?_;rintro e w1 ⟨rfl,hb1⟩;try rw [HP.out])
    go_ret
    refine ⟨ret_int ?_,bel⟩
    have e2:l.any (negO) = true:=by
     rw [List.any_eq_true]
     exact ⟨x,List.mem_of_getElem? HL.out.1,HP.out⟩
    rw [idxOf,if_pos e2,firstAt_hit (negO) l k x HL.out.1 HP.out HL.out.2]
  ·have hke:k = n:=by omega
   subst hke
   have hl:l.take k = l:=by rw [List.take_of_length_le (by rw [HH.out.len];exact Nat.le_refl _)]
   rw [hl] at hv
   have HV:=Lib.hid hv
   clear hl hv
   go_wp2_with fail
   go_ret
   exact ⟨ret_int (by rw [idxOf,HV.out];rfl),hb⟩
set_option maxHeartbeats 400000 in
theorem ints_ContOf  (A:Option Addr) (n c:Nat) (l:List Int) (w:World) (hn:inL n) (h:Sl w (old w) 1 RInt A n l) :
  Calls Tryz.prog 99 #[.slice A n c,.func (.func 100) #[] #[]] w (RetB w (l.any (negO))):=by
 have hcl:=ints_IdxOf  A n c l w hn h
 cases hany:l.any (negO)
 ·have h1:idxOf (negO) l = -1:=by rw [idxOf,hany];rfl
  rw [h1] at hcl
  clear hany h1 h
  go_enter Tryz.func99,Tryz.ntmps99
  go_wp2_with (go_at_call 137;refine hcl.mono ?_;rintro e w1 ⟨rfl,hb1⟩)
  go_ret
  exact ⟨rfl,bel⟩
 ·have h1:idxOf (negO) l = (firstAt (negO) l:Int):=by rw [idxOf,hany];rfl
  rw [h1] at hcl
  have hlt:=firstAt_le (negO) l
  rw [h.len] at hlt
  unfold inL at hn
  clear hany h1 h
  go_enter Tryz.func99,Tryz.ntmps99
  go_wp2_with (go_at_call 137;refine hcl.mono ?_;rintro e w1 ⟨rfl,hb1⟩)
  go_ret
  exact ⟨rfl,bel⟩
theorem Int_at' {w:World} {S:Nat → Prop} {A:Option Addr} {n k:Nat} {l:List Int} (h:Sl w S 1 (fun cs s => cs = [Value.int .i64 s]) A n l) (hk:k < n) :
  ∃ b o c,A = some ⟨b,o,none⟩ ∧ S b ∧ l[k]? = some c ∧ w.cell? ⟨b,o + k,none⟩ = some (.int .i64 c):=by
 obtain ⟨b,o,c,cs,rfl,hs,hl,rfl,_,hc⟩:=h.at_ hk
 have h0:=hc 0 (by decide)
 rw [Nat.mul_one] at h0
 exact ⟨b,o,c,rfl,hs,hl,h0⟩
set_option maxHeartbeats 400000 in
theorem slices_Equal_Int (A A':Option Addr) (n c n' c':Nat) (l:List Int) (S S':Nat → Prop) (w:World) (hn:n ≤ 9223372036854775807)
  (h:Sl w S 1 (fun cs s => cs = [Value.int .i64 s]) A n l) (h':Sl w S' 1 (fun cs s => cs = [Value.int .i64 s]) A' n' l) :
  Calls Tryz.prog 190 #[.slice A n c,.slice A' n' c'] w fun e w' => e = .returned (.bool true) ∧ ∃ k,w' = w.drewN k:=by
 obtain rfl:n = n':=by rw [← h.len,← h'.len]
 have HH:=Lib.hid (And.intro h h')
 clear h h'
 go_enter Tryz.func190,Tryz.ntmps190
 go_wp2_with fail
 go_loopw [13] (fun i wr => ∃ k:Nat,k ≤ n ∧ i = .int .i64 k ∧ ∃ j,wr = w.drewN j) (fun i _ => n - (intOf i).toNat)
 case atStart => exact ⟨0,by omega,rfl,0,rfl⟩
 case round =>
  obtain ⟨k,hk,rfl,j,rfl⟩:=hrel
  by_cases hlt:k < n
  ·obtain ⟨b,o,x,rfl,_,hl,h0⟩:=Int_at' HH.out.1 hlt
   obtain ⟨b',o',x',rfl,_,hl',h0'⟩:=Int_at' HH.out.2 hlt
   rw [hl] at hl'
   cases hl'
   clear hl
   go_wp2_with fail
   go_quiet (fail)
   go_wp2_with fail
   go_roundw
   case rel => exact ⟨k + 1,by omega,by go_num,_,rfl⟩
   case measure => simp [intOf];omega
  ·have hke:k = n:=by omega
   subst hke
   go_wp2_with fail
   go_ret
   exact ⟨rfl,_,rfl⟩
end Go.Proofs.YtldbpmlgbbomcaaGreatDoor
/- rank.needs: what each field asks for, by places. -/
namespace Go.Proofs.YtldbpmlgbbomcaaGreatDoor
open Go.RowKit

def RetNd (w:World) (nd:List (List Nat)) (e:Ending) (w':World):Prop:=∃ v,e = .returned v ∧ Own w' w.heap.size 101 1 RIs v nd ∧ Below w.heap.size w w'
theorem needL_len (l:List Fld):(needL l).length = l.length:=by simp [needL]
theorem needL_take {l:List Fld} {k:Nat} {f:Fld} (hf:l[k]? = some f):(needL l).take k ++ [(srcN f).map (fieldAt l)] = (needL l).take (k + 1):=by
 rw [List.take_add_one]
 unfold needL
 rw [List.getElem?_map,hf]
 rfl
theorem namesR_src {f:Fld} (h:exprErr f.source = 0) (hk:f.kind ≠ 1):namesR f.source = (srcN f,0):=by
 unfold namesR srcN
 rw [if_pos h,if_neg hk]

set_option maxRecDepth 100000 in
set_option maxHeartbeats 4000000 in
theorem rank_needs (l:List Fld) (L:Option Addr) (n d:Nat) (w:World) (_:inB 112 n) (hl:Sl w (old w) 9 (RFld w (old w)) L n l) (he:fieldsErr l = 0) (hN:∀ f ∈ l,f.source.nodes ≤ 1048576) (hst:∀ f ∈ l,∀ s ∈ askN f.source,inS s) :
  Calls Tryz.prog 97 #[.slice L n d] w (RetNd w (needL l)):=by
 obtain ⟨j0,hj0,iz0,iz1,iz2⟩:=info_parts Tryz.infoInts
 obtain ⟨i0,ei,ez0,ez1,ez2⟩:=info_parts Tryz.infoIn9
 have hll:=hl.len
 have hal:=fieldsErr_all he
 have h14:n ≤ 14:=by rw [← hll];exact hal.1
 have HH:=Lib.hid (And.intro hl (And.intro hll (And.intro hal.2 (And.intro hN (And.intro he hst)))))
 clear hl hll hal hN he hst
 go_enter Tryz.func97,Tryz.ntmps97
 go_wp2_with fail
 go_loopw [3,15] (fun out i wr => ∃ k:Nat,k ≤ n ∧ i = .int .i64 k ∧ Hid (Own wr w.heap.size 101 1 RIs out ((needL l).take k)) ∧ Below w.heap.size w wr) (fun _ i _ => n - (intOf i).toNat)
 case atStart => exact ⟨0,by omega,rfl,Lib.hid Own.nil,Below.refl _ _⟩
 case round =>
  obtain ⟨k,hk,rfl,hown,hbr⟩:=hrel
  have hzr:=hbr.size
  by_cases hlt:k < n
  ·obtain ⟨b,o,f,X,C,hAe,hbl,hlf,hrep,x0,x1,x2,x3,x4,x5,x6,x7,x8⟩:=Fld_at (HH.out.1.nowN keeps_Fld hbr) hlt
   subst hAe
   have hbl':b < wr.heap.size:=hbl
   obtain ⟨r1,r2,r3,r4⟩:=hrep.parts
   have hfm:=List.mem_of_getElem? hlf
   have hlk:((needL l).take k).length = k:=by rw [List.length_take,needL_len,HH.out.2.1];omega
   have HK:=Lib.hid hlk
   have HT:=Lib.hid (needL_take hlf)
   have hfa:=HH.out.2.2.1 k f hlf
   have hnf:=HH.out.2.2.2.1 f hfm
   have hsf:=HH.out.2.2.2.2.2 f hfm
   have HR:=Lib.hid r4
   clear hrep r1 r2 r3 r4 hlk hbl hlf hfm
   by_cases hkd:f.kind = 1
   ·have hs0:(srcN f).map (fieldAt l) = []:=by rw [srcN,if_pos hkd];rfl
    have g1:(f.kind == 1) = true:=by rw [hkd];rfl
    have g2:(f.kind != 1) = false:=by rw [hkd];rfl
    rw [hs0] at HT
    clear hs0 hkd hfa hnf hsf
    go_wp2_with (at_builtin;refine wpList_append_Own keeps_RIs rfl (.tmp 45) (.tmp 47) 139 rfl w.heap.size 101 j0 _ 1 24 Tryz.underlying139 hj0 iz0 iz1 iz2 rfl (by decide) _ ((needL l).take k) rfl (hown.out.keep keeps_RIs ((Below.refl _ _).alloc (Nat.le_refl _) _)) [.slice none 0 0] 101 rfl _ rfl (by simp) rfl (by simp [Value.oneCell']) (by rw [HK.out];omega) (by rw [HK.out];unfold maxLen;omega) (by simp;omega) [] ⟨none,0,rfl,Nat.le_refl _,Sl.nil⟩ ?_;intro g' cap w5 hown5 hb5 hz5 _ _;rw [HK.out] at hown5 ⊢)
    have hB5:Below w.heap.size w w5:=below_step (below_step hbr (show Below wr.heap.size wr _ from bel) hzr) hb5 (Nat.le_refl _)
    go_roundw
    case rel =>
     refine ⟨k + 1,by omega,by go_num,Lib.hid ?_,hB5⟩
     rw [← HT.out]
     exact hown5
    case measure => simp [intOf];omega
   ·have g1:(f.kind == 1) = false:=by simpa using hkd
    have g2:(f.kind != 1) = true:=by simpa using hkd
    have hex:=hfa.2.2.2.1 hkd
    have hof:=fun w h => names_Of f.source X C w hnf h
    rw [namesR_src hex hkd] at hof
    have hsi:∀ s ∈ srcN f,inS s:=fun s hs => by
     rw [srcN,if_neg hkd,rise_mem] at hs
     exact hsf s hs
    have hsl:(srcN f).length ≤ 1048576:=by
     rw [srcN,if_neg hkd]
     exact Nat.le_trans (rise_len _) (Nat.le_trans (askN_nodes _) hnf)
    have hfd:∀ s ∈ srcN f,findRes (hasName s) l = ((fieldAt l s:Int),0):=fun s hs => by
     rw [findRes,if_pos (hfa.2.2.2.2 s hs)]
     rfl
    generalize srcN f = ss at *
    have HS:=Lib.hid (And.intro hsi hfd)
    clear hfa hnf hsf hkd hex hsi hfd
    go_wp2_with (go_at_call 136;refine (hof _ (HR.out.keep (old_keep bel))).mono ?_;rintro e w2 ⟨v2,rfl,hown2,hb2⟩;obtain ⟨A2,c2,rfl,hc2,hs2⟩:=ownStr hown2 rfl HS.out.1;obtain ⟨hc2,hf2⟩:=bcell hb2;(try simp only [bqh,bqc,bqf] at hc2 hf2);have hz2:=hb2.size;(try simp at hz2);(try have hy2:=nl1 hz2);(try have hx2:=nl2 hy2);refine szz w2 wr ?_;intros)
    have hB2:Below wr.heap.size wr w2:=bel
    have hzz2:=hB2.size
    have HA:=Lib.hid hs2
    clear hof hown2 hs2
    generalize hwq:wr = wq at *
    clear hwq
    go_loopw [6,30] (fun mine i wr => ∃ j:Nat,j ≤ ss.length ∧ i = .int .i64 j ∧ Hid (wr.ownsRow w2.heap.size 3 1 mine j ((ss.take j).flatMap (fun s => natCs (fieldAt l s)))) ∧ Below w2.heap.size w2 wr) (fun _ i _ => ss.length - (intOf i).toNat)
    case atStart => exact ⟨0,by omega,rfl,Lib.hid (by simpa using World.ownsRow_nil _ _ _ _),Below.refl _ _⟩
    case round =>
     obtain ⟨j,hj,rfl,hm,hbj⟩:=hrel
     have hzj:=hbj.size
     by_cases hltj:j < ss.length
     ·obtain ⟨b3,o3,s,hA2,hb3,hls,hins,y0⟩:=Str_at (HA.out.now hbj) hltj
      subst hA2
      have hb3':b3 < wr.heap.size:=hb3
      have hfi:=fun w h => field_Find (some ⟨b,o,none⟩) n d l s w (by unfold inL;omega) h
      rw [HS.out.2 s (List.mem_of_getElem? hls)] at hfi
      have HL:=Lib.hid (show ss.take j ++ [s] = ss.take (j + 1) by rw [List.take_add_one,hls];rfl)
      have hBj:Below w.heap.size w wr:=below_step (below_step hbr hB2 hzr) hbj (by omega)
      clear hls hb3
      go_wp2_with (first
       | (go_at_call 103;refine (hfi _ (HH.out.1.nowN keeps_Fld hBj)).mono ?_;rintro e w4 ⟨rfl,hb4⟩;obtain ⟨hc4,hf4⟩:=bcell hb4;(try simp only [bqh,bqc,bqf] at hc4 hf4);have hz4:=hb4.size;(try simp at hz4);(try have hy4:=nl1 hz4);(try have hx4:=nl2 hy4);refine szz w4 wr ?_;intros)
       | (at_builtin;refine wpList_append1 rfl _ _ 101 rfl w2.heap.size 3 i0 _ 1 8 Tryz.underlying101 ei ez0 ez1 ez2 rfl (by decide) _ j _ rfl (ownsRow_keep hm.out hb4) [.int .i64 (fieldAt l s:Int)] 3 rfl _ rfl (by simp) rfl (by simp [Value.oneCell']) (by omega) (by unfold maxLen;omega) (by have:=hbj.size;have:=hb4.size;omega) ?_;intro v6 w6 hown6 hb6 hz6 _))
      go_roundw
      case rel =>
       refine ⟨j + 1,by omega,by go_num,Lib.hid ?_,below_step (below_step hbj (show Below wr.heap.size wr w4 from bel) hzj) hb6 (Nat.le_refl _)⟩
       rw [← HL.out,List.flatMap_append]
       simpa using hown6
      case measure => simp [intOf];omega
     ·have hje:j = ss.length:=by omega
      subst hje
      have hm':=hm.out
      rw [List.take_length] at hm'
      have hm2:wr.ownsRow w2.heap.size 3 1 u6 ((ss.map (fieldAt l)).length) ((ss.map (fieldAt l)).flatMap natCs):=by rw [List.length_map,List.flatMap_map];exact hm'
      obtain ⟨A6,c6,e6,hc6,hs6⟩:=own_sl natCs (fun _ => rfl) hm2 rfl
      subst e6
      have HM:=Lib.hid (And.intro hs6 hm2.lt)
      clear hm hm' hm2 hs6
      have hBj:Below wq.heap.size wq wr:=below_step hB2 hbj hzz2
      have hRI:RIs wr (beside w.heap.size u3 wr) [.slice A6 ss.length c6] (ss.map (fieldAt l)):=⟨A6,c6,by rw [List.length_map],hc6,HM.out.1.mono (fun b hb => ⟨by have:=hb.1;omega,hb.2,fun e => by have:=(hown.out.lt b e.symm).2;have:=hb.1;omega⟩)⟩
      go_wp2_with (at_builtin;refine wpList_append_Own keeps_RIs rfl (.tmp 45) (.tmp 47) 139 rfl w.heap.size 101 j0 _ 1 24 Tryz.underlying139 hj0 iz0 iz1 iz2 rfl (by decide) _ ((needL l).take k) rfl (hown.out.keep keeps_RIs hBj) [.slice A6 ss.length c6] 101 rfl _ rfl rfl rfl (by simp [Value.oneCell']) (by rw [HK.out];omega) (by rw [HK.out];unfold maxLen;omega) (by omega) (ss.map (fieldAt l)) hRI ?_;intro g' cap w7 hown7 hb7 hz7 _ _;rw [HK.out] at hown7 ⊢)
      go_roundw
      case rel =>
       refine ⟨k + 1,by omega,by go_num,Lib.hid ?_,below_step (below_step hbr hBj hzr) hb7 (Nat.le_refl _)⟩
       rw [← HT.out]
       exact hown7
      case measure => simp [intOf];omega
  ·have hkn:k = n:=by omega
   subst hkn
   have etk:(needL l).take k = needL l:=List.take_of_length_le (by rw [needL_len,HH.out.2.1];exact Nat.le_refl _)
   have hown':=hown.out
   rw [etk] at hown'
   have HO:=Lib.hid hown'
   clear hown hown'
   go_wp2_with fail
   go_ret
   exact ⟨_,rfl,HO.out,hbr⟩
end Go.Proofs.YtldbpmlgbbomcaaGreatDoor
/- rank.ranks: the ranks of all fields that can be ranked. -/
namespace Go.Proofs.YtldbpmlgbbomcaaGreatDoor
open Go.RowKit

def IntBlk (w:World) (g:Nat) (O:List Int):Prop:=∀ j,j < O.length → w.cell? ⟨g,j,none⟩ = some (.int .i64 (outAt O j)) ∧ w.frozen? ⟨g,j,none⟩ = false
theorem IntBlk.below {w w':World} {g:Nat} {O:List Int} (h:IntBlk w g O) (hb:Below w.heap.size w w') (hg:g < w.heap.size):IntBlk w' g O:=fun j hj =>
 ⟨(hb.cell (p:=⟨g,j,none⟩) hg).trans (h j hj).1,(hb.frozen (p:=⟨g,j,none⟩) hg).trans (h j hj).2⟩
theorem IntBlk.set {w:World} {g i:Nat} {O:List Int} (h:IntBlk w g O) (hi:i < O.length) (v:Int):IntBlk (w.setCell ⟨g,i,none⟩ (.int .i64 v)) g (O.set i v):=by
 intro j hj
 rw [List.length_set] at hj
 rw [outAt_set _ _ _ _ hi]
 refine ⟨?_,by rw [World.frozen?_setCell];exact (h j hj).2⟩
 by_cases hij:i = j
 ·subst hij
  rw [if_pos rfl]
  exact World.cell?_setCell_same' _ _ _ (by rw [(h i hi).1];rfl)
 ·rw [if_neg hij,World.cell?_setCell_other]
  ·exact (h j hj).1
  ·intro e
   exact hij (by injection e)
theorem outAt_at {O:List Int} {i:Nat} {v:Int} (h:O[i]? = some v):outAt O i = v:=by unfold outAt;rw [h];rfl
theorem IntBlk.sl {w:World} {g:Nat} {O:List Int} {S:Nat → Prop} (h:IntBlk w g O) (hg:S g) (hw:∀ a ∈ O,inI a):Sl w S 1 RInt (some ⟨g,0,none⟩) O.length O:=by
 refine ⟨rfl,fun hn => ⟨g,0,rfl,hg,fun i v hv => ⟨[.int .i64 v],⟨rfl,hw v (List.mem_of_getElem? hv)⟩,rfl,fun j hj => ?_⟩⟩⟩
 obtain rfl:j = 0:=by omega
 have hi:=(List.getElem?_eq_some_iff.1 hv).1
 have:=(h i hi).1
 rw [outAt_at hv] at this
 simpa using this
def RetInts (w:World) (O:List Int) (e:Ending) (w':World):Prop:=∃ A c,e = .returned (.slice A O.length c) ∧ O.length ≤ c ∧ Sl w' (fun b => w.heap.size ≤ b ∧ b < w'.heap.size) 1 RInt A O.length O ∧ Below w.heap.size w w'
theorem GoodO.bd {nd:List (List Nat)} {N:Nat} (hN:∀ i,∀ s ∈ ndAt nd i,s < N) {out:List Int} (h:GoodO nd N out) {i:Nat} (hi:i < N):-1 ≤ outAt out i ∧ outAt out i < N:=by
 rcases h.2 i hi with h1 | ⟨n,k,h1,h2⟩
 ·omega
 ·have:=(rkL_inv (rkL_top hN hi h2)).1
  omega
theorem GoodO.inI {nd:List (List Nat)} {N:Nat} (hN:∀ i,∀ s ∈ ndAt nd i,s < N) {out:List Int} (h:GoodO nd N out) (h14:N ≤ 14):∀ a ∈ out,inI a:=by
 intro a ha
 obtain ⟨i,hi,e⟩:=List.mem_iff_getElem.1 ha
 have h1:=h.bd hN (i:=i) (by rw [← h.1];exact hi)
 rw [outAt_at (v:=a) (by rw [List.getElem?_eq_getElem hi,e])] at h1
 unfold Go.Proofs.YtldbpmlgbbomcaaGreatDoor.inI
 rw [Lit.wf]
 have e1:IntKind.i64.min = -9223372036854775808:=by decide
 have e2:IntKind.i64.max = 9223372036854775807:=by decide
 simp only [e1,e2,Bool.and_eq_true,decide_eq_true_eq]
 omega
theorem maxO_snoc (out:List Int) (l:List Nat) (k:Nat):maxO out (l ++ [k]) = max (maxO out l) (outAt out k + 1):=by simp [maxO]
theorem mostO_neg {out:List Int} {l:List Nat} {k j:Nat} (h:l[j]? = some k) (hk:outAt out k < 0):mostO out l = -1:=by
 unfold mostO
 rw [if_pos (List.any_eq_true.2 ⟨k,List.mem_of_getElem? h,by simpa using hk⟩)]
theorem mostO_all {out:List Int} {l:List Nat} (h:∀ s ∈ l,¬ outAt out s < 0):mostO out l = maxO out l:=by
 unfold mostO
 rw [if_neg (fun ha => by
  obtain ⟨s,hs,h1⟩:=List.any_eq_true.1 ha
  exact h s hs (by simpa using h1))]
theorem ndAt_at {nd:List (List Nat)} {i:Nat} {m:List Nat} (h:nd[i]? = some m):ndAt nd i = m:=by unfold ndAt;rw [h];rfl
theorem rep_set (N k:Nat) (hk:k < N):(List.replicate k (-1:Int) ++ List.replicate (N - k) 0).set k (-1) = List.replicate (k + 1) (-1) ++ List.replicate (N - (k + 1)) 0:=by
 obtain ⟨m,hm⟩:∃ m,N - k = m + 1:=⟨N - k - 1,by omega⟩
 have hm':N - (k + 1) = m:=by omega
 rw [hm,hm',List.set_append,if_neg (by simp),List.length_replicate,Nat.sub_self,List.replicate_succ,List.set_cons_zero,List.replicate_succ',List.append_assoc]
 rfl

set_option maxRecDepth 100000 in
set_option maxHeartbeats 4000000 in
theorem rank_ranks (nd:List (List Nat)) (L:Option Addr) (n d:Nat) (w:World) (h14:n ≤ 14) (hN:∀ i,∀ s ∈ ndAt nd i,s < n) (hl:Sl w (old w) 1 (RIs w (old w)) L n nd) (hln:∀ m ∈ nd,m.length ≤ 1048576) :
  Calls Tryz.prog 98 #[.slice L n d] w (RetInts w (sweepsO nd n n)):=by
 have hmk:=fun w => run_make_row' (P:=Tryz.prog) 101 3 (.int .i64 0) 8 Tryz.underlying101 Tryz.infoIn9 rfl .i64 .i64 n (by omega) (by omega) w
 have HH:=Lib.hid (And.intro hl (And.intro hN hln))
 clear hl hN hln
 go_enter Tryz.func98,Tryz.ntmps98
 go_wp2_with fail
 have hb0:IntBlk (w.alloc (.cells (madeCells #[Value.int .i64 0] n) 3)) w.heap.size (List.replicate 0 (-1) ++ List.replicate (n - 0) 0):=by
  intro j hj
  have hjn:j < n:=by simpa using hj
  have e:outAt (List.replicate 0 (-1) ++ List.replicate (n - 0) (0:Int)) j = 0:=outAt_at (by simp [hjn])
  rw [e]
  refine ⟨?_,?_⟩
  ·have h1:=(World.rowIs_made w (.int .i64 0) n 3).cell hjn
   simpa using h1
  ·exact (World.rowIs_made w (.int .i64 0) n 3).frozen j
 go_loopw [15] (fun i wr => ∃ k:Nat,k ≤ n ∧ i = .int .i64 k ∧ IntBlk wr w.heap.size (List.replicate k (-1) ++ List.replicate (n - k) 0) ∧ Below w.heap.size w wr ∧ w.heap.size < wr.heap.size) (fun i _ => n - (intOf i).toNat)
 case atStart => exact ⟨0,by omega,rfl,hb0,bel,by simp⟩
 case round =>
  obtain ⟨k,hk,rfl,hO,hbr,hgl⟩:=hrel
  by_cases hlt:k < n
  ·have hlen:(List.replicate k (-1:Int) ++ List.replicate (n - k) 0).length = n:=by simp;omega
   have hc:=hO k (by omega)
   have c0:=hc.1
   have f0:=hc.2
   have HO:=Lib.hid (And.intro hO hlen)
   clear hO hc hlen
   go_wp2_with fail
   go_roundw
   case rel =>
    refine ⟨k + 1,by omega,by go_num,?_,bel,by simp;omega⟩
    have h1:=HO.out.1.set (i:=k) (by rw [HO.out.2];exact hlt) (-1)
    rw [rep_set n k hlt] at h1
    exact h1
   case measure => simp [intOf];omega
  ·have hkn:k = n:=by omega
   subst hkn
   have hO':IntBlk wr w.heap.size (sweepsO nd k 0):=by simpa [sweepsO] using hO
   clear hO
   go_wp2_with fail
   generalize hwq:wr = wq at *
   clear hwq
   go_loopw [24] (fun i wr => ∃ t:Nat,t ≤ k ∧ i = .int .i64 t ∧ IntBlk wr w.heap.size (sweepsO nd k t) ∧ Below w.heap.size w wr ∧ w.heap.size < wr.heap.size) (fun i _ => k - (intOf i).toNat)
   case atStart => exact ⟨0,by omega,rfl,hO',hbr,hgl⟩
   case round =>
    obtain ⟨t,ht,rfl,hOt,hbt,hgt⟩:=hrel
    by_cases hltt:t < k
    ·have HG:=Lib.hid (sweepsO_good HH.out.2.1 t).1
     generalize hwt:wr = wt at *
     clear hwt
     go_wp2_with fail
     go_loopw [28] (fun i wr => ∃ i':Nat,i' ≤ k ∧ i = .int .i64 i' ∧ IntBlk wr w.heap.size (sweepTo nd (sweepsO nd k t) i') ∧ Below w.heap.size w wr ∧ w.heap.size < wr.heap.size) (fun i _ => k - (intOf i).toNat)
     case atStart => exact ⟨0,by omega,rfl,hOt,hbt,hgt⟩
     case round =>
      obtain ⟨i,hik,rfl,hOi,hbi,hgi⟩:=hrel
      by_cases hlti:i < k
      ·obtain ⟨b,o,m,X,C,hAe,hbl,hlm,x0,hmC,hsm⟩:=Is_at (HH.out.1.nowN keeps_RIs hbi) hlti
       subst hAe
       have hbl':b < wr.heap.size:=hbl
       have hGi:=(sweepTo_good HH.out.2.1 HG.out i hik).1
       have hOl:(sweepTo nd (sweepsO nd k t) i).length = k:=hGi.1
       have hst:sweepTo nd (sweepsO nd k t) (i + 1) = (sweepTo nd (sweepsO nd k t) i).set i (max (outAt (sweepTo nd (sweepsO nd k t) i) i) (mostO (sweepTo nd (sweepsO nd k t) i) m)):=by
        show stepO nd _ i = _
        rw [stepO,ndAt_at hlm]
       have hbd:=fun j hj => hGi.bd HH.out.2.1 (i:=j) hj
       have hml:=HH.out.2.2 m (List.mem_of_getElem? hlm)
       have hmN:∀ s ∈ m,s < k:=fun s hs => HH.out.2.1 i s (by rw [ndAt_at hlm];exact hs)
       generalize sweepTo nd (sweepsO nd k t) i = O at *
       have HO:=Lib.hid (And.intro hOi (And.intro hOl (And.intro hst (And.intro hbd (And.intro hmN hsm)))))
       clear hOi hst hbd hmN hsm hlm hGi hbl
       generalize hwi:wr = wi at *
       clear hwi
       go_wp2_with fail
       go_loopw [7,35] (fun mm j wr => ∃ j':Nat,j' ≤ m.length ∧ j = .int .i64 j' ∧ mm = .int .i64 (maxO O (m.take j')) ∧ (∀ s ∈ m.take j',¬ outAt O s < 0) ∧ wr = wi ∧ 0 ≤ maxO O (m.take j') ∧ maxO O (m.take j') ≤ k) (fun _ j _ => m.length - (intOf j).toNat)
       case atStart => exact ⟨0,by omega,rfl,rfl,fun s h => absurd h (by simp),rfl,by simp [maxO],by simp [maxO]⟩
       case round =>
        obtain ⟨j,hj,rfl,rfl,hnn,rfl,hm0,hmk'⟩:=hrel
        by_cases hltj:j < m.length
        ·obtain ⟨b2,o2,s,hX,hb2,hls,y0⟩:=Nat_at HO.out.2.2.2.2.2 hltj
         subst hX
         have hb2':b2 < wr.heap.size:=hb2
         have hsk:=HO.out.2.2.2.2.1 s (List.mem_of_getElem? hls)
         have hcs:=(HO.out.1 s (by rw [HO.out.2.1];exact hsk)).1
         have hbs:=HO.out.2.2.2.1 s hsk
         by_cases hneg:outAt O s < 0
         ·have HM:=Lib.hid (mostO_neg hls hneg)
          have hci:=HO.out.1 i (by rw [HO.out.2.1];exact hlti)
          have c0:=hci.1
          have f0:=hci.2
          have hbi':=HO.out.2.2.2.1 i hlti
          generalize hoi:outAt O i = vi at *
          have HOI:=Lib.hid hoi
          clear hnn hls hb2 hci hoi hm0 hmk'
          go_wp2_with fail
          go_roundw
          case rel =>
           refine ⟨i + 1,by omega,by go_num,?_,bel,by simp;omega⟩
           have h1:=HO.out.1.set (i:=i) (by rw [HO.out.2.1];exact hlti) (max (outAt O i) (mostO O m))
           rw [HOI.out,← HO.out.2.2.1,HM.out] at h1
           refine Eq.mp ?_ h1
           first
            | (congr 3;done)
            | (congr 3;split <;> omega)
          case measure => simp [intOf];omega
         ·have hwr:IntKind.i64.wrap (outAt O s + 1) = outAt O s + 1:=IntWalk.i64_in _ (by omega)
          have htk:m.take (j + 1) = m.take j ++ [s]:=by rw [List.take_add_one,hls];rfl
          have hmx:maxO O (m.take (j + 1)) = max (maxO O (m.take j)) (outAt O s + 1):=by rw [htk,maxO_snoc]
          have HX:=Lib.hid (And.intro hnn (And.intro htk hmx))
          generalize hoi:outAt O s = vs at *
          have HOI:=Lib.hid hoi
          generalize maxO O (m.take j) = mx at *
          clear hnn hls hb2 htk hmx hoi
          go_wp2_with fail
          go_roundw
          case rel =>
           refine ⟨j + 1,by omega,by go_num,?_,?_,by trivial,by rw [HX.out.2.2];omega,by rw [HX.out.2.2];omega⟩
           ·rw [HX.out.2.2] <;> first | (congr 1;done) | (congr 1;split <;> omega)
           ·intro x hx
            rw [HX.out.2.1] at hx
            rcases List.mem_append.1 hx with hx | hx
            ·exact HX.out.1 x hx
            ·simp at hx
             rw [hx,HOI.out]
             exact hneg
          case measure => simp [intOf];omega
        ·have hje:j = m.length:=by omega
         subst hje
         rw [List.take_length] at *
         have HM:=Lib.hid (mostO_all hnn)
         have hci:=HO.out.1 i (by rw [HO.out.2.1];exact hlti)
         have c0:=hci.1
         have f0:=hci.2
         have hbi':=HO.out.2.2.2.1 i hlti
         generalize hoi:outAt O i = vi at *
         have HOI:=Lib.hid hoi
         generalize hmo:maxO O m = mx at *
         have HMO:=Lib.hid hmo
         clear hnn hci hoi hmo
         go_wp2_with fail
         go_roundw
         case rel =>
          refine ⟨i + 1,by omega,by go_num,?_,bel,by simp;omega⟩
          have h1:=HO.out.1.set (i:=i) (by rw [HO.out.2.1];exact hlti) (max (outAt O i) (mostO O m))
          rw [HOI.out,← HO.out.2.2.1,HM.out] at h1
          refine Eq.mp ?_ h1
          first
           | (congr 3;done)
           | (congr 3;split <;> omega)
         case measure => simp [intOf];omega
      ·have hik':i = k:=by omega
       subst hik'
       have HS:=Lib.hid (show IntBlk wr w.heap.size (sweepsO nd i (t + 1)) from hOi)
       clear hOi
       go_wp2_with fail
       go_roundw
       case rel => exact ⟨t + 1,by omega,by go_num,HS.out,hbi,hgi⟩
       case measure => simp [intOf];omega
    ·have htk:t = k:=by omega
     subst htk
     have HG:=Lib.hid (sweepsO_good HH.out.2.1 t).1
     have HS:=Lib.hid hOt
     clear hOt
     go_wp2_with fail
     go_ret
     refine ⟨some ⟨w.heap.size,0,none⟩,t,by rw [HG.out.1];rfl,by rw [HG.out.1];exact Nat.le_refl _,HS.out.sl (S:=fun b => w.heap.size ≤ b ∧ b < wr.heap.size) ⟨Nat.le_refl _,hgt⟩ (HG.out.inI HH.out.2.1 h14),hbt⟩
end Go.Proofs.YtldbpmlgbbomcaaGreatDoor
/- rank.cycle: a cycle from the first field that can't be ranked. -/
namespace Go.Proofs.YtldbpmlgbbomcaaGreatDoor
open Go.RowKit

def lenOf:Value → Nat
 | .slice _ n _ => n
 | _ => 0
abbrev toI (l:List Nat):List Int:=l.map fun (i:Nat) => (i:Int)
theorem own_sli {w:World} {base:Nat} {e:TypeId} {v:Value} {n:Nat} {l:List Int} (h:w.ownsRow base e 1 v n (l.flatMap intCs)) (hl:l.length = n) (hw:∀ a ∈ l,inI a) :
  ∃ A c,v = .slice A n c ∧ n ≤ c ∧ Sl w (since base w) 1 RInt A n l:=by
 obtain ⟨A,c,rfl,hc,hs⟩:=own_sl intCs (fun _ => rfl) h hl
 refine ⟨A,c,rfl,hc,hs.1,fun hn => ?_⟩
 obtain ⟨b,o,e,hS,hcc⟩:=hs.2 hn
 refine ⟨b,o,e,hS,fun i v hv => ?_⟩
 obtain ⟨cs,rfl,hl',h'⟩:=hcc i v hv
 exact ⟨_,⟨rfl,hw v (List.mem_of_getElem? hv)⟩,hl',h'⟩
theorem any_isInt (l:List Nat) (i:Nat):(toI l).any (isInt i) = l.any (fun x => x == i):=by
 rw [List.any_map]
 congr 1
 funext x
 simp only [Function.comp_apply,isInt]
 rw [Bool.eq_iff_iff,beq_iff_eq,beq_iff_eq]
 omega
theorem firstAt_isInt (i:Nat):∀ l:List Nat,firstAt (isInt i) (toI l) = firstAt (fun x => x == i) l
 | [] => rfl
 | a :: l => by
  have h:=firstAt_isInt i l
  have e:isInt i (a:Int) = (a == i):=by rw [isInt,Bool.eq_iff_iff,beq_iff_eq,beq_iff_eq];omega
  simp only [toI,List.map_cons,firstAt,e] at h ⊢
  rw [h]
theorem inI_small {x:Int} (h1:0 ≤ x) (h2:x ≤ 1000000):inI x:=by
 unfold inI
 rw [Lit.wf]
 have e1:IntKind.i64.min = -9223372036854775808:=by decide
 have e2:IntKind.i64.max = 9223372036854775807:=by decide
 simp only [e1,e2,Bool.and_eq_true,decide_eq_true_eq]
 omega
theorem toI_in {n:Nat} {path:List Nat} (h:PathC n path) (h14:n ≤ 14):∀ a ∈ toI path,inI a:=by
 intro a ha
 obtain ⟨x,hx,rfl⟩:=List.mem_map.1 ha
 have:=h.2 x hx
 exact inI_small (by omega) (by omega)
theorem firstAt_any {α:Type} (p:α → Bool) (l:List α) (h:l.any p = true):firstAt p l < l.length:=by
 obtain ⟨_,_,_,h3⟩:=find_at p l h
 exact h3
theorem find_take {bad:Nat → Bool} {m:List Nat} {j s:Nat} (h:∀ x ∈ m.take j,bad x = false) (hs:m[j]? = some s) (hb:bad s = true):m.find? bad = some s:=by
 have hj:=(List.getElem?_eq_some_iff.1 hs).1
 have e:m = m.take j ++ s :: m.drop (j + 1):=by
  have:=List.take_append_drop j m
  rw [List.drop_eq_getElem_cons hj] at this
  have e2:m[j] = s:=by rw [List.getElem?_eq_getElem hj] at hs;exact Option.some.inj hs
  rw [e2] at this
  exact this.symm
 rw [e,List.find?_append,List.find?_eq_none.2 (fun x hx => by rw [h x hx];decide)]
 simp [hb]

set_option maxRecDepth 100000 in
set_option maxHeartbeats 4000000 in
theorem rank_cycle (nd:List (List Nat)) (O:List Int) (L A2:Option Addr) (n d c2:Nat) (w:World) (h14:n ≤ 14) (hN:∀ i,∀ s ∈ ndAt nd i,s < n) (hl:Sl w (old w) 1 (RIs w (old w)) L n nd) (hln:∀ m ∈ nd,m.length ≤ 1048576)
  (hr:Sl w (old w) 1 RInt A2 n O) (hbad:O.any negO = true) :
  Calls Tryz.prog 101 #[.slice L n d,.slice A2 n c2] w (RetInts w (toI (cycC (fun i => negO (outAt O i)) nd (n + 1) [] (firstAt negO O)))):=by
 obtain ⟨i0,hi,hz0,hz1,hz2⟩:=info_parts Tryz.infoIn9
 have hcyc:=fun w h => ints_IdxCyc A2 n c2 O w (by unfold inL;omega) h
 have hfa:=firstAt_any negO O hbad
 rw [idxOf,if_pos hbad] at hcyc
 rw [hr.len] at hfa
 generalize hres:cycC (fun i => negO (outAt O i)) nd (n + 1) [] (firstAt negO O) = RES
 generalize firstAt negO O = a0 at *
 have HH:=Lib.hid (And.intro hl (And.intro hN (And.intro hln (And.intro hr hr.len))))
 have HRES:=Lib.hid hres
 clear hl hN hln hr hbad hres
 go_enter Tryz.func101,Tryz.ntmps101
 go_wp2_with (go_at_call 137;refine (hcyc _ (HH.out.2.2.2.1.now bel)).mono ?_;rintro e w1 ⟨rfl,hb1⟩)
 go_loopw [5,6] (fun at_ v wr => ∃ (path:List Nat) (i:Nat),at_ = .int .i64 i ∧ i < n ∧ Hid (wr.ownsRow w.heap.size 3 1 v path.length ((toI path).flatMap intCs)) ∧ lenOf v = path.length ∧ PathC n path ∧ Hid (cycC (fun i => negO (outAt O i)) nd (n + 1 - path.length) path i = RES) ∧ Below w.heap.size w wr) (fun _ v _ => n + 1 - lenOf v)
 case atStart => exact ⟨[],a0,rfl,hfa,Lib.hid (by simpa using World.ownsRow_nil _ _ _ _),rfl,PathC.nil n,HRES,hb1⟩
 case round =>
  obtain ⟨path,i,rfl,hin,hown,hlv,hpc,hcy,hbr⟩:=hrel
  have hpl:=hpc.len
  obtain ⟨A9,c9,e9,hc9,hs9⟩:=ownInt hown.out (by simp) (toI_in hpc h14)
  subst e9
  have hcn:=fun w h => ints_Contains (i:Int) A9 path.length c9 (toI path) w (by unfold inL;omega) h
  rw [any_isInt] at hcn
  have HS:=Lib.hid (And.intro hs9 hlv)
  have HP:=Lib.hid (toI_in hpc h14)
  clear hs9 hlv
  cases hany:path.any (fun x => x == i)
  ·rw [hany] at hcn
   obtain ⟨m,hlm⟩:∃ m,nd[i]? = some m:=⟨_,List.getElem?_eq_getElem (by rw [HH.out.1.len];exact hin)⟩
   have hnm:ndAt nd i = m:=ndAt_at hlm
   have hml:=HH.out.2.2.1 m (List.mem_of_getElem? hlm)
   have hmN:∀ s ∈ m,s < n:=fun s hs => HH.out.2.1 i s (by rw [hnm];exact hs)
   have hpc':=hpc.snoc hin hany
   have hpl':=hpc'.len
   have hcy':cycC (fun i => negO (outAt O i)) nd (n + 1 - (path ++ [i]).length) (path ++ [i]) ((m.find? fun i => negO (outAt O i)).getD i) = RES:=by
    have h1:=hcy.out
    rw [show n + 1 - path.length = (n + 1 - (path ++ [i]).length) + 1 by simp at hpl' ⊢;omega,cycC_step hany,nxtC,hnm] at h1
    exact h1
   have hpl2:path.length + 1 ≤ n:=by simpa using hpl'
   have HC:=Lib.hid (And.intro hpc' (And.intro hcy' (And.intro hmN hlm)))
   clear hpc hcy hany hpc' hcy' hmN hlm hnm hpl'
   go_wp2_with (first
    | (go_at_call 139;refine (hcn _ (HS.out.1.now bel)).mono ?_;rintro e w3 ⟨rfl,hb3⟩;obtain ⟨hc3,hf3⟩:=bcell hb3;(try simp only [bqh,bqc,bqf] at hc3 hf3);have hz3:=hb3.size;(try simp at hz3);(try have hy3:=nl1 hz3);(try have hx3:=nl2 hy3);refine szz w3 wr ?_;intros)
    | (at_builtin;refine wpList_append1 rfl _ _ 101 rfl w.heap.size 3 i0 _ 1 8 Tryz.underlying101 hi hz0 hz1 hz2 rfl (by decide) _ path.length _ rfl (ownsRow_keep hown.out hb3) [.int .i64 (i:Int)] 3 rfl _ rfl (by simp) rfl (by simp [Value.oneCell']) (by omega) (by unfold maxLen;omega) (by have:=hbr.size;have:=hb3.size;omega) ?_;intro v6 w6 hown6 hb6 hz6 hk6;have hB6:Below w.heap.size w w6:=below_step (below_step hbr (show Below wr.heap.size wr w3 from bel) hbr.size) hb6 (Nat.le_refl _);obtain ⟨b,o,m',X,C,hAe,hbl,hlm',x0,hmC,hsm⟩:=Is_at (HH.out.1.nowN keeps_RIs hB6) hin;obtain rfl:m' = m:=Option.some.inj (hlm'.symm.trans HC.out.2.2.2);subst hAe;have hbl':b < w6.heap.size:=hbl;have HSM:=Lib.hid hsm;have HO6:=Lib.hid hown6;have hlv6:lenOf v6 = path.length + 1:=(by obtain ⟨A6,c6,e6,_⟩:=ownInt (l:=toI (path ++ [i])) (by simpa using hown6) (by simp) (toI_in HC.out.1 h14);rw [e6];rfl);clear hown6 hsm hlm' hbl))
   generalize hwq:w6 = wq at *
   clear hwq
   go_loopw [5,24] (fun at_ j wr => ∃ j':Nat,j' ≤ m'.length ∧ j = .int .i64 j' ∧ at_ = .int .i64 i ∧ wr = wq ∧ Hid (∀ x ∈ m'.take j',negO (outAt O x) = false)) (fun _ j _ => m'.length - (intOf j).toNat)
   case atStart => exact ⟨0,by omega,rfl,rfl,rfl,Lib.hid (fun x h => absurd h (by simp))⟩
   case round =>
    obtain ⟨j,hj,rfl,rfl,rfl,hno⟩:=hrel
    by_cases hltj:j < m'.length
    ·obtain ⟨b2,o2,s,hX,hb2,hls,y0⟩:=Nat_at HSM.out hltj
     subst hX
     have hb2':b2 < wr.heap.size:=hb2
     have hsn:=HC.out.2.2.1 s (List.mem_of_getElem? hls)
     obtain ⟨b4,o4,r,hA4,hb4,hlr,hri,y1⟩:=Int_at (HH.out.2.2.2.1.now hB6) hsn
     subst hA4
     have hb4':b4 < wr.heap.size:=hb4
     have hor:outAt O s = r:=outAt_at hlr
     cases hng:negO r
     ·have h0:=negO_ge hng
      have HN:=Lib.hid (show ∀ x ∈ m'.take (j + 1),negO (outAt O x) = false by
       intro x hx
       rw [List.take_add_one,hls] at hx
       rcases List.mem_append.1 hx with hx | hx
       ·exact hno.out x hx
       ·simp at hx;rw [hx,hor];exact hng)
      clear hno hls hb2 hb4 hlr hri hor hng
      go_wp2_with fail
      go_roundw
      case rel => exact ⟨j + 1,by omega,by go_num,by trivial,by trivial,HN⟩
      case measure => simp [intOf];omega
     ·have h0:=negO_lt hng
      have hfd:=find_take (bad:=fun i => negO (outAt O i)) hno.out hls (by rw [hor];exact hng)
      have hcy2:=HC.out.2.1
      rw [hfd] at hcy2
      have HCY:=Lib.hid hcy2
      clear hno hls hb2 hb4 hlr hri hor hng hfd hcy2
      go_wp2_with fail
      go_roundw
      case rel => exact ⟨path ++ [i],s,rfl,hsn,Lib.hid (by simpa using HO6.out),by simpa using hlv6,HC.out.1,HCY,hB6⟩
      case measure => rw [hlv6];simp only [HS.out.2];omega
    ·have hje:j = m'.length:=by omega
     subst hje
     have hno':=hno.out
     rw [List.take_length] at hno'
     have hfd:(m'.find? fun i => negO (outAt O i)) = none:=List.find?_eq_none.2 (fun x hx => by rw [hno' x hx];decide)
     have hcy2:=HC.out.2.1
     rw [hfd] at hcy2
     have HCY:=Lib.hid hcy2
     clear hno hno' hfd hcy2
     go_wp2_with fail
     go_roundw
     case rel => exact ⟨path ++ [i],i,rfl,hin,Lib.hid (by simpa using HO6.out),by simpa using hlv6,HC.out.1,HCY,hB6⟩
     case measure => rw [hlv6];simp only [HS.out.2];omega
  ·rw [hany] at hcn
   have hix:=fun w h => ints_Index (i:Int) A9 path.length c9 (toI path) w (by unfold inL;omega) h
   have hlt:=firstAt_any _ path hany
   have hidx:idxOf (isInt i) (toI path) = (firstAt (fun x => x == i) path:Int):=by rw [idxOf,any_isInt,if_pos hany,firstAt_isInt]
   rw [hidx] at hix
   have hr1:=hcy.out
   rw [show n + 1 - path.length = (n - path.length) + 1 by omega,cycC_stop hany] at hr1
   have HR:=Lib.hid hr1
   generalize firstAt (fun x => x == i) path = q at *
   clear hcy hany hidx hr1
   go_wp2_with (first
    | (go_at_call 139;refine (hcn _ (HS.out.1.now bel)).mono ?_;rintro e w3 ⟨rfl,hb3⟩;obtain ⟨hc3,hf3⟩:=bcell hb3;(try simp only [bqh,bqc,bqf] at hc3 hf3);have hz3:=hb3.size;(try simp at hz3);(try have hy3:=nl1 hz3);(try have hx3:=nl2 hy3);refine szz w3 wr ?_;intros)
    | (go_at_call 140;refine (hix _ (HS.out.1.now bel)).mono ?_;rintro e w4 ⟨rfl,hb4⟩;obtain ⟨hc4,hf4⟩:=bcell hb4;(try simp only [bqh,bqc,bqf] at hc4 hf4);have hz4:=hb4.size;(try simp at hz4);(try have hy4:=nl1 hz4);(try have hx4:=nl2 hy4);refine szz w4 wr ?_;intros))
   go_ret
   have hB4:Below wr.heap.size wr w4:=bel
   have hlen:(toI RES).length = path.length - q:=by rw [← HR.out,List.length_map,List.length_drop]
   obtain ⟨A8,c8,e8,hc8,hs8⟩:=own_sli hown.out (by simp) HP.out
   cases e8
   obtain ⟨A7,e7,hs7⟩:=((hs8.keep (w':=w4) (fun b hb => hB4.block b hb.2) (fun _ _ h => h)).mono (S':=fun b => w.heap.size ≤ b ∧ b < w4.heap.size) (fun b hb => ⟨hb.1,Nat.lt_of_lt_of_le hb.2 hB4.size⟩)).cut (k:=q) (by omega) hc8
   rw [if_neg (by omega),Nat.mul_one] at e7
   subst e7
   refine ⟨_,c9 - q,by rw [hlen];rfl,by rw [hlen];omega,?_,below_step hbr hB4 hbr.size⟩
   rw [hlen,← HR.out]
   have e9:toI (path.drop q) = (toI path).drop q:=by simp only [toI,List.map_drop]
   rw [e9]
   exact hs7
end Go.Proofs.YtldbpmlgbbomcaaGreatDoor
/- rank.Of: the ranks of fields; a cycle; what is wrong. -/
namespace Go.Proofs.YtldbpmlgbbomcaaGreatDoor
open Go.RowKit

def RetRk (w:World) (r:List Int × List ByteArray × Int) (e:Ending) (w':World):Prop :=
 ∃ A c B d,e = .returned (.tuple #[.slice A r.1.length c,.slice B r.2.1.length d,.int .i64 r.2.2]) ∧ r.1.length ≤ c ∧ r.2.1.length ≤ d ∧ Sl w' (fresh w w') 1 RInt A r.1.length r.1 ∧ Sl w' (fresh w w') 1 RStr B r.2.1.length r.2.1 ∧ Below w.heap.size w w'
theorem rankO_any {l:List Fld} (h:fieldsErr l = 0):(rankO l).length = l.length ∧ GoodO (needL l) l.length (rankO l) :=
 ⟨(sweepsO_good (needL_lt h) l.length).1.1,(sweepsO_good (needL_lt h) l.length).1⟩
theorem cycC_lt {bad:Nat → Bool} {nd:List (List Nat)} {N:Nat} (hN:∀ i,∀ s ∈ ndAt nd i,s < N):∀ (f:Nat) (path:List Nat) (i:Nat),PathC N path → i < N → ∀ x ∈ cycC bad nd f path i,x < N
 | 0,path,i,hp,_ => fun x hx => hp.2 x hx
 | f + 1,path,i,hp,hi => by
  cases ha:path.any (fun x => x == i)
  ·rw [cycC_step ha]
   exact cycC_lt hN f _ _ (hp.snoc hi ha) (nxtC_lt hN hi)
  ·rw [cycC_stop ha]
   exact fun x hx => hp.2 x (List.mem_of_mem_drop hx)
theorem cycC_len {bad:Nat → Bool} {nd:List (List Nat)} {N:Nat} (hN:∀ i,∀ s ∈ ndAt nd i,s < N):∀ (f:Nat) (path:List Nat) (i:Nat),PathC N path → i < N → (cycC bad nd f path i).length ≤ N
 | 0,path,i,hp,_ => hp.len
 | f + 1,path,i,hp,hi => by
  cases ha:path.any (fun x => x == i)
  ·rw [cycC_step ha]
   exact cycC_len hN f _ _ (hp.snoc hi ha) (nxtC_lt hN hi)
  ·rw [cycC_stop ha,List.length_drop]
   have:=hp.len
   omega
theorem nameAt_at {l:List Fld} {i:Nat} {f:Fld} (h:l[i]? = some f):nameAt l i = f.name:=by unfold nameAt;rw [h];rfl
theorem own_slw9 {w:World} {base:Nat} {e:TypeId} {v:Value} {n:Nat} {l:List ByteArray} (h:w.ownsRow base e 1 v n (l.flatMap strCs)) (hl:l.length = n) (hw:∀ a ∈ l,inS a) :
  ∃ A c,v = .slice A n c ∧ n ≤ c ∧ Sl w (since base w) 1 RStr A n l:=by
 obtain ⟨A,c,rfl,hc,hs⟩:=own_sl strCs (fun _ => rfl) h hl
 refine ⟨A,c,rfl,hc,hs.1,fun hn => ?_⟩
 obtain ⟨b,o,e,hS,hcc⟩:=hs.2 hn
 refine ⟨b,o,e,hS,fun i v hv => ?_⟩
 obtain ⟨cs,rfl,hl',h'⟩:=hcc i v hv
 exact ⟨_,⟨rfl,hw v (List.mem_of_getElem? hv)⟩,hl',h'⟩
theorem needL_inner {l:List Fld} (hN:∀ f ∈ l,f.source.nodes ≤ 1048576):∀ m ∈ needL l,m.length ≤ 1048576:=by
 intro m hm
 obtain ⟨f,hf,rfl⟩:=List.mem_map.1 hm
 rw [List.length_map]
 unfold srcN
 split
 ·simp
 ·exact Nat.le_trans (rise_len _) (Nat.le_trans (askN_nodes _) (hN f hf))

set_option maxRecDepth 100000 in
set_option maxHeartbeats 4000000 in
theorem rank_Of (l:List Fld) (L:Option Addr) (n d:Nat) (w:World) (hn:inB 112 n) (hnd:n ≤ d) (hl:Sl w (old w) 9 (RFld w (old w)) L n l) (hN:∀ f ∈ l,f.source.nodes ≤ 1048576) (hst:∀ f ∈ l,inS f.name ∧ ∀ s ∈ askN f.source,inS s) :
  Calls Tryz.prog 53 #[.slice L n d] w (RetRk w (rankR l)):=by
 have hck:=fun w h => field_Check l L n d w hn hnd h
 by_cases he:fieldsErr l = 0
 ·have hg:=rankO_any he
  have hlt:=needL_lt he
  have h14:n ≤ 14:=by rw [← hl.len];exact (fieldsErr_all he).1
  have hnd':=fun w h => rank_needs l L n d w hn h he hN (fun f hf => (hst f hf).2)
  have hin:=needL_inner hN
  have hrk:=fun A c w h => rank_ranks (needL l) A n c w h14 (by rw [← hl.len];exact hlt) h hin
  have hcy:=fun A A2 c c2 w h h2 hb => rank_cycle (needL l) (rankO l) A A2 n c c2 w h14 (by rw [← hl.len];exact hlt) h hin h2 hb
  have hlen:=hl.len
  have hro:sweepsO (needL l) n n = rankO l:=by rw [← hlen];rfl
  rw [hro] at hrk
  rw [he] at hck
  cases hany:(rankO l).any negO
  ·have hr:rankR l = (rankO l,[],0):=by rw [rankR,if_neg (by simpa using he),if_neg (by rw [hany];decide)]
   rw [hr]
   have hct:=fun A c w h => ints_ContOf A n c (rankO l) w (by unfold inL;omega) h
   rw [hany] at hct
   have hrl:=hg.1
   rw [hlen] at hrl
   generalize rankO l = O at *
   have HH:=Lib.hid (And.intro hl hrl)
   have HN:=Lib.hid ((needL_len l).trans hlen)
   clear hl hg hlt hin hN hst he hro hr hany hlen hn hcy
   go_enter Tryz.func53,Tryz.ntmps53
   go_wp2_with fail
   refine (hck _ (HH.out.1.nowN keeps_Fld bel)).mono ?_;rintro e w1 ⟨rfl,hb1⟩;obtain ⟨hc1,hf1⟩:=bcell hb1;(try simp only [bqh,bqc,bqf] at hc1 hf1);have hz1:=hb1.size;(try simp at hz1);(try have hy1:=nl1 hz1);(try have hx1:=nl2 hy1);refine szz w1 w ?_;intros
   go_wp2_with fail
   refine (hnd' _ (HH.out.1.nowN keeps_Fld bel)).mono ?_;rintro e w2 ⟨v2,rfl,ho2,hb2⟩;obtain ⟨A2,c2,e2,hca2,hs2⟩:=ho2.sl keeps_RIs;subst e2;obtain ⟨hc2,hf2⟩:=bcell hb2;(try simp only [bqh,bqc,bqf] at hc2 hf2);have hz2:=hb2.size;(try simp at hz2);(try have hy2:=nl1 hz2);(try have hx2:=nl2 hy2);refine szz w2 w ?_;intros;refine szz w2 w1 ?_;intros
   rw [HN.out] at hs2 ⊢
   have HS2:=Lib.hid (hs2.keepN keeps_RIs (w':=w2) (S':=old w2) (fun b hb => ⟨hb.2,rfl⟩))
   clear hs2 ho2
   go_wp2_with fail
   refine (hrk A2 c2 _ HS2.out).mono ?_;rintro e w3 ⟨A3,c3,rfl,hca3,hs3,hb3⟩;obtain ⟨hc3,hf3⟩:=bcell hb3;(try simp only [bqh,bqc,bqf] at hc3 hf3);have hz3:=hb3.size;(try simp at hz3);(try have hy3:=nl1 hz3);(try have hx3:=nl2 hy3);refine szz w3 w ?_;intros;refine szz w3 w1 ?_;intros;refine szz w3 w2 ?_;intros
   rw [HH.out.2] at hca3 hs3 ⊢
   have HS3:=Lib.hid (hs3.mono (S':=old w3) (fun b hb => hb.2))
   have HS3b:=Lib.hid hs3
   clear hs3
   go_wp2_with fail
   refine (hct A3 c3 _ HS3.out).mono ?_;rintro e w4 ⟨rfl,hb4⟩;obtain ⟨hc4,hf4⟩:=bcell hb4;(try simp only [bqh,bqc,bqf] at hc4 hf4);have hz4:=hb4.size;(try simp at hz4);(try have hy4:=nl1 hz4);(try have hx4:=nl2 hy4);refine szz w4 w ?_;intros;refine szz w4 w1 ?_;intros;refine szz w4 w2 ?_;intros;refine szz w4 w3 ?_;intros
   go_wp2_with fail
   go_ret3
   have hB:Below w.heap.size w w4:=bel
   exact ⟨A3,c3,none,0,by rw [HH.out.2];rfl,by rw [HH.out.2];exact hca3,Nat.le_refl _,by rw [HH.out.2];exact (HS3b.out.keep (w':=w4) (fun b hb => hb4.block b hb.2) (fun _ _ h => h)).mono (fun b hb => ⟨by omega,Nat.lt_of_lt_of_le hb.2 hb4.size⟩),Sl.nil,hB⟩
  ·have hr:rankR l = ([],(cycF l).map (nameAt l),10):=by rw [rankR,if_neg (by simpa using he),if_pos hany]
   rw [hr]
   have hct:=fun A c w h => ints_ContOf A n c (rankO l) w (by unfold inL;omega) h
   rw [hany] at hct
   have hrl:=hg.1
   rw [hlen] at hrl
   have hfa:=firstAt_any negO _ hany
   have hcf:cycC (fun i => negO (outAt (rankO l) i)) (needL l) (n + 1) [] (firstAt negO (rankO l)) = cycF l:=by rw [← hlen];rfl
   have hclt:∀ x ∈ cycF l,x < n:=by rw [← hcf];exact cycC_lt (by rw [← hlen];exact hlt) _ _ _ (PathC.nil n) (by rw [← hrl];exact hfa)
   have hcln:(cycF l).length ≤ n:=by rw [← hcf];exact cycC_len (by rw [← hlen];exact hlt) _ _ _ (PathC.nil n) (by rw [← hrl];exact hfa)
   have hcy':=fun A A2 c c2 w h h2 => hcy A A2 c c2 w h h2 hany
   rw [hcf] at hcy'
   have hns:∀ f ∈ l,inS f.name:=fun f hf => (hst f hf).1
   generalize rankO l = O at *
   generalize cycF l = cyc at *
   obtain ⟨i0,ei,ez0,ez1,ez2⟩:=info_parts Tryz.infoStr'
   have HH:=Lib.hid (And.intro hl (And.intro hrl (And.intro hclt hns)))
   have HN:=Lib.hid ((needL_len l).trans hlen)
   have HL:=Lib.hid hlen
   clear hl hg hlt hin hN hst he hro hr hany hlen hn hcy hcf hclt hrl hfa hns
   go_enter Tryz.func53,Tryz.ntmps53
   go_wp2_with fail
   refine (hck _ (HH.out.1.nowN keeps_Fld bel)).mono ?_;rintro e w1 ⟨rfl,hb1⟩;obtain ⟨hc1,hf1⟩:=bcell hb1;(try simp only [bqh,bqc,bqf] at hc1 hf1);have hz1:=hb1.size;(try simp at hz1);(try have hy1:=nl1 hz1);(try have hx1:=nl2 hy1);refine szz w1 w ?_;intros
   go_wp2_with fail
   refine (hnd' _ (HH.out.1.nowN keeps_Fld bel)).mono ?_;rintro e w2 ⟨v2,rfl,ho2,hb2⟩;obtain ⟨A2,c2,e2,hca2,hs2⟩:=ho2.sl keeps_RIs;subst e2;obtain ⟨hc2,hf2⟩:=bcell hb2;(try simp only [bqh,bqc,bqf] at hc2 hf2);have hz2:=hb2.size;(try simp at hz2);(try have hy2:=nl1 hz2);(try have hx2:=nl2 hy2);refine szz w2 w ?_;intros;refine szz w2 w1 ?_;intros
   rw [HN.out] at hs2 ⊢
   have HS2:=Lib.hid (hs2.keepN keeps_RIs (w':=w2) (S':=old w2) (fun b hb => ⟨hb.2,rfl⟩))
   clear hs2 ho2
   go_wp2_with fail
   refine (hrk A2 c2 _ HS2.out).mono ?_;rintro e w3 ⟨A3,c3,rfl,hca3,hs3,hb3⟩;obtain ⟨hc3,hf3⟩:=bcell hb3;(try simp only [bqh,bqc,bqf] at hc3 hf3);have hz3:=hb3.size;(try simp at hz3);(try have hy3:=nl1 hz3);(try have hx3:=nl2 hy3);refine szz w3 w ?_;intros;refine szz w3 w1 ?_;intros;refine szz w3 w2 ?_;intros
   rw [HH.out.2.1] at hca3 hs3 ⊢
   have HS3:=Lib.hid (hs3.mono (S':=old w3) (fun b hb => hb.2))
   clear hs3
   go_wp2_with fail
   refine (hct A3 c3 _ HS3.out).mono ?_;rintro e w4 ⟨rfl,hb4⟩;obtain ⟨hc4,hf4⟩:=bcell hb4;(try simp only [bqh,bqc,bqf] at hc4 hf4);have hz4:=hb4.size;(try simp at hz4);(try have hy4:=nl1 hz4);(try have hx4:=nl2 hy4);refine szz w4 w ?_;intros;refine szz w4 w1 ?_;intros;refine szz w4 w2 ?_;intros;refine szz w4 w3 ?_;intros
   go_wp2_with fail
   have hb24:Below w2.heap.size w2 w4:=below_chain hb3 hb4
   refine (hcy' A2 A3 c2 c3 _ (HS2.out.nowN keeps_RIs hb24) (HS3.out.now hb4)).mono ?_;rintro e w5 ⟨A5,c5,rfl,hca5,hs5,hb5⟩;obtain ⟨hc5,hf5⟩:=bcell hb5;(try simp only [bqh,bqc,bqf] at hc5 hf5);have hz5:=hb5.size;(try simp at hz5);(try have hy5:=nl1 hz5);(try have hx5:=nl2 hy5);refine szz w5 w ?_;intros;refine szz w5 w1 ?_;intros;refine szz w5 w2 ?_;intros;refine szz w5 w3 ?_;intros;refine szz w5 w4 ?_;intros
   have HS5:=Lib.hid (hs5.mono (S':=old w5) (fun b hb => hb.2))
   have hB5:Below w.heap.size w w5:=bel
   have hcl:(toI cyc).length = cyc.length:=by rw [List.length_map]
   rw [hcl] at hca5 HS5 ⊢
   clear hs5 hcl
   go_wp2_with fail
   generalize hwq:w5 = wq at *
   clear hwq
   go_loopw [8,28] (fun v i wr => ∃ k:Nat,k ≤ cyc.length ∧ i = .int .i64 k ∧ Hid (wr.ownsRow wq.heap.size 9 1 v k ((cyc.take k).flatMap (fun i => strCs (nameAt l i)))) ∧ Below wq.heap.size wq wr) (fun _ i _ => cyc.length - (intOf i).toNat)
   case atStart => exact ⟨0,by omega,rfl,Lib.hid (by simpa using World.ownsRow_nil _ _ _ _),Below.refl _ _⟩
   case round =>
    obtain ⟨k,hk,rfl,hown,hbr⟩:=hrel
    by_cases hltk:k < cyc.length
    ·obtain ⟨b,o,x,hAe,hbl,hlx,hxi,y0⟩:=Int_at (HS5.out.now hbr) (show k < cyc.length from hltk)
     subst hAe
     have hbl':b < wr.heap.size:=hbl
     obtain ⟨x',hx',hxe⟩:∃ x',cyc[k]? = some x' ∧ (x':Int) = x:=by
      rw [List.getElem?_map] at hlx
      cases hc:cyc[k]? with
      | none => rw [hc] at hlx;cases hlx
      | some x' => rw [hc] at hlx;exact ⟨x',rfl,Option.some.inj hlx⟩
     subst hxe
     have hxn:=HH.out.2.2.1 x' (List.mem_of_getElem? hx')
     have hBr:Below w.heap.size w wr:=below_step hB5 hbr hB5.size
     obtain ⟨b2,o2,f,X,C,hAe,hbl2,hlf,hrep,x0,_⟩:=Fld_at (HH.out.1.nowN keeps_Fld hBr) hxn
     subst hAe
     have hbl2':b2 < wr.heap.size:=hbl2
     have HT:=Lib.hid (show cyc.take k ++ [x'] = cyc.take (k + 1) by rw [List.take_add_one,hx'];rfl)
     have HNM:=Lib.hid (nameAt_at hlf)
     clear hbl hlx hxi hx' hbl2 hlf hrep
     go_wp2_with (at_builtin;refine wpList_append1 rfl _ _ 63 rfl wq.heap.size 9 i0 (.string ⟨#[]⟩) 1 16 Tryz.underlying63 ei ez0 ez1 ez2 rfl (by decide) _ k _ rfl hown.out [.string f.name] 9 rfl _ rfl rfl rfl (by simp [Value.oneCell']) (by omega) (by unfold maxLen;omega) (by have:=hbr.size;omega) ?_;intro v6 w6 hown6 hb6 hz6 _)
     go_roundw
     case rel =>
      refine ⟨k + 1,by omega,by go_num,Lib.hid ?_,below_step hbr hb6 (Nat.le_refl _)⟩
      rw [← HT.out,List.flatMap_append,List.flatMap_cons,HNM.out]
      simpa using hown6
     case measure => simp [intOf];omega
    ·have hke:k = cyc.length:=by omega
     subst hke
     have hm:=hown.out
     rw [List.take_length] at hm
     have hm2:wr.ownsRow wq.heap.size 9 1 u8 ((cyc.map (nameAt l)).length) ((cyc.map (nameAt l)).flatMap strCs):=by rw [List.length_map,List.flatMap_map];exact hm
     obtain ⟨A6,c6,e6,hc6,hs6⟩:=own_slw9 hm2 rfl (by
      intro s hs
      obtain ⟨x,hx,rfl⟩:=List.mem_map.1 hs
      have hxn:=HH.out.2.2.1 x hx
      rw [← HL.out] at hxn
      rw [nameAt_at (List.getElem?_eq_getElem hxn)]
      exact HH.out.2.2.2 _ (List.getElem_mem hxn))
     subst e6
     have HS6:=Lib.hid (And.intro hs6 hc6)
     clear hm hm2 hs6 hown hc6
     go_wp2_with fail
     go_ret3
     exact ⟨none,0,A6,c6,rfl,Nat.le_refl _,HS6.out.2,Sl.nil,HS6.out.1.mono (fun b hb => ⟨by have:=hb.1;have:=hB5.size;omega,hb.2⟩),below_step hB5 hbr hB5.size⟩
 ·have hr:rankR l = ([],[],fieldsErr l):=by rw [rankR,if_pos he]
  rw [hr]
  have he':(fieldsErr l != 0) = true:=by simpa using he
  generalize fieldsErr l = er at *
  have HH:=Lib.hid hl
  clear hl he hr hn hN hst
  go_enter Tryz.func53,Tryz.ntmps53
  go_wp2_with (go_at_call 96;refine (hck _ (HH.out.nowN keeps_Fld bel)).mono ?_;rintro e w1 ⟨rfl,hb1⟩;obtain ⟨hc1,hf1⟩:=bcell hb1;(try simp only [bqh,bqc,bqf] at hc1 hf1);have hz1:=hb1.size;(try simp at hz1);(try have hy1:=nl1 hz1);(try have hx1:=nl2 hy1);refine szz w1 w ?_;intros)
  go_ret3
  exact ⟨none,0,none,0,rfl,Nat.le_refl _,Nat.le_refl _,Sl.nil,Sl.nil,bel⟩
end Go.Proofs.YtldbpmlgbbomcaaGreatDoor
/- The reference's maps of ranks: plain laws. No program text is walked here. -/
namespace Go.Proofs.YtldbpmlgbbomcaaGreatDoor
open Go.RowKit

def keyNm:Lit → Option ByteArray
 | .string bs => some ⟨bs.toArray⟩
 | _ => none
theorem keyNm_str (s:ByteArray):keyNm (.string s.data.toList) = some s:=by simp [keyNm]
theorem keyNm_eq {kl:Lit} {s:ByteArray} (h:keyNm kl = some s):kl = .string s.data.toList:=by
 unfold keyNm at h
 split at h
 ·cases h;simp
 ·cases h
def rkAt (l:List Fld) (k:Nat) (s:ByteArray):Option Nat:=if l.any (hasName s) then rkL (needL l) k (fieldAt l s) else none
def rkMap (l:List Fld) (k:Nat) (kl:Lit):Option Value:=((keyNm kl).bind (rkAt l k)).map fun (n:Nat) => Value.int .i64 (n:Int)
def rdAt (l:List Fld) (k j:Nat) (s:ByteArray):Bool:=(l.take j).any (hasName s) && (rkL (needL l) k (fieldAt l s)).isNone && (rkL (needL l) (k + 1) (fieldAt l s)).isSome
def rdMap (l:List Fld) (k j:Nat) (kl:Lit):Option Value:=(keyNm kl).bind fun s => if rdAt l k j s then some (.int .i64 (k:Int)) else none
def mixMap (l:List Fld) (k:Nat) (left:Lit → Bool) (kl:Lit):Option Value :=
 (keyNm kl).bind fun s => if rdAt l k l.length s && left kl then none else (rkAt l (k + 1) s).map fun (n:Nat) => Value.int .i64 (n:Int)

theorem rkMap_0 (l:List Fld) (kl:Lit):rkMap l 0 kl = none:=by
 unfold rkMap
 cases keyNm kl with
 | none => rfl
 | some s => simp [rkAt,rkL]
theorem rdMap_0 (l:List Fld) (k:Nat) (kl:Lit):rdMap l k 0 kl = none:=by
 unfold rdMap
 cases keyNm kl with
 | none => rfl
 | some s => simp [rdAt]
theorem rkMap_str (l:List Fld) (k:Nat) (s:ByteArray):rkMap l k (.string s.data.toList) = (rkAt l k s).map fun (n:Nat) => Value.int .i64 (n:Int):=by
 unfold rkMap
 rw [keyNm_str]
 rfl
theorem rkAt_some {l:List Fld} {k:Nat} {s:ByteArray} (h:l.any (hasName s) = true):rkAt l k s = rkL (needL l) k (fieldAt l s):=by rw [rkAt,if_pos h]
theorem any_name {l:List Fld} {i:Nat} {f:Fld} (hf:l[i]? = some f):l.any (hasName f.name) = true:=List.any_eq_true.2 ⟨f,List.mem_of_getElem? hf,hasName_iff.2 rfl⟩
theorem rkAt_field {l:List Fld} (h:fieldsErr l = 0) {k i:Nat} {f:Fld} (hf:l[i]? = some f):rkAt l k f.name = rkL (needL l) k i:=by
 rw [rkAt_some (any_name hf),fieldAt_name h hf]
def allK (l:List Fld) (k:Nat) (ss:List ByteArray):Bool:=ss.all fun s => (rkAt l k s).isSome
theorem allK_src {l:List Fld} (h:fieldsErr l = 0) {k i:Nat} {f:Fld} (hf:l[i]? = some f) (hn:rkL (needL l) k i = none):(rkL (needL l) (k + 1) i).isSome = allK l k (srcN f):=by
 rw [rkL,hn]
 dsimp only
 have e:((ndAt (needL l) i).all fun s => (rkL (needL l) k s).isSome) = allK l k (srcN f):=by
  rw [ndAt_need hf,List.all_map]
  unfold allK
  rw [Bool.eq_iff_iff,List.all_eq_true,List.all_eq_true]
  constructor
  ·intro hh s hs
   have:=hh s hs
   rw [rkAt_some (((fieldsErr_all h).2 i f hf).2.2.2.2 s hs)]
   exact this
  ·intro hh s hs
   have:=hh s hs
   rw [rkAt_some (((fieldsErr_all h).2 i f hf).2.2.2.2 s hs)] at this
   exact this
 rw [e]
 cases allK l k (srcN f) <;> rfl
theorem rd_take {l:List Fld} {j:Nat} {f:Fld} (hf:l[j]? = some f) (s:ByteArray):(l.take (j + 1)).any (hasName s) = ((l.take j).any (hasName s) || hasName s f):=by
 rw [List.take_add_one,hf,List.any_append]
 simp
theorem rdMap_skip {l:List Fld} (h:fieldsErr l = 0) {k j:Nat} {f:Fld} (hf:l[j]? = some f) (hn:(rkL (needL l) k j).isSome = true ∨ (rkL (needL l) (k + 1) j).isSome = false):rdMap l k (j + 1) = rdMap l k j:=by
 funext kl
 unfold rdMap
 cases keyNm kl with
 | none => rfl
 | some s =>
  have e:rdAt l k (j + 1) s = rdAt l k j s:=by
   unfold rdAt
   rw [rd_take hf]
   cases hs:hasName s f
   ·rw [Bool.or_false]
   ·have hs':=hasName_iff.1 hs
    subst hs'
    rw [fieldAt_name h hf]
    rcases hn with hn | hn
    ·cases hq:rkL (needL l) k j with
     | none => rw [hq] at hn;cases hn
     | some n => simp
    ·rw [hn];simp
  show (if rdAt l k (j + 1) s then _ else _) = _
  rw [e]
  rfl
theorem rdMap_put {l:List Fld} (h:fieldsErr l = 0) {k j:Nat} {f:Fld} (hf:l[j]? = some f) (hn:rkL (needL l) k j = none) (hs:(rkL (needL l) (k + 1) j).isSome = true) :
  putAt (rdMap l k j) (.string f.name.data.toList) (.int .i64 (k:Int)) = rdMap l k (j + 1):=by
 funext kl
 by_cases he:kl = .string f.name.data.toList
 ·subst he
  rw [putAt_same (by trivial)]
  unfold rdMap
  rw [keyNm_str]
  show _ = if rdAt l k (j + 1) f.name then _ else _
  have:rdAt l k (j + 1) f.name = true:=by
   unfold rdAt
   rw [rd_take hf,fieldAt_name h hf,hn,hs,hasName_iff.2 rfl]
   simp
  rw [if_pos this]
 ·rw [putAt_other he]
  unfold rdMap
  cases hk:keyNm kl with
  | none => rfl
  | some s =>
   have hne:hasName s f = false:=by
    cases hh:hasName s f
    ·rfl
    ·exact absurd (by rw [keyNm_eq hk,hasName_iff.1 hh]) he
   have e:rdAt l k (j + 1) s = rdAt l k j s:=by
    unfold rdAt
    rw [rd_take hf,hne,Bool.or_false]
   show (if rdAt l k j s then _ else _) = if rdAt l k (j + 1) s then _ else _
   rw [e]
theorem rdMap_has (l:List Fld) (k:Nat) (kl:Lit):(rdMap l k l.length kl).isSome = ((keyNm kl).map (rdAt l k l.length)).getD false:=by
 unfold rdMap
 cases keyNm kl with
 | none => rfl
 | some s => simp only [Option.bind_some,Option.map_some,Option.getD_some];cases rdAt l k l.length s <;> rfl
theorem mixMap_start {l:List Fld} {k:Nat} {left:Lit → Bool} (hl:∀ kl,left kl = (rdMap l k l.length kl).isSome):mixMap l k left = rkMap l k:=by
 funext kl
 unfold mixMap rkMap
 have hlk:=hl kl
 rw [rdMap_has] at hlk
 cases hk:keyNm kl with
 | none => rfl
 | some s =>
  rw [hk] at hlk
  simp only [Option.map_some,Option.getD_some] at hlk
  simp only [Option.bind_some]
  rw [hlk,Bool.and_self]
  unfold rdAt
  by_cases ha:l.any (hasName s) = true
  ·rw [List.take_length,ha,rkAt_some ha,rkAt_some ha]
   cases hq:rkL (needL l) k (fieldAt l s) with
   | some n => simp [rkL_succ hq]
   | none =>
    cases hq':rkL (needL l) (k + 1) (fieldAt l s) <;> simp
  ·rw [List.take_length,rkAt,if_neg ha,rkAt,if_neg ha]
   simp
theorem mixMap_end {l:List Fld} {k:Nat} {left:Lit → Bool} (hl:∀ kl,left kl = false):mixMap l k left = rkMap l (k + 1):=by
 funext kl
 unfold mixMap rkMap
 cases keyNm kl with
 | none => rfl
 | some s => simp [hl kl]
theorem mixMap_step {l:List Fld} {k:Nat} {left:Lit → Bool} {s:ByteArray} {c:Value} (hc:rdMap l k l.length (.string s.data.toList) = some c) :
  putAt (mixMap l k left) (.string s.data.toList) c = mixMap l k (fun z => left z && !z.sameKey (.string s.data.toList)):=by
 funext kl
 unfold rdMap at hc
 rw [keyNm_str] at hc
 simp only [Option.bind_some] at hc
 split at hc
 ·rename_i hr
  cases hc
  by_cases he:kl = .string s.data.toList
  ·subst he
   rw [putAt_same (by trivial)]
   unfold mixMap
   rw [keyNm_str]
   simp only [Option.bind_some]
   have hsk:Lit.sameKey (.string s.data.toList) (.string s.data.toList) = true:=WideAt.sameKey_self (by trivial)
   simp only [hsk,Bool.not_true,Bool.and_false,Bool.false_eq_true,if_false]
   unfold rdAt at hr
   simp only [Bool.and_eq_true] at hr
   obtain ⟨⟨h1,h2⟩,h3⟩:=hr
   rw [List.take_length] at h1
   rw [rkAt_some h1]
   obtain ⟨n,hn⟩:=Option.isSome_iff_exists.1 h3
   have h2':rkL (needL l) k (fieldAt l s) = none:=by simpa using h2
   have hk:n = k:=by
    have h4:=rkL_inv hn
    rcases Nat.lt_or_ge n k with h5 | h5
    ·have:=rkL_mono (rkL_at hn) k (by omega)
     rw [this] at h2';cases h2'
    ·omega
   rw [hn,hk]
   rfl
  ·rw [putAt_other he]
   unfold mixMap
   cases hk:keyNm kl with
   | none => rfl
   | some t =>
    have:kl.sameKey (.string s.data.toList) = false:=Maps.sameKey_ne he
    simp only [this,Bool.not_false,Bool.and_true]
 ·cases hc
end Go.Proofs.YtldbpmlgbbomcaaGreatDoor
/- Ranging over a map that is told key by key. Plain laws; no program text is walked here. -/
namespace Go.Proofs.YtldbpmlgbbomcaaGreatDoor
open Go.RowKit Go.Maps

section
variable {P:Program} {k e t:TypeId} {w w':World} {b n r:Nat} {f:Lit → Option Value}
def RangeIs (w:World) (P:Program) (k:TypeId) (b r n:Nat) (f:Lit → Option Value) (left:Lit → Bool) (cnt:Nat):Prop :=
 ∃ D:DataW Value,w.ranges P k rdV b r n D left cnt ∧ (∀ kl,Maps.has D kl = (f kl).isSome) ∧ ∀ kl v,f kl = some v → ∀ z,D.atKey kl z = .held v
theorem RangeIs.left_eq {left:Lit → Bool} {cnt:Nat} (h:RangeIs w P k b r n f left cnt):w.rangeLeft b r = cnt:=by
 obtain ⟨D,h1,_⟩:=h;exact h1.left_eq
theorem RangeIs.lt {left:Lit → Bool} {cnt:Nat} (h:RangeIs w P k b r n f left cnt):r < w.heap.size:=by
 obtain ⟨D,h1,_⟩:=h;exact h1.lt
theorem RangeIs.ltb {left:Lit → Bool} {cnt:Nat} (h:RangeIs w P k b r n f left cnt):b < w.heap.size:=by
 obtain ⟨D,h1,_⟩:=h;exact h1.owns.lt
theorem RangeIs.kept {left:Lit → Bool} {cnt:Nat} {row:Option Nat} (h:RangeIs w P k b r n f left cnt) (hg:w.grownBy w' row) (hb':some b ≠ row) (hr':some r ≠ row):RangeIs w' P k b r n f left cnt:=by
 obtain ⟨D,h1,h2⟩:=h;exact ⟨D,h1.kept hg hb' hr',h2⟩
theorem RangeIs.cnt_le {left:Lit → Bool} {cnt:Nat} (h:RangeIs w P k b r n f left cnt):cnt ≤ n:=by
 obtain ⟨D,⟨es,clock,since,seen,c0,_,_,h3,_,_,_,h7,_⟩,_⟩:=h
 rw [← h7]
 refine Nat.le_trans ?_ h3
 unfold leftOf
 exact Array.size_filter_le
end
section
variable {P:Program} (w:World) {ops:Array Oper} {rest:List Oper} {o:Oper} {a:Act} {Q:Exit → Act → World → Prop}
theorem wpList_range_Is (hg:o.guard = none) (m:Operand) (t:TypeId) (hop:o.op = Op.range t m) (k e:TypeId) (K:Keyed P k) (ht:P.underlying t = some (.map k e)) (b n:Nat) (f:Lit → Option Value)
  (hm:a.eval m = .map (some b)) (hown:MapIs w P k b n f)
  (hK:∀ w' left cnt,RangeIs w' P k b w.heap.size n f left cnt → (∀ kl,left kl = (f kl).isSome) → w.grownBy w' none → w'.heap.size = w.heap.size + 1 → wpList P ops Q rest (a.put o.dst (.pointer (some ⟨w.heap.size,0,none⟩))) w') :
  wpList P ops Q (o :: rest) a w:=by
 obtain ⟨D,h1,h2,h3⟩:=hown
 exact wpList_range_own w hg m t hop k e K ht rdV b n D hm h1 fun w' h4 h5 h6 => hK w' _ _ ⟨D,h4,h2,h3⟩ h2 h5 h6
theorem wpList_next_Is (hg:o.guard = none) (it:Operand) (hop:o.op = Op.next it false) (k:TypeId) (K:Keyed P k) (hk:P.underlying k = some .string) (b r n:Nat) (f:Lit → Option Value) (left:Lit → Bool) (cnt:Nat)
  (hsub:∀ kl,left kl = true → (f kl).isSome = true) (hit:a.eval it = .pointer (some ⟨r,0,none⟩)) (h:RangeIs w P k b r n f left cnt)
  (hDone:cnt = 0 → (∀ kl,left kl = false) → wpList P ops Q rest (a.put o.dst (.tuple #[.bool false])) w)
  (hMore:∀ (s:ByteArray) (c:Value) (w':World) (cnt':Nat),s.size ≤ maxLen → left (.string s.data.toList) = true → f (.string s.data.toList) = some c →
   RangeIs w' P k b r n f (fun z => left z && !z.sameKey (.string s.data.toList)) cnt' → cnt' < cnt → w.grownBy w' (some r) → w'.heap.size = w.heap.size →
   (Instr.entry (.pointer (some ⟨r,0,none⟩))).run P w' = .ok (.tuple #[.string s,c]) w' → wpList P ops Q rest (a.put o.dst (.tuple #[.bool true,.string s,c])) w') :
  wpList P ops Q (o :: rest) a w:=by
 obtain ⟨D,h1,h2,h3⟩:=h
 refine wpList_next_ranges w hg it hop k K rdV Value.string (fun v:Value => v) (fun key kl hkey => ?_) (fun v y _ => ⟨v,rfl⟩) b r n D left cnt hit h1 hDone fun s c kl y w' cnt' hkey hlk hv hat hrg hlt hgr hsz hen => ?_
 ·obtain ⟨s,e1,_⟩:=WideMaps.string_of_keyOf hk hkey
  exact ⟨s,e1⟩
 ·obtain ⟨s',e1,e2,e3⟩:=WideMaps.string_of_keyOf hk hkey
  cases e1
  subst e2
  obtain ⟨v,hfv⟩:=Option.isSome_iff_exists.1 (hsub _ hlk)
  have h5:=hat (.held c)
  rw [h3 _ _ hfv] at h5
  simp only [rdV,Option.some.injEq] at hv
  rw [← hv] at h5
  have h6:v = c:=by injection h5
  subst h6
  exact hMore s v w' cnt' e3 hlk hfv ⟨D,hrg,h2,h3⟩ hlt hgr hsz hen
end
end Go.Proofs.YtldbpmlgbbomcaaGreatDoor
/- The reference's sources of a field; plain laws for its ranks. -/
namespace Go.Proofs.YtldbpmlgbbomcaaGreatDoor
open Go.RowKit

abbrev Fld.cs (f:Fld) (X:Option Addr) (C:Nat):List Value:=[.string f.name,.int .i64 f.kind,.int .i64 f.type,.int .i64 f.source.op,.int .i64 f.source.v.k,.int .i64 f.source.v.n,.string f.source.v.s,.string f.source.name,.slice X f.source.args.length C]
set_option maxRecDepth 100000 in
set_option maxHeartbeats 2000000 in
theorem ref_sources (f:Fld) (X:Option Addr) (C:Nat) (w:World) (hN:f.source.nodes ≤ 1048576) (hst:∀ s ∈ askN f.source,inS s) (hf:RFld w (old w) [.string f.name,.int .i64 f.kind,.int .i64 f.type,.int .i64 f.source.op,.int .i64 f.source.v.k,.int .i64 f.source.v.n,.string f.source.v.s,.string f.source.name,.slice X f.source.args.length C] f) :
  Calls Tryz.prog 110 #[.agg #[.string f.name,.int .i64 f.kind,.int .i64 f.type,.int .i64 f.source.op,.int .i64 f.source.v.k,.int .i64 f.source.v.n,.string f.source.v.s,.string f.source.name,.slice X f.source.args.length C]] w (OwnRow strCs 9 1 w (srcN f)):=by
 obtain ⟨r1,r2,r3,r4⟩:=hf.parts
 by_cases hk:f.kind = 1
 ·have hs0:srcN f = []:=by rw [srcN,if_pos hk]
  have g1:(f.kind == 1) = true:=by rw [hk];rfl
  rw [hs0]
  clear hf r1 r2 r3 r4 hs0 hk
  go_enter Tryz.func110,Tryz.ntmps110
  go_wp2_with fail
  go_ret
  exact ⟨_,rfl,by simpa using World.ownsRow_nil _ _ _ _,bel⟩
 ·have hs0:srcN f = rise (askN f.source):=by rw [srcN,if_neg hk]
  have g1:(f.kind == 1) = false:=by simpa using hk
  rw [hs0]
  have hal:=askN_nodes f.source
  have hca:=fun w h => ref_asked _ f.source X C w (Nat.le_refl _) (by omega) h
  have HX:=Lib.hid (And.intro r4 hst)
  clear hf r1 r2 r3 r4 hs0 hk hst
  go_enter Tryz.func110,Tryz.ntmps110
  go_wp2_with (first
   | (go_at_call 153;refine (hca _ (HX.out.1.keep (old_keep bel))).mono ?_;rintro e w2 ⟨v2,rfl,hown2,hb2⟩;obtain ⟨A2,c2,rfl,hca2,hs2⟩:=ownStr hown2 rfl HX.out.2;obtain ⟨hc2,hf2⟩:=bcell hb2;(try simp only [bqh,bqc,bqf] at hc2 hf2);have hz2:=hb2.size;(try simp at hz2);(try have hy2:=nl1 hz2);(try have hx2:=nl2 hy2);refine szz w2 w ?_;intros;have hB2:Below w.heap.size w w2:=bel)
   | (go_at_call 152;refine (ref_rising A2 _ c2 _ _ (by omega) hs2).mono ?_;rintro e w3 ⟨v3,rfl,hown3,hb3⟩))
  go_ret
  exact ⟨v3,rfl,ownsRow_base hown3 hB2.size,below_chain hB2 hb3⟩

theorem badF_is {l:List Fld} (h:fieldsErr l = 0) {i:Nat} (hi:i < l.length):badF l i = (rkL (needL l) l.length i).isNone:=by
 unfold badF rankO
 rw [sweepsO_is (needL_lt h) hi]
 cases rkL (needL l) l.length i with
 | none => rfl
 | some n => simp [negO]
theorem rankO_at {l:List Fld} (h:fieldsErr l = 0) {i q:Nat} (hi:i < l.length) (hq:rkL (needL l) l.length i = some q):(rankO l)[i]? = some (q:Int):=by
 have h1:=sweepsO_is (needL_lt h) hi
 rw [hq] at h1
 have hl:=(rankO_any h).1
 have:i < (rankO l).length:=by omega
 rw [List.getElem?_eq_getElem this]
 have h2:outAt (rankO l) i = (rankO l)[i]:=outAt_at (List.getElem?_eq_getElem this)
 rw [← h2]
 exact congrArg some h1
theorem rank_first {l:List Fld} (h:fieldsErr l = 0) {j:Nat} (hj:j < l.length) (h1:∀ i,i < j → (rkL (needL l) l.length i).isSome = true) (h2:rkL (needL l) l.length j = none) :
  firstAt negO (rankO l) = j ∧ (rankO l).any negO = true:=by
 have hl:=(rankO_any h).1
 have hlt:j < (rankO l).length:=by omega
 have e1:(rankO l)[j]? = some (rankO l)[j]:=List.getElem?_eq_getElem hlt
 have e2:negO (rankO l)[j] = true:=by
  have:=badF_is h hj
  rw [h2,badF,outAt_at e1] at this
  exact this
 refine ⟨firstAt_hit negO _ j _ e1 e2 ?_,List.any_eq_true.2 ⟨_,List.getElem_mem hlt,e2⟩⟩
 rw [List.any_eq_false]
 intro x hx hn
 obtain ⟨i,hi,he⟩:=List.mem_iff_getElem.1 hx
 rw [List.length_take] at hi
 rw [List.getElem_take] at he
 have hil:i < l.length:=by omega
 have h3:=badF_is h hil
 have h4:=h1 i (by omega)
 rw [badF,outAt_at (List.getElem?_eq_getElem (by omega)),he,hn] at h3
 cases hq:rkL (needL l) l.length i with
 | none => rw [hq] at h4;cases h4
 | some q => rw [hq] at h3;cases h3
theorem rank_none {l:List Fld} (h:fieldsErr l = 0) (h1:∀ i,i < l.length → (rkL (needL l) l.length i).isSome = true):(rankO l).any negO = false:=by
 rw [List.any_eq_false]
 intro x hx hn
 obtain ⟨i,hi,he⟩:=List.mem_iff_getElem.1 hx
 have hl:=(rankO_any h).1
 have hil:i < l.length:=by omega
 have h3:=badF_is h hil
 have h4:=h1 i hil
 rw [badF,outAt_at (List.getElem?_eq_getElem hi),he,hn] at h3
 cases hq:rkL (needL l) l.length i with
 | none => rw [hq] at h4;cases h4
 | some q => rw [hq] at h3;cases h3
theorem nameAt_inj {l:List Fld} (h:fieldsErr l = 0) {i j:Nat} (hi:i < l.length) (hj:j < l.length) (e:nameAt l i = nameAt l j):i = j:=by
 have h1:=fieldAt_name h (List.getElem?_eq_getElem hi)
 have h2:=fieldAt_name h (List.getElem?_eq_getElem hj)
 rw [nameAt_at (List.getElem?_eq_getElem hi),nameAt_at (List.getElem?_eq_getElem hj)] at e
 rw [e,h2] at h1
 exact h1.symm
theorem isStr_iff {s t:ByteArray}:isStr s t = true ↔ t = s:=by
 unfold isStr
 constructor
 ·intro h;exact (toList_inj (by simpa using h)).symm
 ·intro h;rw [h];simp
theorem isStr_name {l:List Fld} (h:fieldsErr l = 0) {i x:Nat} (hi:i < l.length) (hx:x < l.length):isStr (nameAt l i) (nameAt l x) = (x == i):=by
 rw [Bool.eq_iff_iff,isStr_iff,beq_iff_eq]
 exact ⟨fun e => nameAt_inj h hx hi e,fun e => by rw [e]⟩
theorem any_nameAt {l:List Fld} (h:fieldsErr l = 0) {i:Nat} (hi:i < l.length):∀ path:List Nat,(∀ x ∈ path,x < l.length) → (path.map (nameAt l)).any (isStr (nameAt l i)) = path.any (fun x => x == i)
 | [],_ => rfl
 | a :: p,hp => by
  rw [List.map_cons,List.any_cons,List.any_cons,isStr_name h hi (hp a (by simp)),any_nameAt h hi p (fun x hx => hp x (by simp [hx]))]
theorem firstAt_nameAt {l:List Fld} (h:fieldsErr l = 0) {i:Nat} (hi:i < l.length):∀ path:List Nat,(∀ x ∈ path,x < l.length) → firstAt (isStr (nameAt l i)) (path.map (nameAt l)) = firstAt (fun x => x == i) path
 | [],_ => rfl
 | a :: p,hp => by
  rw [List.map_cons]
  simp only [firstAt]
  rw [isStr_name h hi (hp a (by simp)),firstAt_nameAt h hi p (fun x hx => hp x (by simp [hx]))]
theorem nameAt_field {l:List Fld} {s:ByteArray} (hs:l.any (hasName s) = true):nameAt l (fieldAt l s) = s:=by
 obtain ⟨_,f,h1,h2⟩:=fieldAt_some hs
 rw [nameAt_at h1,h2]
theorem nxt_names {l:List Fld} (h:fieldsErr l = 0) {i:Nat} {f:Fld} (hf:l[i]? = some f):nxtC (badF l) (needL l) i = match (srcN f).find? (fun s => (rkAt l l.length s).isNone) with | some s => fieldAt l s | none => i:=by
 unfold nxtC
 rw [ndAt_need hf]
 have hall:=((fieldsErr_all h).2 i f hf).2.2.2.2
 generalize srcN f = ss at *
 have e:∀ ss:List ByteArray,(∀ s ∈ ss,l.any (hasName s) = true) → (ss.map (fieldAt l)).find? (badF l) = (ss.find? (fun s => (rkAt l l.length s).isNone)).map (fieldAt l):=by
  intro ss
  induction ss with
  | nil => intro _;rfl
  | cons a r ih =>
   intro hh
   have ha:=hh a (by simp)
   have hb:badF l (fieldAt l a) = (rkAt l l.length a).isNone:=by rw [badF_is h (fieldAt_some ha).1,rkAt_some ha]
   rw [List.map_cons,List.find?_cons,List.find?_cons,hb]
   cases (rkAt l l.length a).isNone
   ·exact ih (fun s hs => hh s (by simp [hs]))
   ·rfl
 rw [e ss hall]
 cases ss.find? (fun s => (rkAt l l.length s).isNone) <;> rfl
end Go.Proofs.YtldbpmlgbbomcaaGreatDoor
/- The reference FieldRanks. -/
namespace Go.Proofs.YtldbpmlgbbomcaaGreatDoor
open Go.RowKit

theorem allK_snoc (l:List Fld) (k:Nat) (ss:List ByteArray) (s:ByteArray):allK l k (ss ++ [s]) = (allK l k ss && (rkAt l k s).isSome):=by simp [allK]
theorem find_takeS {α:Type} {bad:α → Bool} {m:List α} {j:Nat} {s:α} (h:∀ x ∈ m.take j,bad x = false) (hs:m[j]? = some s) (hb:bad s = true):m.find? bad = some s:=by
 have hj:=(List.getElem?_eq_some_iff.1 hs).1
 have e:m = m.take j ++ s :: m.drop (j + 1):=by
  have:=List.take_append_drop j m
  rw [List.drop_eq_getElem_cons hj] at this
  have e2:m[j] = s:=by rw [List.getElem?_eq_getElem hj] at hs;exact Option.some.inj hs
  rw [e2] at this
  exact this.symm
 rw [e,List.find?_append,List.find?_eq_none.2 (fun x hx => by rw [h x hx];decide)]
 simp [hb]
set_option maxRecDepth 100000 in
set_option maxHeartbeats 8000000 in
theorem ref_FieldRanks (l:List Fld) (L:Option Addr) (n d:Nat) (w:World) (hn:inB 112 n) (hl:Sl w (old w) 9 (RFld w (old w)) L n l) (hN:∀ f ∈ l,f.source.nodes ≤ 1048576) (hst:∀ f ∈ l,inS f.name ∧ ∀ s ∈ askN f.source,inS s) :
  Calls Tryz.prog 61 #[.slice L n d] w (RetRk w (rankR l)):=by
 have hck:=fun w h => ref_FieldsFault l L n d w hn h
 by_cases he:fieldsErr l = 0
 ·have h14:n ≤ 14:=by rw [← hl.len];exact (fieldsErr_all he).1
  rw [he] at hck
  have hmm:=@run_makeMap Tryz.prog
  obtain ⟨i0,ei,ez0,ez1,ez2⟩:=info_parts Tryz.infoIn9
  obtain ⟨s0,fi,fz0,fz1,fz2⟩:=info_parts Tryz.infoStr'
  have HH:=Lib.hid (And.intro hl (And.intro he (And.intro hN (And.intro hst (And.intro hl.len hn)))))
  clear hl hN hst hn he
  go_enter Tryz.func61,Tryz.ntmps61
  go_wp2_with (go_at_call 109;refine (hck _ (HH.out.1.nowN keeps_Fld bel)).mono ?_;rintro e w1 ⟨rfl,hb1⟩)
  go_loopw [7] (fun lv wr => ∃ k:Nat,k ≤ n ∧ lv = .int .i64 k ∧ Hid (MapIs wr Tryz.prog 9 w1.heap.size (n * k) (rkMap l k)) ∧ Below w1.heap.size w1 wr) (fun lv _ => n - (intOf lv).toNat)
  case atStart => exact ⟨0,by omega,rfl,Lib.hid (((MapIs.made w1 Tryz.prog 9).congr (fun kl => (rkMap_0 l kl).symm)).mono (Nat.zero_le _)),Below.alloc (Below.refl _ _) (Nat.le_refl _) _⟩
  case round =>
   obtain ⟨k,hk,rfl,hmk,hbk⟩:=hrel
   have hgl:=hmk.out.lt
   by_cases hltk:k < n
   ·go_wp2_with fail
    generalize hwk:wr = wk at *
    clear hwk
    go_loopw [46] (fun j wr => ∃ j':Nat,j' ≤ n ∧ j = .int .i64 j' ∧ Hid (MapIs wr Tryz.prog 9 wk.heap.size j' (rdMap l k j')) ∧ Below wk.heap.size wk wr) (fun j _ => n - (intOf j).toNat)
    case atStart => exact ⟨0,by omega,rfl,Lib.hid ((MapIs.made wk Tryz.prog 9).congr (fun kl => (rdMap_0 l k kl).symm)),Below.alloc (Below.refl _ _) (Nat.le_refl _) _⟩
    case round =>
     obtain ⟨j,hj,rfl,hrd,hbr⟩:=hrel
     have hB0:Below w.heap.size w wk:=below_step hb1 hbk hb1.size
     have hBr:Below w.heap.size w wr:=below_step hB0 hbr hB0.size
     have hgr:w1.heap.size < wr.heap.size:=Nat.lt_of_lt_of_le hgl hbr.size
     have hg2:=hrd.out.lt
     by_cases hltj:j < n
     ·obtain ⟨b,o,f,X,C,hAe,hbl,hlf,hrep,x0,x1,x2,x3,x4,x5,x6,x7,x8⟩:=Fld_at (HH.out.1.nowN keeps_Fld hBr) hltj
      subst hAe
      have hbl':b < wr.heap.size:=hbl
      have hfm:=List.mem_of_getElem? hlf
      have hkey:=WideMaps.keyOf_string_mk (P:=Tryz.prog) (k:=9) Tryz.underlying9 (inS_max (HH.out.2.2.2.1 f hfm).1)
      have hmr:=hmk.out.below hbr hgl
      have hrk:=rkMap_str l k f.name
      rw [rkAt_field HH.out.2.1 hlf] at hrk
      cases hq:rkL (needL l) k j with
      | some q =>
       have HR:=Lib.hid (rdMap_skip HH.out.2.1 hlf (.inl (by rw [hq];rfl)))
       rw [hq] at hrk
       have HG:=Lib.hid (And.intro hrk (And.intro hmr hkey))
       clear hbl hlf hrep hfm hkey hmr hrk hq
       go_wp2_with (at_lookup;refine wpList_lookup_Is _ rfl _ _ 151 rfl 9 3 (Maps.string_keyed Tryz.underlying9) Tryz.underlying151 (Tryz.zeroInt _) w1.heap.size (n * k) _ rfl (HG.out.2.1.below (show Below wr.heap.size wr _ from bel) hgr) _ _ rfl HG.out.2.2 ?_;rw [HG.out.1];simp only [Option.map_some,Option.getD_some,Option.isSome_some])
       go_roundw
       case rel => exact ⟨j + 1,by omega,by go_num,Lib.hid (by rw [HR.out];exact (hrd.out.below (show Below wr.heap.size wr _ from bel) hg2).mono (by omega)),bel⟩
       case measure => simp [intOf];omega
      | none =>
       have hnf:=HH.out.2.2.1 f hfm
       have hsf:=HH.out.2.2.2.1 f hfm
       have hso:=fun w h => ref_sources f X C w hnf hsf.2 h
       have hal:=allK_src HH.out.2.1 hlf hq
       rw [hq] at hrk
       have HG:=Lib.hid (And.intro hrk (And.intro hmr (And.intro hkey (And.intro hrep (And.intro hlf (And.intro hq hal))))))
       have hsi:∀ s ∈ srcN f,inS s:=fun s hs => by
        unfold srcN at hs
        split at hs
        ·cases hs
        ·exact hsf.2 s ((rise_mem _ _).1 hs)
       have hsl:(srcN f).length ≤ 1048576:=by
        unfold srcN
        split
        ·simp
        ·exact Nat.le_trans (rise_len _) (Nat.le_trans (askN_nodes _) hnf)
       generalize hss:srcN f = ss at *
       have HS:=Lib.hid (And.intro hsi hss)
       clear hbl hlf hrep hfm hkey hmr hrk hq hal hsi hnf hsf hss
       go_wp2_with (first
        | (at_lookup;refine wpList_lookup_Is _ rfl _ _ 151 rfl 9 3 (Maps.string_keyed Tryz.underlying9) Tryz.underlying151 (Tryz.zeroInt _) w1.heap.size (n * k) _ rfl (HG.out.2.1.below (show Below wr.heap.size wr _ from bel) hgr) _ _ rfl HG.out.2.2.1 ?_;rw [HG.out.1];simp only [Option.map_none,Option.getD_none,Option.isSome_none])
        | (go_at_call 110;refine (hso _ (HG.out.2.2.2.1.keep (old_keep bel))).mono ?_;rintro e w4 ⟨v4,rfl,ho4,hb4⟩;obtain ⟨A4,c4,rfl,hca4,hs4⟩:=ownStr ho4 rfl HS.out.1;obtain ⟨hc4,hf4⟩:=bcell hb4;(try simp only [bqh,bqc,bqf] at hc4 hf4);have hz4:=hb4.size;(try simp at hz4);(try have hy4:=nl1 hz4);(try have hx4:=nl2 hy4);refine szz w4 wr ?_;intros))
       have hB4:Below wr.heap.size wr w4:=bel
       have HS4:=Lib.hid hs4
       have hm4:=HG.out.2.1.below hB4 hgr
       have hr4:=hrd.out.below hB4 hg2
       have HM4:=Lib.hid (And.intro hm4 hr4)
       have hgr4:=hm4.lt
       have hx4:w4.cell? ⟨wr.heap.size,0,none⟩ = some (.string f.name):=(hb4.cell (p:=⟨wr.heap.size,0,none⟩) (by simp)).trans (by first | (go_simp;done) | (go_simp;exact World.cell?_setCell_same' _ _ _ (by go_simp)))
       have hwr4:wr.heap.size < w4.heap.size:=by have:=hb4.size;simp at this;omega
       clear hs4 ho4 hso hm4 hr4
       go_loopw [13,61] (fun al i wr => ∃ q:Nat,q ≤ ss.length ∧ i = .int .i64 q ∧ al = .bool (allK l k (ss.take q)) ∧ wr = w4) (fun _ i _ => ss.length - (intOf i).toNat)
       case atStart => exact ⟨0,by omega,rfl,rfl,rfl⟩
       case round =>
        obtain ⟨q,hq,rfl,rfl,rfl⟩:=hrel
        by_cases hltq:q < ss.length
        ·obtain ⟨b3,o3,s,hA3,hb3,hls,hins,y0⟩:=Str_at HS4.out hltq
         subst hA3
         have hb3':b3 < wr.heap.size:=hb3
         have hkey3:=WideMaps.keyOf_string_mk (P:=Tryz.prog) (k:=9) Tryz.underlying9 (inS_max hins)
         have hrk3:=rkMap_str l k s
         have hnx:allK l k (ss.take (q + 1)) = (allK l k (ss.take q) && (rkAt l k s).isSome):=by rw [List.take_add_one,hls];exact allK_snoc _ _ _ _
         have HG3:=Lib.hid (And.intro hkey3 hnx)
         clear hb3 hls hins hkey3 hnx
         cases hr3:rkAt l k s with
         | none =>
          rw [hr3] at hrk3
          have HR3:=Lib.hid (And.intro hrk3 (show allK l k (ss.take (q + 1)) = false by rw [HG3.out.2,hr3];simp))
          clear hrk3 hr3
          cases hak:allK l k (ss.take q)
          all_goals
           go_wp2_with (at_lookup;refine wpList_lookup_Is _ rfl _ _ 151 rfl 9 3 (Maps.string_keyed Tryz.underlying9) Tryz.underlying151 (Tryz.zeroInt _) w1.heap.size (n * k) _ rfl HM4.out.1 _ _ rfl HG3.out.1 ?_;rw [HR3.out.1];simp only [Option.map_none,Option.getD_none,Option.isSome_none])
           go_roundw
           case rel => exact ⟨q + 1,by omega,by go_num,by rw [HR3.out.2],by trivial⟩
           case measure => simp [intOf];omega
         | some m =>
          rw [hr3] at hrk3
          have HR3:=Lib.hid (And.intro hrk3 (show allK l k (ss.take (q + 1)) = allK l k (ss.take q) by rw [HG3.out.2,hr3];simp))
          clear hrk3 hr3
          cases hak:allK l k (ss.take q)
          all_goals
           have HAK:=Lib.hid hak
           clear hak
           go_wp2_with (at_lookup;refine wpList_lookup_Is _ rfl _ _ 151 rfl 9 3 (Maps.string_keyed Tryz.underlying9) Tryz.underlying151 (Tryz.zeroInt _) w1.heap.size (n * k) _ rfl HM4.out.1 _ _ rfl HG3.out.1 ?_;rw [HR3.out.1];simp only [Option.map_some,Option.getD_some,Option.isSome_some])
           go_roundw
           case rel => exact ⟨q + 1,by omega,by go_num,by rw [HR3.out.2,HAK.out],by trivial⟩
           case measure => simp [intOf];omega
        ·have hqe:q = ss.length:=by omega
         subst hqe
         rw [List.take_length]
         have hB5:Below wk.heap.size wk wr:=below_step hbr hB4 hbr.size
         cases hak:allK l k ss
         ·have HR:=Lib.hid (rdMap_skip HH.out.2.1 HG.out.2.2.2.2.1 (.inr (HG.out.2.2.2.2.2.2.trans hak)))
          clear hak
          go_wp2_with fail
          go_roundw
          case rel => exact ⟨j + 1,by omega,by go_num,Lib.hid (by rw [HR.out];exact HM4.out.2.mono (by omega)),hB5⟩
          case measure => simp [intOf];omega
         ·have HR:=Lib.hid (rdMap_put HH.out.2.1 HG.out.2.2.2.2.1 HG.out.2.2.2.2.2.1 (HG.out.2.2.2.2.2.2.trans hak))
          clear hak
          go_wp2_with (at_mapUpdate;refine wpList_mapUpdate_Is _ rfl _ _ _ 151 rfl 9 3 (Maps.string_keyed Tryz.underlying9) Tryz.underlying151 wk.heap.size j _ rfl HM4.out.2 (by unfold maxLen;omega) _ _ _ rfl rfl HG.out.2.2.1 ?_;intro w5 hm5 hg5;(try go_frame))
          go_roundw
          case rel => exact ⟨j + 1,by omega,by go_num,Lib.hid (by rw [← HR.out];exact hm5),hB5.grown hg5 hB5.size (fun b' hb' => by cases hb';exact Nat.le_refl _)⟩
          case measure => simp [intOf];omega
     ·have hje:j = n:=by omega
      subst hje
      have hrd':MapIs wr Tryz.prog 9 wk.heap.size j (rdMap l k l.length):=by rw [HH.out.2.2.2.2.1];exact hrd.out
      have HRD:=Lib.hid (And.intro hrd' (hmk.out.below hbr hgl))
      clear hrd'
      go_wp2_with (at_range;refine wpList_range_Is _ rfl _ 151 rfl 9 3 (Maps.string_keyed Tryz.underlying9) Tryz.underlying151 wk.heap.size j _ rfl HRD.out.1 ?_;intro w6 left0 cnt0 hrg0 hleft0 hg6 hs6;go_frame)
      have hmx0:MapIs w6 Tryz.prog 9 w1.heap.size (j * k + (j - cnt0)) (mixMap l k left0):=by
       rw [mixMap_start hleft0]
       exact (HRD.out.2.kept hg6 (by simp)).mono (by omega)
      have hBw6:Below w1.heap.size w1 w6:=(below_step hbk hbr hbk.size).grown hg6 (by have:=hgr;omega) (fun b' hb' => by cases hb')
      have hne1:w1.heap.size ≠ wk.heap.size:=by omega
      have hne2:w1.heap.size ≠ wr.heap.size:=by omega
      have hne3:wk.heap.size ≠ wr.heap.size:=by omega
      have hsb0:∀ kl,left0 kl = true → (rdMap l k l.length kl).isSome = true:=fun kl h => by rw [← hleft0];exact h
      have HS0:=Lib.hid (And.intro hrg0 (And.intro hmx0 hsb0))
      generalize hrr:wr.heap.size = rr at *
      clear hrg0 hmx0 hsb0 hleft0 hg6 hrr
      go_loopw [18] (fun _ wr => ∃ (left:Lit → Bool) (cnt:Nat),Hid (RangeIs wr Tryz.prog 9 wk.heap.size rr j (rdMap l k l.length) left cnt ∧ (∀ kl,left kl = true → (rdMap l k l.length kl).isSome = true) ∧ MapIs wr Tryz.prog 9 w1.heap.size (j * k + (j - cnt)) (mixMap l k left)) ∧ Below w1.heap.size w1 wr) (fun _ wr => wr.rangeLeft wk.heap.size rr)
      case atStart => exact ⟨left0,cnt0,Lib.hid ⟨HS0.out.1,HS0.out.2.2,HS0.out.2.1⟩,hBw6⟩
      case round =>
       obtain ⟨left,cnt,hS,hBn⟩:=hrel
       have hcj:=hS.out.1.cnt_le
       go_wp2_with (at_next;refine wpList_next_Is _ rfl _ rfl 9 (Maps.string_keyed Tryz.underlying9) Tryz.underlying9 wk.heap.size rr j _ left cnt hS.out.2.1 rfl hS.out.1 ?_ ?_)
       ·intro hc0 hl0
        have hend:=hS.out.2.2
        rw [mixMap_end hl0] at hend
        have HE:=Lib.hid hend
        clear hend hl0 hS
        go_wp2_with fail
        go_roundw
        case rel => exact ⟨k + 1,by omega,by go_num,Lib.hid (HE.out.mono (by rw [Nat.mul_add];omega)),hBn⟩
        case measure => simp [intOf];omega
       ·intro s c w7 cnt7 hsz hlk hfc hrg7 hlt7 hg7 hs7 hen
        have hkey7:=WideMaps.keyOf_string_mk (P:=Tryz.prog) (k:=9) Tryz.underlying9 hsz
        have hm7:=hS.out.2.2.kept hg7 (fun e => hne2 (Option.some.inj e))
        have hps:=mixMap_step (left:=left) hfc
        have HP:=Lib.hid (And.intro hrg7 (And.intro hm7 (And.intro hps (And.intro hkey7 hg7))))
        have hjk:j * k ≤ 196:=Nat.le_trans (Nat.mul_le_mul h14 (by omega:k ≤ 14)) (by omega)
        clear hrg7 hm7 hps hkey7 hfc hlk hg7
        go_wp2_with (at_mapUpdate;refine wpList_mapUpdate_Is _ rfl _ _ _ 151 rfl 9 3 (Maps.string_keyed Tryz.underlying9) Tryz.underlying151 w1.heap.size (j * k + (j - cnt)) _ rfl HP.out.2.1 (by unfold maxLen;omega) _ _ _ rfl rfl HP.out.2.2.2.1 ?_;intro w8 hm8 hg8;(try go_frame))
        have hrg8:=HP.out.1.kept hg8 (fun e => hne1 (Option.some.inj e).symm) (fun e => hne2 (Option.some.inj e).symm)
        go_roundw
        case rel =>
         refine ⟨_,cnt7,Lib.hid ⟨hrg8,fun kl h => hS.out.2.1 kl (by simp only [Bool.and_eq_true] at h;exact h.1),?_⟩,?_⟩
         ·rw [← HP.out.2.2.1]
          exact hm8.mono (by omega)
         ·exact (hBn.grown HP.out.2.2.2.2 hBn.size (fun b' hb' => by cases hb';omega)).grown hg8 (by have:=hBn.size;omega) (fun b' hb' => by cases hb';omega)
        case measure => rw [hrg8.left_eq,hS.out.1.left_eq];exact hlt7
   ·have hke:k = n:=by omega
    subst hke
    have hln:=HH.out.2.2.2.2.1
    have hmk':MapIs wr Tryz.prog 9 w1.heap.size (k * k) (rkMap l l.length):=by rw [hln];exact hmk.out
    have HMK:=Lib.hid hmk'
    have hBm:Below w.heap.size w wr:=below_step hb1 hbk hb1.size
    clear hmk hmk'
    go_wp2_with fail
    generalize hwm:wr = wm at *
    clear hwm
    go_loopw [20,94] (fun v i wr => ∃ j:Nat,j ≤ k ∧ i = .int .i64 j ∧ Hid (wr.ownsRow wm.heap.size 3 1 v j (((rankO l).take j).flatMap intCs)) ∧ Hid (∀ i,i < j → (rkL (needL l) l.length i).isSome = true) ∧ Below wm.heap.size wm wr) (fun _ i _ => k - (intOf i).toNat)
    case atStart => exact ⟨0,by omega,rfl,Lib.hid (by simpa using World.ownsRow_nil _ _ _ _),Lib.hid (fun i h => absurd h (Nat.not_lt_zero _)),Below.refl _ _⟩
    case round =>
     obtain ⟨j,hj,rfl,hown,hall,hbr⟩:=hrel
     have hBr:Below w.heap.size w wr:=below_step hBm hbr hBm.size
     have hgr:w1.heap.size < wr.heap.size:=Nat.lt_of_lt_of_le hgl hbr.size
     by_cases hltj:j < k
     ·obtain ⟨b,o,f,X,C,hAe,hbl,hlf,hrep,x0,x1,x2,x3,x4,x5,x6,x7,x8⟩:=Fld_at (HH.out.1.nowN keeps_Fld hBr) hltj
      subst hAe
      have hbl':b < wr.heap.size:=hbl
      have hjl:j < l.length:=by rw [hln];exact hltj
      have hfm:=List.mem_of_getElem? hlf
      have hkey:=WideMaps.keyOf_string_mk (P:=Tryz.prog) (k:=9) Tryz.underlying9 (inS_max (HH.out.2.2.2.1 f hfm).1)
      have hmr:=HMK.out.below hbr hgl
      have hrk:=rkMap_str l l.length f.name
      rw [rkAt_field HH.out.2.1 hlf] at hrk
      cases hq:rkL (needL l) l.length j with
      | some q =>
       have hra:=rankO_at HH.out.2.1 hjl hq
       rw [hq] at hrk
       have HG:=Lib.hid (And.intro hrk (And.intro hmr (And.intro hkey (And.intro hra hq))))
       clear hbl hlf hrep hfm hkey hmr hrk hq hra
       go_wp2_with (first
        | (at_lookup;refine wpList_lookup_Is _ rfl _ _ 151 rfl 9 3 (Maps.string_keyed Tryz.underlying9) Tryz.underlying151 (Tryz.zeroInt _) w1.heap.size (k * k) _ rfl (HG.out.2.1.below (show Below wr.heap.size wr _ from bel) hgr) _ _ rfl HG.out.2.2.1 ?_;rw [HG.out.1];simp only [Option.map_some,Option.getD_some,Option.isSome_some])
        | (at_builtin;refine wpList_append1 rfl _ _ 101 rfl wm.heap.size 3 i0 _ 1 8 Tryz.underlying101 ei ez0 ez1 ez2 rfl (by decide) _ j _ rfl (ownsRow_keep hown.out ((Below.refl _ _).alloc (Nat.le_refl _) _)) [.int .i64 (q:Int)] 3 rfl _ rfl (by simp) rfl (by simp [Value.oneCell']) (by omega) (by unfold maxLen;omega) (by have:=hbr.size;simp;omega) ?_;intro v6 w6 hown6 hb6 hz6 _))
       go_roundw
       case rel =>
        refine ⟨j + 1,by omega,by go_num,Lib.hid ?_,Lib.hid ?_,below_step (below_step hbr (show Below wr.heap.size wr _ from ((Below.refl _ _).alloc (Nat.le_refl _) _)) hbr.size) hb6 (Nat.le_refl _)⟩
        ·rw [List.take_add_one,HG.out.2.2.2.1,List.flatMap_append]
         simpa using hown6
        ·intro i hi
         by_cases hij:i = j
         ·rw [hij,HG.out.2.2.2.2];rfl
         ·exact hall.out i (by omega)
       case measure => simp [intOf];omega
      | none =>
       have hfst:=rank_first HH.out.2.1 hjl hall.out hq
       have hrr:rankR l = ([],(cycF l).map (nameAt l),10):=by rw [rankR,if_neg (by simpa using HH.out.2.1),if_pos hfst.2]
       have hcy0:cycC (badF l) (needL l) (k + 1) [] j = cycF l:=by unfold cycF;rw [hfst.1,hln]
       have hnm:=nameAt_at hlf
       rw [hq] at hrk
       have HG:=Lib.hid (And.intro hrk (And.intro hmr (And.intro hkey (And.intro hrr (And.intro hcy0 hnm)))))
       clear hbl hlf hrep hfm hkey hmr hrk hq hfst hrr hcy0 hnm
       go_wp2_with (at_lookup;refine wpList_lookup_Is _ rfl _ _ 151 rfl 9 3 (Maps.string_keyed Tryz.underlying9) Tryz.underlying151 (Tryz.zeroInt _) w1.heap.size (k * k) _ rfl (HG.out.2.1.below (show Below wr.heap.size wr _ from bel) hgr) _ _ rfl HG.out.2.2.1 ?_;rw [HG.out.1];simp only [Option.map_none,Option.getD_none,Option.isSome_none])
       have hB0:Below wr.heap.size wr (wr.alloc (.cells #[.string f.name,.int .i64 f.kind,.int .i64 f.type,.int .i64 f.source.op,.int .i64 f.source.v.k,.int .i64 f.source.v.n,.string f.source.v.s,.string f.source.name,.slice X f.source.args.length C] 65)):=bel
       generalize hwq:wr = wq at *
       clear hwq
       go_loopw [25,26] (fun v sv wr => ∃ (path:List Nat) (i:Nat),sv = .string (nameAt l i) ∧ i < k ∧ Hid (wr.ownsRow wq.heap.size 9 1 v path.length ((path.map (nameAt l)).flatMap strCs)) ∧ lenOf v = path.length ∧ PathC k path ∧ Hid (cycC (badF l) (needL l) (k + 1 - path.length) path i = cycF l) ∧ Below wq.heap.size wq wr) (fun v _ _ => k + 1 - lenOf v)
       case atStart => exact ⟨[],j,by rw [HG.out.2.2.2.2.2],hltj,Lib.hid (by simpa using World.ownsRow_nil _ _ _ _),rfl,PathC.nil k,Lib.hid HG.out.2.2.2.2.1,hB0⟩
       case round =>
        obtain ⟨path,i,rfl,hik,hp,hlv,hpc,hcy,hbp⟩:=hrel
        have hpl:=hpc.len
        have hil:i < l.length:=by rw [hln];exact hik
        have hBp:Below w.heap.size w wr:=below_step hBr hbp hBr.size
        have hpn:∀ x ∈ path,x < l.length:=fun x hx => by rw [hln];exact hpc.2 x hx
        have hinn:∀ s ∈ path.map (nameAt l),inS s:=by
         intro s hs
         obtain ⟨x,hx,rfl⟩:=List.mem_map.1 hs
         rw [nameAt_at (List.getElem?_eq_getElem (hpn x hx))]
         exact (HH.out.2.2.2.1 _ (List.getElem_mem (hpn x hx))).1
        obtain ⟨A9,c9,e9,hca9,hs9⟩:=own_slw9 hp.out (by simp) hinn
        subst e9
        have hho:=fun w h => ref_holds (nameAt l i) A9 path.length c9 (path.map (nameAt l)) w (by unfold inL;omega) h
        rw [any_nameAt HH.out.2.1 hil path hpn] at hho
        have HS:=Lib.hid (And.intro (hs9.mono (S':=old wr) (fun b hb => hb.2)) (And.intro hlv (And.intro hs9 hpn)))
        clear hs9 hlv hinn hpn
        cases hany:path.any (fun x => x == i)
        ·rw [hany] at hho
         obtain ⟨f2,hf2⟩:∃ f2,l[i]? = some f2:=⟨_,List.getElem?_eq_getElem hil⟩
         have hfm2:=List.mem_of_getElem? hf2
         have hnf2:=HH.out.2.2.1 f2 hfm2
         have hsf2:=HH.out.2.2.2.1 f2 hfm2
         have hfa:=fun w h => ref_FieldAt (some ⟨b,o,none⟩) k d l (nameAt l i) w (by unfold inL;omega) h
         have hfx:firstAt (hasName (nameAt l i)) l = i:=by rw [nameAt_at hf2];exact fieldAt_name HH.out.2.1 hf2
         rw [hfx] at hfa
         have hpc':=hpc.snoc hik hany
         have hpl':path.length + 1 ≤ k:=by have:=hpc'.len;simpa using this
         have hcy':cycC (badF l) (needL l) (k + 1 - (path ++ [i]).length) (path ++ [i]) (nxtC (badF l) (needL l) i) = cycF l:=by
          have h1:=hcy.out
          rw [show k + 1 - path.length = (k + 1 - (path ++ [i]).length) + 1 by simp;omega,cycC_step hany] at h1
          exact h1
         have hnx:=nxt_names HH.out.2.1 hf2
         have hsi:∀ s ∈ srcN f2,inS s ∧ l.any (hasName s) = true:=fun s hs => by
          refine ⟨?_,((fieldsErr_all HH.out.2.1).2 i f2 hf2).2.2.2.2 s hs⟩
          unfold srcN at hs
          split at hs
          ·cases hs
          ·exact hsf2.2 s ((rise_mem _ _).1 hs)
         have hsl:(srcN f2).length ≤ 1048576:=by
          unfold srcN
          split
          ·simp
          ·exact Nat.le_trans (rise_len _) (Nat.le_trans (askN_nodes _) hnf2)
         generalize hss:srcN f2 = ss at *
         have HC:=Lib.hid (And.intro hpc' (And.intro hcy' (And.intro hnx (And.intro hsi (And.intro hf2 hss)))))
         clear hpc hcy hany hpc' hcy' hnx hsi hf2 hss hfm2 hfx
         go_wp2_with (first
          | (go_at_call 111;refine (hho _ (HS.out.1.now bel)).mono ?_;rintro e w5 ⟨rfl,hb5⟩)
          | (at_builtin;refine wpList_append1 rfl _ _ 63 rfl wq.heap.size 9 s0 (.string ⟨#[]⟩) 1 16 Tryz.underlying63 fi fz0 fz1 fz2 rfl (by decide) _ path.length _ rfl (ownsRow_keep hp.out hb5) [.string (nameAt l i)] 9 rfl _ rfl rfl rfl (by simp [Value.oneCell']) (by omega) (by unfold maxLen;omega) (by have:=hbp.size;have:=hb5.size;omega) ?_;intro v6 w6 hown6 hb6 hz6 _;have hB6:Below w.heap.size w w6:=below_step (below_step hBp hb5 hBp.size) hb6 hBr.size;have HO6:=Lib.hid hown6;clear hown6)
          | (go_at_call 112;refine (hfa _ (HH.out.1.nowN keeps_Fld hB6)).mono ?_;rintro e w7 ⟨rfl,hb7⟩;have hB7:Below w.heap.size w w7:=below_step hB6 hb7 hB6.size;obtain ⟨b2,o2,f2',X2,C2,hAe2,hbl2,hlf2,hrep2,z0,z1,z2,z3,z4,z5,z6,z7,z8⟩:=Fld_at (HH.out.1.nowN keeps_Fld hB7) hik;cases hAe2;obtain rfl:f2' = f2:=Option.some.inj (hlf2.symm.trans HC.out.2.2.2.2.1);have hbl2':b < w7.heap.size:=hbl2;have hso2:=(fun w h => ref_sources f2' X2 C2 w hnf2 hsf2.2 h);rw [HC.out.2.2.2.2.2] at hso2;have HRP:=Lib.hid hrep2;clear hlf2 hrep2 hbl2)
          | (go_at_call 110;refine (hso2 _ (HRP.out.keep (old_keep bel))).mono ?_;rintro e w8 ⟨v8,rfl,ho8,hb8⟩;obtain ⟨A8,c8,rfl,hca8,hs8⟩:=ownStr ho8 rfl (fun s hs => (HC.out.2.2.2.1 s hs).1);have HS8:=Lib.hid hs8;clear hs8 ho8))
         have hq8:Below wq.heap.size wq w8:=below_step (below_step (below_step (below_step hbp hb5 hbp.size) hb6 (Nat.le_refl _)) hb7 (Nat.le_trans (Nat.le_trans hbp.size hb5.size) hz6)) hb8 (Nat.le_trans (Nat.le_trans (Nat.le_trans hbp.size hb5.size) hz6) hb7.size)
         have hm8:=HMK.out.below (below_step hbr hq8 hbr.size) hgl
         have HM8:=Lib.hid hm8
         have hO8:=ownsRow_keep HO6.out (below_chain hb7 hb8)
         have HO8:=Lib.hid hO8
         have hlv6:lenOf v6 = path.length + 1:=by
          rcases HO6.out.2 with ⟨_,h0⟩ | ⟨g,cap,cur,e6,_⟩
          ·omega
          ·rw [e6];rfl
         clear hm8 hO8 hb7 hb8 hb5 hb6
         generalize hwv:w8 = wv at *
         clear hwv
         go_loopw [26,128] (fun sv i' wr => ∃ q:Nat,q ≤ ss.length ∧ i' = .int .i64 q ∧ sv = .string (nameAt l i) ∧ wr = wv ∧ Hid (∀ x ∈ ss.take q,(rkAt l l.length x).isNone = false)) (fun _ i' _ => ss.length - (intOf i').toNat)
         case atStart => exact ⟨0,by omega,rfl,rfl,rfl,Lib.hid (fun x h => absurd h (by simp))⟩
         case round =>
          obtain ⟨q,hq,rfl,rfl,rfl,hno⟩:=hrel
          by_cases hltq:q < ss.length
          ·obtain ⟨b3,o3,s,hA3,hb3,hls,hins,y0⟩:=Str_at HS8.out hltq
           subst hA3
           have hb3':b3 < wr.heap.size:=hb3
           have hkey3:=WideMaps.keyOf_string_mk (P:=Tryz.prog) (k:=9) Tryz.underlying9 (inS_max hins)
           have hrk3:=rkMap_str l l.length s
           have hany3:=(HC.out.2.2.2.1 s (List.mem_of_getElem? hls)).2
           cases hr3:rkAt l l.length s with
           | none =>
            rw [hr3] at hrk3
            have hfd:ss.find? (fun s => (rkAt l l.length s).isNone) = some s:=find_takeS hno.out hls (by rw [hr3];rfl)
            have hn3:=HC.out.2.2.1
            rw [hfd] at hn3
            have hcy3:=HC.out.2.1
            rw [hn3] at hcy3
            have HR3:=Lib.hid (And.intro hrk3 (And.intro hkey3 (And.intro hcy3 (And.intro (nameAt_field hany3) (fieldAt_some hany3).1))))
            clear hno hb3 hls hins hkey3 hrk3 hany3 hr3 hfd hn3 hcy3
            go_wp2_with (at_lookup;refine wpList_lookup_Is _ rfl _ _ 151 rfl 9 3 (Maps.string_keyed Tryz.underlying9) Tryz.underlying151 (Tryz.zeroInt _) w1.heap.size (k * k) _ rfl HM8.out _ _ rfl HR3.out.2.1 ?_;rw [HR3.out.1];simp only [Option.map_none,Option.getD_none,Option.isSome_none])
            go_roundw
            case rel => exact ⟨path ++ [i],fieldAt l s,by rw [HR3.out.2.2.2.1],by rw [← hln];exact HR3.out.2.2.2.2,Lib.hid (by simpa using HO8.out),by simpa using hlv6,HC.out.1,Lib.hid HR3.out.2.2.1,hq8⟩
            case measure => rw [hlv6,HS.out.2.1];omega
           | some m =>
            rw [hr3] at hrk3
            have HR3:=Lib.hid (And.intro hrk3 (And.intro hkey3 (show ∀ x ∈ ss.take (q + 1),(rkAt l l.length x).isNone = false by
             intro x hx
             rw [List.take_add_one,hls] at hx
             rcases List.mem_append.1 hx with hx | hx
             ·exact hno.out x hx
             ·simp at hx;rw [hx,hr3];rfl)))
            clear hno hb3 hls hins hkey3 hrk3 hany3 hr3
            go_wp2_with (at_lookup;refine wpList_lookup_Is _ rfl _ _ 151 rfl 9 3 (Maps.string_keyed Tryz.underlying9) Tryz.underlying151 (Tryz.zeroInt _) w1.heap.size (k * k) _ rfl HM8.out _ _ rfl HR3.out.2.1 ?_;rw [HR3.out.1];simp only [Option.map_some,Option.getD_some,Option.isSome_some])
            go_roundw
            case rel => exact ⟨q + 1,by omega,by go_num,by trivial,by trivial,Lib.hid HR3.out.2.2⟩
            case measure => simp [intOf];omega
          ·have hqe:q = ss.length:=by omega
           subst hqe
           have hno':=hno.out
           rw [List.take_length] at hno'
           have hfd:ss.find? (fun s => (rkAt l l.length s).isNone) = none:=List.find?_eq_none.2 (fun x hx => by rw [hno' x hx];decide)
           have hn3:=HC.out.2.2.1
           rw [hfd] at hn3
           have hcy3:=HC.out.2.1
           rw [hn3] at hcy3
           have HR3:=Lib.hid hcy3
           clear hno hno' hfd hn3 hcy3
           go_wp2_with fail
           go_roundw
           case rel => exact ⟨path ++ [i],i,rfl,hik,Lib.hid (by simpa using HO8.out),by simpa using hlv6,HC.out.1,HR3,hq8⟩
           case measure => rw [hlv6,HS.out.2.1];omega
        ·rw [hany] at hho
         have hlt:=firstAt_any _ path hany
         have hr1:=hcy.out
         rw [show k + 1 - path.length = (k - path.length) + 1 by omega,cycC_stop hany] at hr1
         have hsn:∀ m,m < path.length → (path.map (nameAt l))[m]? = some (nameAt l (path[m]?.getD 0)):=fun m hm => by
          rw [List.getElem?_map,List.getElem?_eq_getElem hm];rfl
         have hat:=find_at (fun x => x == i) path hany
         have hfe:path[firstAt (fun x => x == i) path]? = some i:=by
          obtain ⟨a,h1,h2,_⟩:=hat
          have:=List.find?_some h2
          rw [h1]
          simpa using this
         have hfl:∀ m,m < firstAt (fun x => x == i) path → path[m]?.getD 0 ≠ i:=fun m hm e => by
          have h5:=firstAt_hit (fun x => x == i) (path.take (m + 1)) m
          have hml:m < path.length:=by omega
          have h6:(path.take (firstAt (fun x => x == i) path)).any (fun x => x == i) = false:=by
           rcases firstAt_take (fun x => x == i) path (firstAt (fun x => x == i) path) with h | h
           ·omega
           ·exact h
          rw [List.any_eq_false] at h6
          rw [List.getElem?_eq_getElem hml] at e
          refine h6 path[m] (List.mem_iff_getElem.2 ⟨m,by rw [List.length_take];omega,by rw [List.getElem_take]⟩) ?_
          simpa using e
         generalize firstAt (fun x => x == i) path = qf at *
         have hcl:(cycF l).map (nameAt l) = (path.map (nameAt l)).drop qf:=by rw [← hr1,List.map_drop]
         have HC:=Lib.hid (And.intro hcl (And.intro hfe (And.intro hfl hsn)))
         clear hcy hany hr1 hat hfe hfl hcl hsn
         go_wp2_with (go_at_call 111;refine (hho _ (HS.out.1.now bel)).mono ?_;rintro e w5 ⟨rfl,hb5⟩)
         have hs5:=HS.out.2.2.1.keep (w':=w5) (fun b hb => hb5.block b hb.2) (fun _ _ h => h)
         have hs5':Sl w5 (fun b => wq.heap.size ≤ b ∧ b < w5.heap.size) 1 RStr A9 (path.length - 0) ((path.map (nameAt l)).drop 0):=by
          rw [Nat.sub_zero,List.drop_zero]
          exact hs5.mono (fun b hb => ⟨hb.1,Nat.lt_of_lt_of_le hb.2 hb5.size⟩)
         have HS5:=Lib.hid hs5'
         clear hs5 hs5'
         generalize hwv:w5 = wv at *
         clear hwv
         go_loopw [25] (fun v wr => ∃ (m:Nat) (A:Option Addr) (c:Nat),v = .slice A (path.length - m) c ∧ m ≤ qf ∧ path.length - m ≤ c ∧ wr = wv ∧ Hid (Sl wv (fun b => wq.heap.size ≤ b ∧ b < wv.heap.size) 1 RStr A (path.length - m) ((path.map (nameAt l)).drop m))) (fun v _ => lenOf v)
         case atStart => exact ⟨0,A9,c9,rfl,Nat.zero_le _,hca9,rfl,HS5⟩
         case round =>
          obtain ⟨m,A,c,rfl,hmq,hmc,rfl,hsm⟩:=hrel
          obtain ⟨b3,o3,x,hA3,hb3,hlx,hins,y0⟩:=Str_at hsm.out (k:=0) (by omega)
          subst hA3
          have hb3':b3 < wr.heap.size:=hb3.2
          rw [Nat.add_zero] at y0
          have hxm:x = nameAt l (path[m]?.getD 0):=by
           rw [List.getElem?_drop,Nat.add_zero,HC.out.2.2.2 m (by omega)] at hlx
           exact (Option.some.inj hlx).symm
          by_cases hmqe:m = qf
          ·subst hmqe
           have hxe:x = nameAt l i:=by rw [hxm,HC.out.2.1];rfl
           subst hxe
           have hpos:0 < path.length - m:=by omega
           have g1:((nameAt l i).toList == (nameAt l i).toList) = true:=by simp
           have HR:=Lib.hid hsm.out
           clear hsm hlx hxm hb3 hins
           go_wp2_with fail
           go_ret3
           rw [HG.out.2.2.2.1,HC.out.1]
           have hll:((path.map (nameAt l)).drop m).length = path.length - m:=by rw [List.length_drop,List.length_map]
           exact ⟨none,0,some ⟨b3,o3,none⟩,c,by rw [hll];rfl,Nat.le_refl _,by rw [hll];exact hmc,Sl.nil,by rw [hll];exact HR.out.mono (fun b hb => ⟨by have:=hb.1;have:=hBr.size;omega,hb.2⟩),below_step hBp hb5 hBp.size⟩
          ·have hxe:x ≠ nameAt l i:=by
            rw [hxm]
            intro e
            have hml:m < path.length:=by omega
            refine HC.out.2.2.1 m (by omega) (nameAt_inj HH.out.2.1 ?_ hil e)
            rw [List.getElem?_eq_getElem hml]
            exact HS.out.2.2.2 _ (List.getElem_mem hml)
           have g1:(x.toList == (nameAt l i).toList) = false:=by
            cases hb:(x.toList == (nameAt l i).toList)
            ·rfl
            ·exact absurd (toList_inj (by simpa using hb)) hxe
           have hpos:1 < path.length - m:=by omega
           have hpos0:0 < path.length - m:=by omega
           have hc1:1 ≤ c:=by omega
           obtain ⟨A7,e7,hs7⟩:=hsm.out.cut (k:=1) (by omega) hmc
           rw [if_neg (by omega)] at e7
           subst e7
           have HR:=Lib.hid hs7
           clear hsm hlx hxm hb3 hins hxe hs7
           go_wp2_with fail
           go_roundw
           case rel =>
            refine ⟨m + 1,some (Addr.add ⟨b3,o3,none⟩ 1),c - 1,by rw [Addr.add_lit,Nat.sub_add_eq],by omega,by omega,by trivial,Lib.hid ?_⟩
            have h7:=HR.out
            rw [List.drop_drop,Nat.sub_sub] at h7
            exact h7
           case measure => show path.length - m - 1 < path.length - m;omega
     ·have hje:j = k:=by omega
      subst hje
      have hrn:rankR l = (rankO l,[],0):=by
       rw [rankR,if_neg (by simpa using HH.out.2.1),if_neg (by rw [rank_none HH.out.2.1 (fun i hi => hall.out i (by omega))];decide)]
      have hlr:=(rankO_any HH.out.2.1)
      have ho:=hown.out
      rw [List.take_of_length_le (by rw [hlr.1,hln];exact Nat.le_refl _)] at ho
      obtain ⟨A9,c9,e9,hc9,hs9⟩:=own_sli ho (by rw [hlr.1,hln]) (hlr.2.inI (needL_lt HH.out.2.1) (by rw [hln];exact h14))
      subst e9
      have HS:=Lib.hid (And.intro hs9 (And.intro hc9 (And.intro hrn hlr.1)))
      clear ho hs9 hc9 hrn hlr hown
      go_wp2_with fail
      go_ret3
      rw [HS.out.2.2.1]
      exact ⟨A9,c9,none,0,by rw [HS.out.2.2.2,hln];rfl,by rw [HS.out.2.2.2,hln];exact HS.out.2.1,Nat.le_refl _,by rw [HS.out.2.2.2,hln];exact HS.out.1.mono (fun b hb => ⟨by have:=hb.1;have:=hBm.size;omega,hb.2⟩),Sl.nil,hBr⟩
 ·have hr:rankR l = ([],[],fieldsErr l):=by rw [rankR,if_pos he]
  rw [hr]
  have he':(fieldsErr l != 0) = true:=by simpa using he
  generalize fieldsErr l = er at *
  have HH:=Lib.hid hl
  clear hl he hr hn hN hst
  go_enter Tryz.func61,Tryz.ntmps61
  go_wp2_with (go_at_call 109;refine (hck _ (HH.out.nowN keeps_Fld bel)).mono ?_;rintro e w1 ⟨rfl,hb1⟩;obtain ⟨hc1,hf1⟩:=bcell hb1;(try simp only [bqh,bqc,bqf] at hc1 hf1);have hz1:=hb1.size;(try simp at hz1);(try have hy1:=nl1 hz1);(try have hx1:=nl2 hy1);refine szz w1 w ?_;intros)
  go_ret3
  exact ⟨none,0,none,0,rfl,Nat.le_refl _,Nat.le_refl _,Sl.nil,Sl.nil,bel⟩
end Go.Proofs.YtldbpmlgbbomcaaGreatDoor
