/- What a list of tokens is read as: formulas. Plain laws. -/
import Derived.Test.YtldbpmlgbbomcaaGreatDoorPrnP
import Derived.Test.YtldbpmlgbbomcaaGreatDoorLexP
namespace Go.Proofs.YtldbpmlgbbomcaaGreatDoor
open Go.RowKit

theorem lexF_len (l:List UInt8):∀ (f p:Nat),p ≤ l.length → (lexF l f p).1.length + p ≤ l.length
 | 0,p,h => by rw [lexF];simpa using h
 | f + 1,p,h => by
  rw [lexF]
  split
  ·split
   ·have:=lexF_len l f (p + 1) (by omega)
    omega
   ·split
    ·rename_i h2
     have h1:=oneX_len h2
     rw [List.length_drop] at h1
     split
     ·have:=lexF_len l f (p + (oneX (l.drop p)).1.s.size) (by omega)
      simp only [List.length_cons]
      omega
     ·simpa using h
    ·simpa using h
  ·simpa using h
theorem lexX_len (l:List UInt8):(lexX l).1.length ≤ 160:=by
 unfold lexX
 split
 ·exact Nat.zero_le _
 ·rename_i h
  have:=lexF_len l (l.length + 1) 0 (Nat.zero_le _)
  omega
inductive PR (α:Type)
 | ok (x:α) (r:List Tkn)
 | bad (r:List Tkn)
def PR.then {α β:Type}:PR α → (α → List Tkn → PR β) → PR β
 | .ok x r,f => f x r
 | .bad r,_ => .bad r
def isTk (g:ByteArray) (ts:List Tkn):Bool:=match ts with | [] => false | t :: _ => t.kind != 3 && decide (t.s = g)
def binOps:List Int:=[5,6,7,8,9,10,11,12,13,14,15,16]
def opOf (ts:List Tkn):Option Int:=binOps.find? fun op => isTk (sgnN op) ts
def binAt (L h:Int) (ts:List Tkn):Option Int:=(opOf ts).filter fun op => decide (L ≤ lvlN op ∧ lvlN op < h)
def nextH (op:Int):Int:=if lvlN op = 3 then 3 else lvlN op + 1
def unX (op:Int) (x:Exp):Exp:=.mk op tkVal ⟨#[]⟩ [x]
def binX (op:Int) (x y:Exp):Exp:=.mk op tkVal ⟨#[]⟩ [x,y]
def callX (op:Int) (l:List Exp):Exp:=.mk op tkVal ⟨#[]⟩ l
def cstX (v:Val):Exp:=.mk 1 v ⟨#[]⟩ []
def refX (s:ByteArray):Exp:=.mk 2 tkVal s []
def tOpen:ByteArray:=⟨#[40]⟩
def tClose:ByteArray:=⟨#[41]⟩
def tComma:ByteArray:=⟨#[44]⟩
def tTrue:ByteArray:=⟨#[116,114,117,101]⟩
def tFalse:ByteArray:=⟨#[102,97,108,115,101]⟩
def wantT {α:Type} (g:ByteArray) (x:α) (ts:List Tkn):PR α:=if isTk g ts = true then .ok x ts.tail else .bad ts
def leafP (ts:List Tkn):PR Exp:=match ts with
 | [] => .bad []
 | t :: r => if t.kind = 2 ∧ isKey t.s = false then .ok (refX t.s) r else if t.kind = 1 ∨ t.kind = 3 then .ok (cstX t.v) r else .bad (t :: r)
mutual
def pOne:Nat → List Tkn → PR Exp
 | 0,ts => .bad ts
 | n + 1,ts =>
  if isTk (sgnN 3) ts = true then (pOne n ts.tail).then fun x r => .ok (unX 3 x) r
  else if isTk (sgnN 4) ts = true then (pOne n ts.tail).then fun x r => .ok (unX 4 x) r
  else if isTk tOpen ts = true then (pForm n 1 ts.tail).then fun x r => wantT tClose x r
  else if isTk tTrue ts = true then .ok (cstX ⟨2,1,⟨#[]⟩⟩) ts.tail
  else if isTk tFalse ts = true then .ok (cstX ⟨2,0,⟨#[]⟩⟩) ts.tail
  else if isTk (sgnN 17) ts = true then (pArgs n 3 tOpen [] ts.tail).then fun l r => .ok (callX 17 l) r
  else if isTk (sgnN 18) ts = true then (pArgs n 1 tOpen [] ts.tail).then fun l r => .ok (callX 18 l) r
  else leafP ts
def pForm:Nat → Int → List Tkn → PR Exp
 | 0,_,ts => .bad ts
 | n + 1,L,ts => (pOne n ts).then fun x r => pClimb n L 6 x r
def pClimb:Nat → Int → Int → Exp → List Tkn → PR Exp
 | 0,_,_,_,ts => .bad ts
 | n + 1,L,h,x,ts => match binAt L h ts with
  | none => .ok x ts
  | some op => (pForm n (lvlN op + 1) ts.tail).then fun y r => pClimb n L (nextH op) (binX op x y) r
def pArgs:Nat → Nat → ByteArray → List Exp → List Tkn → PR (List Exp)
 | 0,_,_,_,ts => .bad ts
 | _ + 1,0,_,acc,ts => wantT tClose acc ts
 | n + 1,k + 1,g,acc,ts => (wantT g () ts).then fun _ r => (pForm n 1 r).then fun x r' => pArgs n k tComma (acc ++ [x]) r'
end
theorem isTk_nil (g:ByteArray):isTk g [] = false:=rfl
theorem isTk_cons {g:ByteArray} {ts:List Tkn} (h:isTk g ts = true):∃ t r,ts = t :: r ∧ t.kind ≠ 3 ∧ t.s = g:=by
 cases ts with
 | nil => cases h
 | cons t r => exact ⟨t,r,rfl,by simpa [isTk] using h⟩
theorem isTk_two {g g':ByteArray} {ts:List Tkn} (h:isTk g ts = true) (h':isTk g' ts = true):g = g':=by
 obtain ⟨t,r,rfl,_,e⟩:=isTk_cons h
 obtain ⟨t',r',e1,_,e'⟩:=isTk_cons h'
 cases e1
 rw [← e,e']
theorem tail_len {g:ByteArray} {ts:List Tkn} (h:isTk g ts = true):ts.tail.length + 1 = ts.length:=by
 obtain ⟨t,r,rfl,_⟩:=isTk_cons h
 rfl
theorem opOf_some {ts:List Tkn} {op:Int} (h:opOf ts = some op):op ∈ binOps ∧ isTk (sgnN op) ts = true :=
 ⟨List.mem_of_find?_eq_some h,by simpa using List.find?_some h⟩
theorem binOps_range {op:Int} (h:op ∈ binOps):5 ≤ op ∧ op ≤ 16:=by
 simp only [binOps,List.mem_cons,List.not_mem_nil,or_false] at h
 omega
theorem sgn_inj {a b:Int} (ha:a ∈ binOps) (hb:b ∈ binOps) (h:sgnN a = sgnN b):a = b:=by
 simp only [binOps,List.mem_cons,List.not_mem_nil,or_false] at ha hb
 rcases ha with rfl | rfl | rfl | rfl | rfl | rfl | rfl | rfl | rfl | rfl | rfl | rfl <;> rcases hb with rfl | rfl | rfl | rfl | rfl | rfl | rfl | rfl | rfl | rfl | rfl | rfl <;> first | rfl | exact absurd h (by decide)
theorem opOf_iff {ts:List Tkn} {op:Int}:opOf ts = some op ↔ op ∈ binOps ∧ isTk (sgnN op) ts = true:=by
 refine ⟨opOf_some,fun ⟨hm,ht⟩ => ?_⟩
 cases ho:opOf ts with
 | none => exact absurd ht (by have:=List.find?_eq_none.1 ho op hm;simpa using this)
 | some a =>
  have:=opOf_some ho
  rw [sgn_inj this.1 hm (isTk_two this.2 ht)]
theorem binAt_some {L h:Int} {ts:List Tkn} {op:Int}:binAt L h ts = some op ↔ opOf ts = some op ∧ L ≤ lvlN op ∧ lvlN op < h:=by
 unfold binAt
 cases opOf ts with
 | none => simp
 | some a =>
  by_cases hc:L ≤ lvlN a ∧ lvlN a < h
  ·simp only [Option.filter,decide_eq_true hc,if_true,Option.some.injEq]
   exact ⟨fun e => ⟨e,e ▸ hc⟩,fun e => e.1⟩
  ·simp only [Option.filter,decide_eq_false hc,Option.some.injEq]
   refine ⟨fun e => by simp at e,fun e => absurd (e.1 ▸ e.2) hc⟩
theorem binAt_tail {L h:Int} {ts:List Tkn} {op:Int} (hb:binAt L h ts = some op):ts.tail.length + 1 = ts.length:=tail_len (opOf_some (binAt_some.1 hb).1).2
theorem then_ok {α β:Type} {a:PR α} {f:α → List Tkn → PR β} {y:β} {r:List Tkn} (h:a.then f = .ok y r):∃ x r',a = .ok x r' ∧ f x r' = .ok y r:=by
 cases a with
 | ok x r' => exact ⟨x,r',rfl,h⟩
 | bad r' => cases h
theorem wantT_ok {α:Type} {g:ByteArray} {x y:α} {ts r:List Tkn} (h:wantT g x ts = .ok y r):isTk g ts = true ∧ r = ts.tail ∧ y = x:=by
 unfold wantT at h
 split at h
 ·rename_i hc;cases h;exact ⟨hc,rfl,rfl⟩
 ·cases h
theorem leafP_ok {ts r:List Tkn} {x:Exp} (h:leafP ts = .ok x r):r.length < ts.length:=by
 unfold leafP at h
 cases ts with
 | nil => cases h
 | cons t r' =>
  simp only at h
  split at h
  ·cases h;exact Nat.lt_succ_self _
  ·split at h
   ·cases h;exact Nat.lt_succ_self _
   ·cases h
theorem p_shrink:∀ n,(∀ ts x r,pOne n ts = .ok x r → r.length < ts.length) ∧ (∀ L ts x r,pForm n L ts = .ok x r → r.length < ts.length) ∧
  (∀ L h x ts y r,pClimb n L h x ts = .ok y r → r.length ≤ ts.length) ∧ ∀ k g acc ts l r,pArgs n k g acc ts = .ok l r → r.length < ts.length
 | 0 => by
  refine ⟨fun ts x r h => ?_,fun L ts x r h => ?_,fun L h x ts y r h' => ?_,fun k g acc ts l r h => ?_⟩
  ·rw [pOne] at h;cases h
  ·rw [pForm] at h;cases h
  ·rw [pClimb] at h';cases h'
  ·rw [pArgs] at h;cases h
 | n + 1 => by
  obtain ⟨i1,i2,i3,i4⟩:=p_shrink n
  refine ⟨fun ts x r h => ?_,fun L ts x r h => ?_,fun L h x ts y r h' => ?_,fun k g acc ts l r h => ?_⟩
  ·rw [pOne] at h
   split at h
   ·rename_i hc
    have:=tail_len hc
    obtain ⟨y,r',e,e'⟩:=then_ok h
    cases e'
    have:=i1 _ _ _ e
    omega
   split at h
   ·rename_i hc
    have:=tail_len hc
    obtain ⟨y,r',e,e'⟩:=then_ok h
    cases e'
    have:=i1 _ _ _ e
    omega
   split at h
   ·rename_i hc
    have:=tail_len hc
    obtain ⟨y,r',e,e'⟩:=then_ok h
    obtain ⟨h1,rfl,rfl⟩:=wantT_ok e'
    have:=tail_len h1
    have:=i2 _ _ _ _ e
    omega
   split at h
   ·rename_i hc
    have:=tail_len hc
    cases h
    omega
   split at h
   ·rename_i hc
    have:=tail_len hc
    cases h
    omega
   split at h
   ·rename_i hc
    have:=tail_len hc
    obtain ⟨y,r',e,e'⟩:=then_ok h
    cases e'
    have:=i4 _ _ _ _ _ _ e
    omega
   split at h
   ·rename_i hc
    have:=tail_len hc
    obtain ⟨y,r',e,e'⟩:=then_ok h
    cases e'
    have:=i4 _ _ _ _ _ _ e
    omega
   ·exact leafP_ok h
  ·rw [pForm] at h
   obtain ⟨y,r',e,e'⟩:=then_ok h
   have:=i1 _ _ _ e
   have:=i3 _ _ _ _ _ _ e'
   omega
  ·rw [pClimb] at h'
   cases hb:binAt L h ts with
   | none => rw [hb] at h';cases h';exact Nat.le_refl _
   | some op =>
    rw [hb] at h'
    have:=binAt_tail hb
    obtain ⟨z,r',e,e'⟩:=then_ok h'
    have:=i2 _ _ _ _ e
    have:=i3 _ _ _ _ _ _ e'
    omega
  ·cases k with
   | zero =>
    rw [pArgs] at h
    obtain ⟨h1,rfl,rfl⟩:=wantT_ok h
    have:=tail_len h1
    omega
   | succ k =>
    rw [pArgs] at h
    obtain ⟨y,r',e,e'⟩:=then_ok h
    obtain ⟨h1,rfl,rfl⟩:=wantT_ok e
    obtain ⟨z,r2,e2,e3⟩:=then_ok e'
    have:=tail_len h1
    have:=i2 _ _ _ _ e2
    have:=i4 _ _ _ _ _ _ e3
    omega
theorem then_congr {α β:Type} {a b:PR α} {f g:α → List Tkn → PR β} (h:a = b) (hf:∀ x r,a = .ok x r → f x r = g x r):a.then f = b.then g:=by
 subst h
 cases a with
 | ok x r => exact hf x r rfl
 | bad r => rfl
theorem p_fuel:∀ n m,(∀ ts,2 * ts.length + 1 ≤ n → 2 * ts.length + 1 ≤ m → pOne n ts = pOne m ts) ∧ (∀ L ts,2 * ts.length + 2 ≤ n → 2 * ts.length + 2 ≤ m → pForm n L ts = pForm m L ts) ∧
  (∀ L h x ts,2 * ts.length + 1 ≤ n → 2 * ts.length + 1 ≤ m → pClimb n L h x ts = pClimb m L h x ts) ∧ ∀ k g acc ts,2 * ts.length + 1 ≤ n → 2 * ts.length + 1 ≤ m → pArgs n k g acc ts = pArgs m k g acc ts
 | 0,m => ⟨fun _ h => by omega,fun _ _ h => by omega,fun _ _ _ _ h => by omega,fun _ _ _ _ h => by omega⟩
 | n + 1,0 => ⟨fun _ _ h => by omega,fun _ _ _ h => by omega,fun _ _ _ _ _ h => by omega,fun _ _ _ _ _ h => by omega⟩
 | n + 1,m + 1 => by
  obtain ⟨i1,i2,i3,i4⟩:=p_fuel n m
  obtain ⟨s1,s2,s3,s4⟩:=p_shrink n
  refine ⟨fun ts h1 h2 => ?_,fun L ts h1 h2 => ?_,fun L h x ts h1 h2 => ?_,fun k g acc ts h1 h2 => ?_⟩
  ·rw [pOne,pOne]
   split
   ·rename_i hc
    have:=tail_len hc
    exact then_congr (i1 _ (by omega) (by omega)) fun _ _ _ => rfl
   split
   ·rename_i hc
    have:=tail_len hc
    exact then_congr (i1 _ (by omega) (by omega)) fun _ _ _ => rfl
   split
   ·rename_i hc
    have:=tail_len hc
    exact then_congr (i2 _ _ (by omega) (by omega)) fun _ _ _ => rfl
   split
   ·rfl
   split
   ·rfl
   split
   ·rename_i hc
    have:=tail_len hc
    exact then_congr (i4 _ _ _ _ (by omega) (by omega)) fun _ _ _ => rfl
   split
   ·rename_i hc
    have:=tail_len hc
    exact then_congr (i4 _ _ _ _ (by omega) (by omega)) fun _ _ _ => rfl
   ·rfl
  ·rw [pForm,pForm]
   refine then_congr (i1 _ (by omega) (by omega)) fun x r e => ?_
   have:=s1 _ _ _ e
   exact i3 _ _ _ _ (by omega) (by omega)
  ·rw [pClimb,pClimb]
   cases hb:binAt L h ts with
   | none => rfl
   | some op =>
    have:=binAt_tail hb
    refine then_congr (i2 _ _ (by omega) (by omega)) fun y r e => ?_
    have:=s2 _ _ _ _ e
    exact i3 _ _ _ _ (by omega) (by omega)
  ·cases k with
   | zero => rw [pArgs,pArgs]
   | succ k =>
    rw [pArgs,pArgs]
    refine then_congr rfl fun y r e => ?_
    obtain ⟨hc,rfl,_⟩:=wantT_ok e
    have:=tail_len hc
    refine then_congr (i2 _ _ (by omega) (by omega)) fun y r e => ?_
    have:=s2 _ _ _ _ e
    exact i4 _ _ _ _ (by omega) (by omega)
def rdOne (ts:List Tkn):PR Exp:=pOne (2 * ts.length + 1) ts
def rdForm (L:Int) (ts:List Tkn):PR Exp:=pForm (2 * ts.length + 2) L ts
def rdClimb (L h:Int) (x:Exp) (ts:List Tkn):PR Exp:=pClimb (2 * ts.length + 1) L h x ts
def rdArgs (k:Nat) (g:ByteArray) (acc:List Exp) (ts:List Tkn):PR (List Exp):=pArgs (2 * ts.length + 1) k g acc ts
theorem rdOne_eq {n:Nat} {ts:List Tkn} (h:2 * ts.length + 1 ≤ n):pOne n ts = rdOne ts:=(p_fuel n _).1 ts h (Nat.le_refl _)
theorem rdForm_eq' {n:Nat} {L:Int} {ts:List Tkn} (h:2 * ts.length + 2 ≤ n):pForm n L ts = rdForm L ts:=(p_fuel n _).2.1 L ts h (Nat.le_refl _)
theorem rdClimb_eq' {n:Nat} {L h:Int} {x:Exp} {ts:List Tkn} (hn:2 * ts.length + 1 ≤ n):pClimb n L h x ts = rdClimb L h x ts:=(p_fuel n _).2.2.1 L h x ts hn (Nat.le_refl _)
theorem rdArgs_eq' {n k:Nat} {g:ByteArray} {acc:List Exp} {ts:List Tkn} (hn:2 * ts.length + 1 ≤ n):pArgs n k g acc ts = rdArgs k g acc ts:=(p_fuel n _).2.2.2 k g acc ts hn (Nat.le_refl _)
theorem rdOne_shr {ts r:List Tkn} {x:Exp} (h:rdOne ts = .ok x r):r.length < ts.length:=(p_shrink _).1 _ _ _ h
theorem rdForm_shr {L:Int} {ts r:List Tkn} {x:Exp} (h:rdForm L ts = .ok x r):r.length < ts.length:=(p_shrink _).2.1 _ _ _ _ h
theorem rdClimb_shr {L h:Int} {ts r:List Tkn} {x y:Exp} (hh:rdClimb L h x ts = .ok y r):r.length ≤ ts.length:=(p_shrink _).2.2.1 _ _ _ _ _ _ hh
theorem rdForm_def (L:Int) (ts:List Tkn):rdForm L ts = (rdOne ts).then fun x r => rdClimb L 6 x r:=by
 rw [rdForm,pForm]
 refine then_congr (rdOne_eq (Nat.le_refl _)) fun x r e => ?_
 rw [rdOne_eq (Nat.le_refl _)] at e
 have:=rdOne_shr e
 exact rdClimb_eq' (by omega)
theorem rdClimb_none {L h:Int} {x:Exp} {ts:List Tkn} (hb:binAt L h ts = none):rdClimb L h x ts = .ok x ts:=by rw [rdClimb,pClimb,hb]
theorem rdClimb_some {L h:Int} {x:Exp} {ts:List Tkn} {op:Int} (hb:binAt L h ts = some op) :
  rdClimb L h x ts = (rdForm (lvlN op + 1) ts.tail).then fun y r => rdClimb L (nextH op) (binX op x y) r:=by
 rw [rdClimb,pClimb,hb]
 have:=binAt_tail hb
 refine then_congr (rdForm_eq' (by omega)) fun y r e => ?_
 rw [rdForm_eq' (by omega)] at e
 have:=rdForm_shr e
 exact rdClimb_eq' (by omega)
theorem rdArgs_zero (g:ByteArray) (acc:List Exp) (ts:List Tkn):rdArgs 0 g acc ts = wantT tClose acc ts:=by rw [rdArgs,pArgs]
theorem rdArgs_next {k:Nat} {g:ByteArray} {acc:List Exp} {ts:List Tkn} (h:isTk g ts = true):rdArgs (k + 1) g acc ts = (rdForm 1 ts.tail).then fun x r => rdArgs k tComma (acc ++ [x]) r:=by
 have:=tail_len h
 rw [rdArgs,pArgs,wantT,if_pos h]
 show (pForm _ 1 ts.tail).then _ = _
 refine then_congr (rdForm_eq' (by omega)) fun y r e => ?_
 rw [rdForm_eq' (by omega)] at e
 have:=rdForm_shr e
 exact rdArgs_eq' (by omega)
theorem rdArgs_bad {k:Nat} {g:ByteArray} {acc:List Exp} {ts:List Tkn} (h:isTk g ts = false):rdArgs (k + 1) g acc ts = .bad ts:=by
 rw [rdArgs,pArgs,wantT,if_neg (by rw [h];decide)]
 rfl
theorem rdOne_neg {ts:List Tkn} (h:isTk (sgnN 3) ts = true):rdOne ts = (rdOne ts.tail).then fun x r => .ok (unX 3 x) r:=by
 have:=tail_len h
 rw [rdOne,pOne,if_pos h]
 exact then_congr (rdOne_eq (by omega)) fun _ _ _ => rfl
theorem tk_not {g g':ByteArray} {ts:List Tkn} (h:isTk g ts = true) (hn:g' ≠ g):¬ isTk g' ts = true:=fun h' => hn (isTk_two h' h)
theorem rdOne_not {ts:List Tkn} (h:isTk (sgnN 4) ts = true):rdOne ts = (rdOne ts.tail).then fun x r => .ok (unX 4 x) r:=by
 have:=tail_len h
 rw [rdOne,pOne,if_neg (tk_not h (by decide)),if_pos h]
 exact then_congr (rdOne_eq (by omega)) fun _ _ _ => rfl
theorem rdOne_open {ts:List Tkn} (h:isTk tOpen ts = true):rdOne ts = (rdForm 1 ts.tail).then fun x r => wantT tClose x r:=by
 have:=tail_len h
 rw [rdOne,pOne,if_neg (tk_not h (by decide)),if_neg (tk_not h (by decide)),if_pos h]
 exact then_congr (rdForm_eq' (by omega)) fun _ _ _ => rfl
theorem rdOne_true {ts:List Tkn} (h:isTk tTrue ts = true):rdOne ts = .ok (cstX ⟨2,1,⟨#[]⟩⟩) ts.tail:=by
 rw [rdOne,pOne,if_neg (tk_not h (by decide)),if_neg (tk_not h (by decide)),if_neg (tk_not h (by decide)),if_pos h]
theorem rdOne_false {ts:List Tkn} (h:isTk tFalse ts = true):rdOne ts = .ok (cstX ⟨2,0,⟨#[]⟩⟩) ts.tail:=by
 rw [rdOne,pOne,if_neg (tk_not h (by decide)),if_neg (tk_not h (by decide)),if_neg (tk_not h (by decide)),if_neg (tk_not h (by decide)),if_pos h]
theorem rdOne_if {ts:List Tkn} (h:isTk (sgnN 17) ts = true):rdOne ts = (rdArgs 3 tOpen [] ts.tail).then fun l r => .ok (callX 17 l) r:=by
 have:=tail_len h
 rw [rdOne,pOne,if_neg (tk_not h (by decide)),if_neg (tk_not h (by decide)),if_neg (tk_not h (by decide)),if_neg (tk_not h (by decide)),if_neg (tk_not h (by decide)),if_pos h]
 exact then_congr (rdArgs_eq' (by omega)) fun _ _ _ => rfl
theorem rdOne_len {ts:List Tkn} (h:isTk (sgnN 18) ts = true):rdOne ts = (rdArgs 1 tOpen [] ts.tail).then fun l r => .ok (callX 18 l) r:=by
 have:=tail_len h
 rw [rdOne,pOne,if_neg (tk_not h (by decide)),if_neg (tk_not h (by decide)),if_neg (tk_not h (by decide)),if_neg (tk_not h (by decide)),if_neg (tk_not h (by decide)),if_neg (tk_not h (by decide)),if_pos h]
 exact then_congr (rdArgs_eq' (by omega)) fun _ _ _ => rfl
theorem rdOne_leaf {ts:List Tkn} (h3:isTk (sgnN 3) ts = false) (h4:isTk (sgnN 4) ts = false) (ho:isTk tOpen ts = false) (ht:isTk tTrue ts = false) (hf:isTk tFalse ts = false) (hi:isTk (sgnN 17) ts = false) (hl:isTk (sgnN 18) ts = false) :
  rdOne ts = leafP ts:=by
 rw [rdOne,pOne,if_neg (by rw [h3];decide),if_neg (by rw [h4];decide),if_neg (by rw [ho];decide),if_neg (by rw [ht];decide),if_neg (by rw [hf];decide),if_neg (by rw [hi];decide),if_neg (by rw [hl];decide)]
theorem nextH_ge (op:Int):lvlN op ≤ nextH op:=by
 unfold nextH
 split <;> omega
theorem lvl_range {op:Int} (h:op ∈ binOps):1 ≤ lvlN op ∧ lvlN op ≤ 5:=by
 simp only [binOps,List.mem_cons,List.not_mem_nil,or_false] at h
 rcases h with rfl | rfl | rfl | rfl | rfl | rfl | rfl | rfl | rfl | rfl | rfl | rfl <;> decide
theorem then_then {α β γ:Type} (a:PR α) (f:α → List Tkn → PR β) (g:β → List Tkn → PR γ):(a.then f).then g = a.then fun x r => (f x r).then g:=by
 cases a <;> rfl
theorem climb_split (N:Nat):∀ (ts:List Tkn) (L h:Int) (x:Exp),ts.length ≤ N → L + 1 ≤ h → rdClimb L h x ts = (rdClimb (L + 1) h x ts).then fun y r => rdClimb L (L + 1) y r:=by
 induction N with
 | zero =>
  intro ts L h x hN _
  have:ts = []:=List.eq_nil_of_length_eq_zero (by omega)
  subst this
  rw [rdClimb_none (L:=L + 1) (by rfl)]
  show rdClimb L h x [] = rdClimb L (L + 1) x []
  rw [rdClimb_none (by rfl),rdClimb_none (by rfl)]
 | succ N ih =>
  intro ts L h x hN hh
  cases hb:binAt (L + 1) h ts with
  | some op =>
   have h1:=binAt_some.1 hb
   have h2:binAt L h ts = some op:=binAt_some.2 ⟨h1.1,by omega,h1.2.2⟩
   have:=binAt_tail hb
   rw [rdClimb_some hb,rdClimb_some h2,then_then]
   refine then_congr rfl fun y r e => ?_
   have:=rdForm_shr e
   have:=nextH_ge op
   exact ih r L (nextH op) _ (by omega) (by omega)
  | none =>
   rw [rdClimb_none hb]
   show rdClimb L h x ts = rdClimb L (L + 1) x ts
   cases h3:binAt L (L + 1) ts with
   | some op =>
    have h4:=binAt_some.1 h3
    rw [rdClimb_some h3,rdClimb_some (binAt_some.2 ⟨h4.1,h4.2.1,by omega⟩)]
   | none =>
    rw [rdClimb_none h3,rdClimb_none]
    cases h5:binAt L h ts with
    | none => rfl
    | some op =>
     have h6:=binAt_some.1 h5
     by_cases hl:lvlN op < L + 1
     ·rw [binAt_some.2 ⟨h6.1,h6.2.1,hl⟩] at h3;cases h3
     ·rw [binAt_some.2 ⟨h6.1,by omega,h6.2.2⟩] at hb;cases hb
theorem rdForm_step {L:Int} (ts:List Tkn) (hL:L ≤ 5):rdForm L ts = (rdForm (L + 1) ts).then fun y r => rdClimb L (L + 1) y r:=by
 rw [rdForm_def,rdForm_def,then_then]
 exact then_congr rfl fun x r _ => climb_split _ r L 6 x (Nat.le_refl _) (by omega)
theorem rdForm_six (ts:List Tkn):rdForm 6 ts = rdOne ts:=by
 rw [rdForm_def]
 cases rdOne ts with
 | bad r => rfl
 | ok x r =>
  refine rdClimb_none ?_
  cases hb:binAt 6 6 r with
  | none => rfl
  | some op =>
   have:=(binAt_some.1 hb).2
   omega
end Go.Proofs.YtldbpmlgbbomcaaGreatDoor
