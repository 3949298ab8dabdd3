/- Texts merged: AllP DelP. -/
import Derived.Test.YtbhkpepinogigaaGreatOne
import Derived.Test.YtbhkpepinogigaaGreatOrc
import Derived.Test.YtbhkpepinogigaaGreatOrdF
import Derived.Test.YtbhkpepinogigaaGreatNavP
/- All values of a form: by the order of the ranks, and round by round. Plain laws. -/
namespace Go.Proofs.YtbhkpepinogigaaGreat
open Go.RowKit

def namedF (F:List Fld) (vs:List Val):List Fct:=List.zipWith (fun f v => ⟨f.name,noVal,v⟩) F vs
theorem namedF_at {F:List Fld} {vs:List Val} {i:Nat} {f:Fld} {v:Val} (hf:(F)[i]? = some f) (hv:vs[i]? = some v):(namedF F vs)[i]? = some ⟨f.name,noVal,v⟩:=by
 unfold namedF;rw [List.getElem?_zipWith,hf,hv]
theorem namedF_len {F:List Fld} {vs:List Val} (h:vs.length = F.length):(namedF F vs).length = F.length:=by unfold namedF;rw [List.length_zipWith,h,Nat.min_self]
theorem namedF_mem {F:List Fld} {vs:List Val} {x:Fct} (h:x ∈ namedF F vs):∃ (i:Nat) (f:Fld) (v:Val),(F)[i]? = some f ∧ vs[i]? = some v ∧ x = ⟨f.name,noVal,v⟩:=by
 obtain ⟨i,hi,rfl⟩:=List.mem_iff_getElem.1 h
 have hi':=hi
 unfold namedF at hi'
 rw [List.length_zipWith] at hi'
 have hf:(F)[i]? = some (F)[i]:=List.getElem?_eq_getElem (by omega)
 have hv:vs[i]? = some vs[i]:=List.getElem?_eq_getElem (by omega)
 refine ⟨i,_,_,hf,hv,?_⟩
 have:=namedF_at hf hv
 rw [List.getElem?_eq_getElem hi] at this
 exact Option.some.inj this
mutual
theorem evX_congr {l l':List Fct}:∀ x:Exp,(∀ s ∈ askN x,factV l s = factV l' s) → evX l x = evX l' x
 | .mk op v nm args => by
  intro h
  rw [evX,evX]
  by_cases h1:op = 1
  ·rw [if_pos h1,if_pos h1]
  rw [if_neg h1,if_neg h1]
  by_cases h2:op = 2
  ·rw [if_pos h2,if_pos h2,h nm (by rw [askN_eq];simp [Exp.op,Exp.name,h2])]
  rw [if_neg h2,if_neg h2,evL_congr args fun s hs => h s (by rw [askN_eq];exact List.mem_append.2 (.inr hs))]
theorem evL_congr {l l':List Fct}:∀ xs:List Exp,(∀ s ∈ askNL xs,factV l s = factV l' s) → evL l xs = evL l' xs
 | [] => by intro _;rw [evL,evL]
 | a :: r => by
  intro h
  rw [evL,evL,evX_congr a fun s hs => h s (by rw [askNL];exact List.mem_append.2 (.inl hs)),evL_congr r fun s hs => h s (by rw [askNL];exact List.mem_append.2 (.inr hs))]
end
theorem factsErr_zero {l:List Fct} (h:∀ x ∈ l,valCheck x.has = 0):factsErr l = 0:=by
 unfold factsErr
 refine firstErr_zero _ fun k hk => ?_
 rw [hasErr_at (List.getElem?_eq_getElem hk)]
 exact h _ (List.getElem_mem hk)
def FldOk (f:Fld):Prop:=(1 ≤ f.kind ∧ f.kind ≤ 3) ∧ (1 ≤ f.type ∧ f.type ≤ 3) ∧ (f.kind ≠ 1 → exprErr f.source = 0)
def HasOk (l:List Fct):Prop:=∀ x ∈ l,valCheck x.has = 0
theorem valCheck_type {t:Int} (h:1 ≤ t ∧ t ≤ 3):valCheck ⟨t,0,⟨#[]⟩⟩ = 0:=by
 rcases (by omega:t = 1 ∨ t = 2 ∨ t = 3) with rfl | rfl | rfl <;> decide +kernel
theorem pendV_ok:valCheck pendV = 0:=by decide +kernel
theorem oneV_ok {f:Fld} {ins orc kn:List Fct} (hf:FldOk f) (h1:HasOk ins) (h2:HasOk orc) (h3:factsErr kn = 0):valCheck (oneV f ins orc kn) = 0:=by
 unfold oneV
 by_cases hk:f.kind = 1
 ·rw [if_pos hk]
  unfold inV
  cases hq:factV ins f.name with
  | none => rw [Option.getD_none,Int.zero_add];exact valCheck_type hf.2.1
  | some v => exact factV_ok (l:=ins) h1 hq
 rw [if_neg hk]
 have hev:valCheck (evalRes kn f.source).1 = 0:=by
  rw [evalRes_ok (hf.2.2 hk) h3]
  exact evX_ok (factsErr_ok h3) _ _ (Nat.le_refl _) (prt_of_exprErr (hf.2.2 hk))
 by_cases hl:f.kind = 3
 ·rw [if_pos hl]
  unfold askV
  cases valKnown (evalRes kn f.source).1
  ·exact hev
  ·rw [cond_true]
   unfold askL
   cases hq:orc.find? (askHit f.name (evalRes kn f.source).1) with
   | none => exact pendV_ok
   | some x => exact h2 x (List.mem_of_find?_eq_some hq)
 ·rw [if_neg hl];exact hev
def rnd (F:List Fld) (ins orc:List Fct) (vs:List Val):List Val:=F.map fun f => oneV f ins orc (namedF F vs)
def rnds (F:List Fld) (ins orc:List Fct):Nat → List Val
 | 0 => List.replicate F.length pendV
 | k + 1 => rnd F ins orc (rnds F ins orc k)
section
variable {F:List Fld} {ins orc:List Fct}
def AllOk (F:List Fld) (ins orc:List Fct):Prop:=(rankR F).2.2 = 0 ∧ (∀ f ∈ F,FldOk f) ∧ HasOk ins ∧ HasOk orc
theorem named_facts {vs:List Val} (h:∀ v ∈ vs,valCheck v = 0):factsErr (namedF F vs) = 0:=by
 refine factsErr_zero fun x hx => ?_
 obtain ⟨i,f,v,_,hv,rfl⟩:=namedF_mem hx
 exact h v (List.mem_of_getElem? hv)
def finV (F:List Fld) (ins orc:List Fct):List Val:=rnds F ins orc F.length
def knownTo (F:List Fld) (vs:List Val) (ord:List Nat) (j:Nat):List Fct:=(ord.take j).map fun i => ⟨nameAt F i,noVal,vs[i]?.getD noVal⟩
theorem ordF_lt {k:Nat} (h:k ∈ ordF F):k < F.length:=(ordK_mem _ _ _).1 h
def outTo (F:List Fld) (vs:List Val) (ord:List Nat):Nat → List Val
 | 0 => List.replicate F.length noVal
 | j + 1 => match ord[j]? with | some i => (outTo F vs ord j).set i (vs[i]?.getD noVal) | none => outTo F vs ord j
end
end Go.Proofs.YtbhkpepinogigaaGreat
/- What a change makes of the values of a form. Plain laws. -/
namespace Go.Proofs.YtbhkpepinogigaaGreat
open Go.RowKit

def toldErr (F:List Fld) (P:List Pag) (ins orc:List Fct):Int:=if formErr F P ≠ 0 then formErr F P else if factsCheck F ins ≠ 0 then factsCheck F ins else oracleErr F orc
structure Dst where (out:List Val) (seen chg:List ByteArray)
def dLooks (nm:ByteArray) (chg:List ByteArray) (x:Fld):Bool:=x.name.toList == nm.toList || (srcN x).any (fun s => chg.any (isStr s))
def dNew (F:List Fld) (ins orc:List Fct) (d:Dst) (x:Fld):Val:=oneV x ins orc (namedF F d.out)
def dStep (F:List Fld) (ins orc:List Fct) (old:List Val) (nm:ByteArray) (d:Dst) (i:Nat):Dst:=match (F)[i]? with
 | none => d
 | some x => if dLooks nm d.chg x then ⟨d.out.set i (dNew F ins orc d x),d.seen ++ [x.name],if valEq (dNew F ins orc d x) (old[i]?.getD noVal) then d.chg else d.chg ++ [x.name]⟩ else d
def dTo (F:List Fld) (ins orc:List Fct) (old:List Val) (nm:ByteArray) (ord:List Nat):Nat → Dst
 | 0 => ⟨old,[],[]⟩
 | j + 1 => match ord[j]? with | some i => dStep F ins orc old nm (dTo F ins orc old nm ord j) i | none => dTo F ins orc old nm ord j
section
variable {F:List Fld} {ins orc:List Fct} {old:List Val} {nm:ByteArray} {ord:List Nat}
theorem dTo_step {j i:Nat} {x:Fld} (h:ord[j]? = some i) (hx:(F)[i]? = some x):dTo F ins orc old nm ord (j + 1) = (if dLooks nm (dTo F ins orc old nm ord j).chg x then ⟨(dTo F ins orc old nm ord j).out.set i (dNew F ins orc (dTo F ins orc old nm ord j) x),(dTo F ins orc old nm ord j).seen ++ [x.name],if valEq (dNew F ins orc (dTo F ins orc old nm ord j) x) (old[i]?.getD noVal) then (dTo F ins orc old nm ord j).chg else (dTo F ins orc old nm ord j).chg ++ [x.name]⟩ else dTo F ins orc old nm ord j):=by
 rw [dTo,h]
 show dStep F ins orc old nm (dTo F ins orc old nm ord j) i = _
 unfold dStep
 rw [hx]
theorem dTo_len (hl:old.length = F.length):∀ j,(dTo F ins orc old nm ord j).out.length = F.length
 | 0 => hl
 | j + 1 => by
  have ih:=dTo_len hl j
  rw [dTo]
  split
  ·unfold dStep
   split
   ·exact ih
   ·split
    ·rw [List.length_set];exact ih
    ·exact ih
  ·exact ih
theorem dTo_seen:∀ j,(dTo F ins orc old nm ord j).seen.length ≤ j ∧ (dTo F ins orc old nm ord j).chg.length ≤ j
 | 0 => ⟨Nat.le_refl _,Nat.le_refl _⟩
 | j + 1 => by
  have ih:=dTo_seen j
  rw [dTo]
  split
  ·unfold dStep
   split
   ·omega
   ·split
    ·constructor
     ·rw [List.length_append,List.length_singleton];omega
     ·show (if _ then _ else _:List ByteArray).length ≤ _
      split
      ·omega
      ·rw [List.length_append,List.length_singleton];omega
    ·omega
  ·omega
theorem dTo_in {p:ByteArray → Prop} (hp:∀ f ∈ F,p f.name):∀ j,(∀ s ∈ (dTo F ins orc old nm ord j).seen,p s) ∧ (∀ s ∈ (dTo F ins orc old nm ord j).chg,p s)
 | 0 => ⟨fun s h => absurd h List.not_mem_nil,fun s h => absurd h List.not_mem_nil⟩
 | j + 1 => by
  have ih:=dTo_in hp j
  rw [dTo]
  split
  ·unfold dStep
   split
   ·exact ih
   ·rename_i x hx
    have hpx:=hp x (List.mem_of_getElem? hx)
    split
    ·constructor
     ·intro s hs
      rcases List.mem_append.1 hs with hs | hs
      ·exact ih.1 s hs
      ·rw [List.mem_singleton.1 hs];exact hpx
     ·intro s hs
      change s ∈ (if _ then _ else _:List ByteArray) at hs
      split at hs
      ·exact ih.2 s hs
      ·rcases List.mem_append.1 hs with hs | hs
       ·exact ih.2 s hs
       ·rw [List.mem_singleton.1 hs];exact hpx
    ·exact ih
  ·exact ih
theorem dTo_ok (h:AllOk F ins orc) (ho:∀ v ∈ old,valCheck v = 0):∀ j,∀ v ∈ (dTo F ins orc old nm ord j).out,valCheck v = 0
 | 0 => ho
 | j + 1 => by
  have ih:=dTo_ok h ho j
  rw [dTo]
  split
  ·unfold dStep
   split
   ·exact ih
   ·rename_i x hx
    split
    ·intro v hv
     rcases List.mem_or_eq_of_mem_set hv with hv | rfl
     ·exact ih v hv
     ·exact oneV_ok (h.2.1 x (List.mem_of_getElem? hx)) h.2.2.1 h.2.2.2 (named_facts ih)
    ·exact ih
  ·exact ih
end
def deltaR (F:List Fld) (P:List Pag) (ins orc:List Fct) (old:List Val) (nm:ByteArray):List Val × List ByteArray × Int :=
 if toldErr F P ins orc ≠ 0 then ([],[],toldErr F P ins orc) else if F.any (hasName nm) = false then ([],[],5) else if old.length ≠ F.length then ([],[],1) else if valsErr old ≠ 0 then ([],[],valsErr old)
 else ((dTo F ins orc old nm (ordF F) F.length).out,(dTo F ins orc old nm (ordF F) F.length).seen,0)
theorem factsCheck_ok {F:List Fld} {l:List Fct} (h:factsCheck F l = 0):HasOk l:=by
 intro x hx
 obtain ⟨i,hi,rfl⟩:=List.mem_iff_getElem.1 hx
 have h1:=firstErr_all h i hi
 have h2:fieldTold F l[i].name l[i].has = 0:=by
  apply Classical.byContradiction
  intro hne
  unfold factStep at h1
  rw [List.getElem?_eq_getElem hi] at h1
  change (if fieldTold F l[i].name l[i].has = 0 then _ else fieldTold F l[i].name l[i].has) = 0 at h1
  rw [if_neg hne] at h1
  exact hne h1
 unfold fieldTold at h2
 split at h2
 ·cases h2
 ·split at h2
  ·split at h2
   ·rename_i hk;exact ((valKnown_iff' _).1 hk.1).1
   ·cases h2
  ·cases h2
theorem oracleErr_ok {F:List Fld} {l:List Fct} (h:oracleErr F l = 0):HasOk l:=by
 intro x hx
 obtain ⟨i,hi,rfl⟩:=List.mem_iff_getElem.1 hx
 have h1:=firstErr_all h i hi
 have hl:l[i]? = some l[i]:=List.getElem?_eq_getElem hi
 cases hf:(F)[firstAt (hasName l[i].name) F]? with
 | none => rw [or_none hl hf] at h1;cases h1
 | some y =>
  rw [or_some hl hf] at h1
  split at h1
  ·split at h1
   ·rename_i hg
    unfold good at hg
    simp only [Bool.and_eq_true,beq_iff_eq] at hg
    exact hg.2.2.1
   ·cases h1
  ·cases h1
theorem fieldErr_ok {f:Fld} (h:fieldErr f = 0):FldOk f:=by
 rcases fieldErr_cases f with h' | h' | h' | h' | h' | h' | h' | h'
 ·obtain ⟨h1,h2⟩:=h'
  rw [h] at h2;rw [← h2] at h1;cases h1
 ·obtain ⟨_,_,h2⟩:=h';rw [h] at h2;cases h2
 ·obtain ⟨_,_,_,h2⟩:=h';rw [h] at h2;cases h2
 ·obtain ⟨_,_,_,_,h2⟩:=h';rw [h] at h2;cases h2
 ·obtain ⟨_,_,_,_,_,h2⟩:=h';rw [h] at h2;cases h2
 ·obtain ⟨_,h1,h2,h3,h4,h5,_,_⟩:=h'
  exact ⟨⟨by omega,by omega⟩,⟨by omega,by omega⟩,fun hk => absurd (by simpa using h5.1) hk⟩
 ·obtain ⟨_,_,_,_,_,_,_,h2⟩:=h';rw [h] at h2;cases h2
 ·obtain ⟨_,h1,h2,h3,h4,_,_,h5⟩:=h'
  exact ⟨⟨by omega,by omega⟩,⟨by omega,by omega⟩,fun _ => by rw [← h5];exact h⟩
theorem formErr_rank {F:List Fld} {P:List Pag} (h:formErr F P = 0):(rankR F).2.2 = 0:=by
 unfold formErr at h
 by_cases he:(rankR F).2.2 = 0
 ·exact he
 ·rw [if_pos he] at h;exact absurd h he
theorem fields_ok {F:List Fld} (h:fieldsErr F = 0):∀ f ∈ F,FldOk f:=by
 intro f hf
 obtain ⟨i,hi,rfl⟩:=List.mem_iff_getElem.1 hf
 exact fieldErr_ok ((fieldsErr_all h).2 i _ (List.getElem?_eq_getElem hi)).1
theorem toldErr_zero {F:List Fld} {P:List Pag} {ins orc:List Fct} (h:toldErr F P ins orc = 0):formErr F P = 0 ∧ factsCheck F ins = 0 ∧ oracleErr F orc = 0:=by
 unfold toldErr at h
 by_cases h1:formErr F P = 0
 ·rw [if_neg (by simpa using h1)] at h
  by_cases h2:factsCheck F ins = 0
  ·rw [if_neg (by simpa using h2)] at h;exact ⟨h1,h2,h⟩
  ·rw [if_pos h2] at h;exact absurd h h2
 ·rw [if_pos h1] at h;exact absurd h h1
theorem toldErr_ok {F:List Fld} {P:List Pag} {ins orc:List Fct} (h:toldErr F P ins orc = 0):AllOk F ins orc:=by
 obtain ⟨h1,h2,h3⟩:=toldErr_zero h
 have hr:=formErr_rank h1
 exact ⟨hr,fields_ok (rankR_zero hr).1,factsCheck_ok h2,oracleErr_ok h3⟩
end Go.Proofs.YtbhkpepinogigaaGreat
