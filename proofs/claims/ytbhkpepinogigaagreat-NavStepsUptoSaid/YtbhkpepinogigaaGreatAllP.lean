/- Texts merged: AllP DelP. -/
import Derived.Test.YtbhkpepinogigaaGreatOne
import Derived.Test.YtbhkpepinogigaaGreatOrc
import Derived.Test.YtbhkpepinogigaaGreatOrdF
import Derived.Test.YtbhkpepinogigaaGreatNavP
/- All values of a form: by the order of the ranks, and round by round. Plain laws. -/
namespace Go.Proofs.YtbhkpepinogigaaGreat
open Go.RowKit

def namedF (F:List Fld) (vs:List Val):List Fct:=List.zipWith (fun f v => ⟨f.name,noVal,v⟩) F vs
theorem namedF_at {F:List Fld} {vs:List Val} {i:Nat} {f:Fld} {v:Val} (hf:(F)[i]? = some f) (hv:vs[i]? = some v):(namedF F vs)[i]? = some ⟨f.name,noVal,v⟩:=by
 unfold namedF;rw [List.getElem?_zipWith,hf,hv]
theorem namedF_len {F:List Fld} {vs:List Val} (h:vs.length = F.length):(namedF F vs).length = F.length:=by unfold namedF;rw [List.length_zipWith,h,Nat.min_self]
theorem namedF_mem {F:List Fld} {vs:List Val} {x:Fct} (h:x ∈ namedF F vs):∃ (i:Nat) (f:Fld) (v:Val),(F)[i]? = some f ∧ vs[i]? = some v ∧ x = ⟨f.name,noVal,v⟩:=by
 obtain ⟨i,hi,rfl⟩:=List.mem_iff_getElem.1 h
 have hi':=hi
 unfold namedF at hi'
 rw [List.length_zipWith] at hi'
 have hf:(F)[i]? = some (F)[i]:=List.getElem?_eq_getElem (by omega)
 have hv:vs[i]? = some vs[i]:=List.getElem?_eq_getElem (by omega)
 refine ⟨i,_,_,hf,hv,?_⟩
 have:=namedF_at hf hv
 rw [List.getElem?_eq_getElem hi] at this
 exact Option.some.inj this
mutual
theorem evX_congr {l l':List Fct}:∀ x:Exp,(∀ s ∈ askN x,factV l s = factV l' s) → evX l x = evX l' x
 | .mk op v nm args => by
  intro h
  rw [evX,evX]
  by_cases h1:op = 1
  ·rw [if_pos h1,if_pos h1]
  rw [if_neg h1,if_neg h1]
  by_cases h2:op = 2
  ·rw [if_pos h2,if_pos h2,h nm (by rw [askN_eq];simp [Exp.op,Exp.name,h2])]
  rw [if_neg h2,if_neg h2,evL_congr args fun s hs => h s (by rw [askN_eq];exact List.mem_append.2 (.inr hs))]
theorem evL_congr {l l':List Fct}:∀ xs:List Exp,(∀ s ∈ askNL xs,factV l s = factV l' s) → evL l xs = evL l' xs
 | [] => by intro _;rw [evL,evL]
 | a :: r => by
  intro h
  rw [evL,evL,evX_congr a fun s hs => h s (by rw [askNL];exact List.mem_append.2 (.inl hs)),evL_congr r fun s hs => h s (by rw [askNL];exact List.mem_append.2 (.inr hs))]
end
def FldOk (f:Fld):Prop:=(1 ≤ f.kind ∧ f.kind ≤ 3) ∧ (1 ≤ f.type ∧ f.type ≤ 3) ∧ (f.kind ≠ 1 → exprErr f.source = 0)
def HasOk (l:List Fct):Prop:=∀ x ∈ l,valCheck x.has = 0
def rnd (F:List Fld) (ins orc:List Fct) (vs:List Val):List Val:=F.map fun f => oneV f ins orc (namedF F vs)
def rnds (F:List Fld) (ins orc:List Fct):Nat → List Val
 | 0 => List.replicate F.length pendV
 | k + 1 => rnd F ins orc (rnds F ins orc k)
section
variable {F:List Fld} {ins orc:List Fct}
def AllOk (F:List Fld) (ins orc:List Fct):Prop:=(rankR F).2.2 = 0 ∧ (∀ f ∈ F,FldOk f) ∧ HasOk ins ∧ HasOk orc
def finV (F:List Fld) (ins orc:List Fct):List Val:=rnds F ins orc F.length
def knownTo (F:List Fld) (vs:List Val) (ord:List Nat) (j:Nat):List Fct:=(ord.take j).map fun i => ⟨nameAt F i,noVal,vs[i]?.getD noVal⟩
def outTo (F:List Fld) (vs:List Val) (ord:List Nat):Nat → List Val
 | 0 => List.replicate F.length noVal
 | j + 1 => match ord[j]? with | some i => (outTo F vs ord j).set i (vs[i]?.getD noVal) | none => outTo F vs ord j
end
end Go.Proofs.YtbhkpepinogigaaGreat
/- What a change makes of the values of a form. Plain laws. -/
namespace Go.Proofs.YtbhkpepinogigaaGreat
open Go.RowKit

def toldErr (F:List Fld) (P:List Pag) (ins orc:List Fct):Int:=if formErr F P ≠ 0 then formErr F P else if factsCheck F ins ≠ 0 then factsCheck F ins else oracleErr F orc
structure Dst where (out:List Val) (seen chg:List ByteArray)
def dLooks (nm:ByteArray) (chg:List ByteArray) (x:Fld):Bool:=x.name.toList == nm.toList || (srcN x).any (fun s => chg.any (isStr s))
def dNew (F:List Fld) (ins orc:List Fct) (d:Dst) (x:Fld):Val:=oneV x ins orc (namedF F d.out)
def dStep (F:List Fld) (ins orc:List Fct) (old:List Val) (nm:ByteArray) (d:Dst) (i:Nat):Dst:=match (F)[i]? with
 | none => d
 | some x => if dLooks nm d.chg x then ⟨d.out.set i (dNew F ins orc d x),d.seen ++ [x.name],if valEq (dNew F ins orc d x) (old[i]?.getD noVal) then d.chg else d.chg ++ [x.name]⟩ else d
def dTo (F:List Fld) (ins orc:List Fct) (old:List Val) (nm:ByteArray) (ord:List Nat):Nat → Dst
 | 0 => ⟨old,[],[]⟩
 | j + 1 => match ord[j]? with | some i => dStep F ins orc old nm (dTo F ins orc old nm ord j) i | none => dTo F ins orc old nm ord j
section
variable {F:List Fld} {ins orc:List Fct} {old:List Val} {nm:ByteArray} {ord:List Nat}
end
def deltaR (F:List Fld) (P:List Pag) (ins orc:List Fct) (old:List Val) (nm:ByteArray):List Val × List ByteArray × Int :=
 if toldErr F P ins orc ≠ 0 then ([],[],toldErr F P ins orc) else if F.any (hasName nm) = false then ([],[],5) else if old.length ≠ F.length then ([],[],1) else if valsErr old ≠ 0 then ([],[],valsErr old)
 else ((dTo F ins orc old nm (ordF F) F.length).out,(dTo F ins orc old nm (ordF F) F.length).seen,0)
end Go.Proofs.YtbhkpepinogigaaGreat
