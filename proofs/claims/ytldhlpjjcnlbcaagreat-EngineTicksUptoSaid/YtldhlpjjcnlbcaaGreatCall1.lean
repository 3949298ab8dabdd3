/- Texts merged (mergeh.py): NavP AllP Gap Call1. -/
import Derived.Test.YtldhlpjjcnlbcaaGreatHeldX
import Derived.Test.YtldhlpjjcnlbcaaGreatMacB
import Derived.Test.YtldhlpjjcnlbcaaGreatOpen
import Derived.Test.YtldhlpjjcnlbcaaGreatOrc
import Derived.Test.YtldhlpjjcnlbcaaGreatOrdF
import Derived.Test.YtldhlpjjcnlbcaaGreatTypes
import Derived.Deep.QuietTactic
import Derived.BigQuiet
import Derived.Test.YtldhlpjjcnlbcaaGreatLexName
/- Texts merged: NavQ NavP DecW RecP. -/
set_option maxRecDepth 100000
set_option maxHeartbeats 8000000
/- Values that are right; forms that are right: plain laws. -/
namespace Go.Proofs.YtldhlpjjcnlbcaaGreat
open Go.RowKit
def zgt (V:List Val)(i:Nat):Int:=match V[i]? with | none=>0 | some v=>valCheck v
def z3c (V:List Val):Int:=z0g (zgt V) V.length
theorem z7r {g:Nat -> Int}:∀ n,(∀ k,k<n->g k=0)->z0g g n=0
 | 0,_=>rfl
 | n+1,h=>by rw[z0g,if_pos (z7r n fun k hk=>h k (by omega))];exact h n (by omega)
end Go.Proofs.YtldhlpjjcnlbcaaGreat
/- What is wrong with a walk through the pages of a form; what a page lacks; the record of a walk. Plain laws. -/
namespace Go.Proofs.YtldhlpjjcnlbcaaGreat
open Go.RowKit
structure Wlk where (at_:Int)(path:List Int)(done:Bool)
def z47 (L:List Int):Nat -> Int
 | 0=>-1
 | k+1=>L[k]?.getD 0
def z92 (n:Nat)(L:List Int)(k:Nat):Int:=match L[k]? with | none=>0 | some p=>if p<=z47 L k\/(n:Int)<p then 15 else 0
def z7b (n:Nat)(x:Wlk):Bool:=decide (z0g (z92 n (x.path++[x.at_])) (x.path.length+1)=0)&&(x.done==decide (x.at_=n))
def walkErr (F:List Fld)(P:List Pag)(V:List Val)(x:Wlk):Int :=
 if formErr F P≠0 then formErr F P else if V.length≠F.length then 1 else if z3c V≠0 then z3c V else if z7b P.length x then 0 else 15
def z8e (n:Nat)(x:Wlk):Nat -> Bool
 | 0=>decide (0<=x.at_)&&decide (x.at_<=n)&&(x.done==decide (x.at_=n))
 | k+1=>z8e n x k&&(match x.path[k]? with | none=>true | some p=>decide (0<=p)&&decide (p<x.at_)&&(k==0||decide (z47 x.path k<p)))
section
variable {F:List Fld} {P:List Pag} {V:List Val} {x:Wlk}
end
def valOf (F:List Fld)(V:List Val)(s:ByteArray):Val:=V[fieldAt F s]?.getD noVal
def lacks (F:List Fld)(V:List Val)(s:ByteArray):Bool:=decide (3<(valOf F V s).k)
def lackL (F:List Fld)(V:List Val)(fs:List ByteArray):List ByteArray:=fs.filter (lacks F V)
def zge (P:List Pag)(at_:Int):Option (List ByteArray):=if at_<0 then none else (P[at_.toNat]?).map (·.fields)
def lackR (F:List Fld)(P:List Pag)(V:List Val)(at_:Int):List ByteArray×Int :=
 if walkErr F P V ⟨0,[],false⟩≠0 then ([],walkErr F P V ⟨0,[],false⟩) else match zge P at_ with
 | none=>([],4)
 | some fs=>(lackL F V fs,0)
section
variable {F:List Fld} {P:List Pag} {V:List Val} {at_:Int}
end
end Go.Proofs.YtldhlpjjcnlbcaaGreat
/- Readings: walks through pages. -/
namespace Go.Proofs.YtldhlpjjcnlbcaaGreat
open Go.ChangeShapes Go.WideShapes Go.ChangeAt Go.RowKit
def RWlk (w:World)(S:Nat -> Prop)(cs:List Value)(x:Wlk):Prop :=
 inI x.at_/\∃ Q q cq,cs=[.int .i64 x.at_,.slice Q q cq,.bool x.done]/\inB 8 q/\q<=cq/\Sl w S 1 RInt Q q x.path
def Wlk.bulk (_:Wlk):Nat:=1
end Go.Proofs.YtldhlpjjcnlbcaaGreat
/- The record of a walk through a form's pages. Plain laws. -/
namespace Go.Proofs.YtldhlpjjcnlbcaaGreat
open Go.RowKit
def fsOf (P:List Pag)(p:Int):List ByteArray:=(zge P p).getD []
def recL (F:List Fld)(V:List Val)(fs:List ByteArray):List Fct:=fs.map fun s=>⟨s,noVal,valOf F V s⟩
def recTo (F:List Fld)(P:List Pag)(V:List Val)(path:List Int):List Fct:=path.flatMap fun p=>recL F V (fsOf P p)
def z9i (F:List Fld)(P:List Pag)(V:List Val)(p:Int):Bool:=(fsOf P p).any (lacks F V)
def recR (F:List Fld)(P:List Pag)(V:List Val)(x:Wlk):List Fct×Int :=
 if walkErr F P V x≠0 then ([],walkErr F P V x) else if x.done=false then ([],11) else if x.path.any (z9i F P V) then ([],11) else (recTo F P V x.path,0)
section
variable {F:List Fld} {P:List Pag} {V:List Val} {x:Wlk}
end
end Go.Proofs.YtldhlpjjcnlbcaaGreat
/- Texts merged: AllP DelP. -/
set_option maxRecDepth 100000
set_option maxHeartbeats 8000000
/- All values of a form: by the order of the ranks, and round by round. Plain laws. -/
namespace Go.Proofs.YtldhlpjjcnlbcaaGreat
open Go.RowKit
def z1k (F:List Fld)(vs:List Val):List Fct:=List.zipWith (fun f v=>⟨f.name,noVal,v⟩) F vs
theorem namedF_at {F:List Fld}{vs:List Val}{i:Nat}{f:Fld}{v:Val}(hf:(F)[i]?=some f)(hv:vs[i]?=some v):(z1k F vs)[i]?=some ⟨f.name,noVal,v⟩:=by
 unfold z1k;rw[List.getElem?_zipWith,hf,hv]
theorem z3o {F:List Fld}{vs:List Val}(h:vs.length=F.length):(z1k F vs).length=F.length:=by unfold z1k;rw[List.length_zipWith,h,Nat.min_self]
theorem z6n {F:List Fld}{vs:List Val}{x:Fct}(h:x∈z1k F vs):∃ (i:Nat)(f:Fld)(v:Val),(F)[i]?=some f/\vs[i]?=some v/\x=⟨f.name,noVal,v⟩:=by
 obtain⟨i,hi,rfl⟩:=List.mem_iff_getElem.1 h
 have hi':=hi
 unfold z1k at hi'
 rw[List.length_zipWith] at hi'
 have hf:(F)[i]?=some (F)[i]:=gq (by omega)
 have hv:vs[i]?=some vs[i]:=gq (by omega)
 refine⟨i,_,_,hf,hv,?_⟩
 have:=namedF_at hf hv
 rw[gq hi] at this
 exact Option.some.inj this
theorem z9p {F:List Fld}{vs:List Val}(h:fieldsErr F=0){i:Nat}{f:Fld}{v:Val}(hf:(F)[i]?=some f)(hv:vs[i]?=some v):factV (z1k F vs) f.name=some v:=by
 unfold factV
 rw[zbn (k:=i) (x:=⟨f.name,noVal,v⟩) ?_ (namedF_at hf hv) (by simp[z0y])]
 ·rfl
 rw[List.any_eq_false]
 intro x hx hs
 have h2:=((z0h h).2 i f hf).2.1
 rw[List.any_eq_false] at h2
 unfold z1k at hx
 rw[List.take_zipWith] at hx
 obtain⟨j,g,u,hg,hu,rfl⟩:=z6n (F:=F.take i) (vs:=vs.take i) hx
 exact h2 g (List.mem_of_getElem? hg) (by simpa [z0a,z0y] using hs)
mutual
theorem evX_congr {l l':List Fct}:∀ x:Exp,(∀ s∈askN x,factV l s=factV l' s)->evX l x=evX l' x
 | .mk op v nm args=>by
  intro h
  rw[evX,evX]
  by_cases h1:op=1
  ·rw[if_pos h1,if_pos h1]
  rw[if_neg h1,if_neg h1]
  by_cases h2:op=2
  ·rw[if_pos h2,if_pos h2,h nm (by rw[askN_eq];simp[Exp.op,Exp.name,h2])]
  rw[if_neg h2,if_neg h2,evL_congr args fun s hs=>h s (by rw[askN_eq];exact List.mem_append.2 (.inr hs))]
theorem evL_congr {l l':List Fct}:∀ xs:List Exp,(∀ s∈askNL xs,factV l s=factV l' s)->evL l xs=evL l' xs
 | []=>by intro _;rw[evL,evL]
 | a::r=>by
  intro h
  rw[evL,evL,evX_congr a fun s hs=>h s (by rw[askNL];exact List.mem_append.2 (.inl hs)),evL_congr r fun s hs=>h s (by rw[askNL];exact List.mem_append.2 (.inr hs))]
end
theorem zfe {f:Fld}{ins orc l l':List Fct}(h1:z1q l=0)(h2:z1q l'=0)(h:∀ s∈srcN f,factV l s=factV l' s):oneV f ins orc l=oneV f ins orc l':=by
 unfold oneV
 by_cases hk:f.kind=1
 ·rw[if_pos hk,if_pos hk]
 have e:evalRes l f.source=evalRes l' f.source:=by
  unfold evalRes
  by_cases he:exprErr f.source=0
  ·rw[if_neg (by simpa using he),if_neg (by simpa using h1),if_neg (by simpa using he),if_neg (by simpa using h2),evX_congr f.source fun s hs=>h s (by unfold srcN;rw[if_neg hk,z4j];exact hs)]
  rw[if_pos he,if_pos he]
 rw[if_neg hk,if_neg hk,e]
theorem z7q {l:List Fct}(h:∀ x∈l,valCheck x.has=0):z1q l=0:=by
 unfold z1q
 refine z7r _ fun k hk=>?_
 rw[z88 (gq hk)]
 exact h _ (List.getElem_mem hk)
def FldOk (f:Fld):Prop:=(1<=f.kind/\f.kind<=3)/\(1<=f.type/\f.type<=3)/\(f.kind≠1->exprErr f.source=0)
def HasOk (l:List Fct):Prop:=∀ x∈l,valCheck x.has=0
theorem valCheck_type {t:Int}(h:1<=t/\t<=3):valCheck ⟨t,0,⟨#[]⟩⟩=0:=by
 rcases (by omega:t=1\/t=2\/t=3) with rfl | rfl | rfl<;>decide +kernel
theorem pendV_ok:valCheck pendV=0:=by decide +kernel
theorem oneV_ok {f:Fld}{ins orc kn:List Fct}(hf:FldOk f)(h1:HasOk ins)(h2:HasOk orc)(h3:z1q kn=0):valCheck (oneV f ins orc kn)=0:=by
 unfold oneV
 by_cases hk:f.kind=1
 ·rw[if_pos hk]
  unfold inV
  cases hq:factV ins f.name with
  | none=>rw[Option.getD_none,Int.zero_add];exact valCheck_type hf.2.1
  | some v=>exact factV_ok (l:=ins) h1 hq
 rw[if_neg hk]
 have hev:valCheck (evalRes kn f.source).1=0:=by
  rw[z6k (hf.2.2 hk) h3]
  exact z5a (z4x h3) _ _ (nr _) (z1f (hf.2.2 hk))
 by_cases hl:f.kind=3
 ·rw[if_pos hl]
  unfold askV
  cases z0b (evalRes kn f.source).1
  ·exact hev
  rw[cond_true]
  unfold askL
  cases hq:orc.find? (zc3 f.name (evalRes kn f.source).1) with
  | none=>exact pendV_ok
  | some x=>exact h2 x (List.mem_of_find?_eq_some hq)
 rw[if_neg hl];exact hev
def rnd (F:List Fld)(ins orc:List Fct)(vs:List Val):List Val:=F.map fun f=>oneV f ins orc (z1k F vs)
def rnds (F:List Fld)(ins orc:List Fct):Nat -> List Val
 | 0=>List.replicate F.length pendV
 | k+1=>rnd F ins orc (rnds F ins orc k)
section
variable {F:List Fld} {ins orc:List Fct}
def AllOk (F:List Fld)(ins orc:List Fct):Prop:=(rankR F).2.2=0/\(∀ f∈F,FldOk f)/\HasOk ins/\HasOk orc
theorem z5l {vs:List Val}(h:∀ v∈vs,valCheck v=0):z1q (z1k F vs)=0:=by
 refine z7q fun x hx=>?_
 obtain⟨i,f,v,_,hv,rfl⟩:=z6n hx
 exact h v (List.mem_of_getElem? hv)
theorem zb9 (h:(rankR F).2.2=0){i:Nat}(hi:i<F.length):∃ r,rkL (needL F) F.length i=some r/\r<F.length/\outAt (rankO F) i=r:=by
 have h1:=(zdb h i hi).1
 have h2:=zbz (z4t (z13 h).1) hi
 cases hr:rkL (needL F) F.length i with
 | none=>rw[hr] at h2;unfold rankO at h1;rw[h2] at h1;exact absurd h1 (by decide)
 | some r=>rw[hr] at h2;exact⟨r,rfl,(z6a hr).1,h2⟩
theorem src_at (h:(rankR F).2.2=0){i:Nat}{f:Fld}(hf:(F)[i]?=some f){s:ByteArray}(hs:s∈srcN f):fieldAt F s∈ndAt (needL F) i/\∃ g,(F)[fieldAt F s]?=some g/\g.name=s:=by
 refine⟨?_,(z3r (((z0h (z13 h).1).2 i f hf).2.2.2.2 s hs)).2⟩
 rw[zdz hf]
 exact List.mem_map.2 ⟨s,hs,rfl⟩
def finV (F:List Fld)(ins orc:List Fct):List Val:=rnds F ins orc F.length
def z1y (F:List Fld)(vs:List Val)(ord:List Nat)(j:Nat):List Fct:=(ord.take j).map fun i=>⟨z1e F i,noVal,vs[i]?.getD noVal⟩
theorem nameAt_some {i:Nat}{f:Fld}(hf:(F)[i]?=some f):z1e F i=f.name:=by unfold z1e;rw[hf];rfl
theorem factV_known (he:fieldsErr F=0){vs:List Val}{ord:List Nat}{j i:Nat}{f:Fld}{v:Val}(hlt:∀ k∈ord,k<F.length)(hf:(F)[i]?=some f)(hv:vs[i]?=some v)(hm:i∈ord.take j):factV (z1y F vs ord j) f.name=some v:=by
 unfold factV z1y
 rw[List.find?_map]
 have hp:∀ k∈ord.take j,z0y f.name (⟨z1e F k,noVal,vs[k]?.getD noVal⟩:Fct)=true↔k=i:=by
  intro k hk
  have hkl:=hlt k (List.mem_of_mem_take hk)
  have hg:(F)[k]?=some (F)[k]:=gq hkl
  rw[nameAt_some hg]
  constructor
  ·intro hs
   have hn:(F)[k].name=f.name:=z2f (by simpa [z0y] using hs)
   have e1:=z3d he hg
   have e2:=z3d he hf
   rw[hn] at e1
   omega
  rintro rfl
  rw[hf] at hg
  rw[<-Option.some.inj hg]
  simp[z0y]
 cases hq:(ord.take j).find? (z0y f.name∘fun i=>(⟨z1e F i,noVal,vs[i]?.getD noVal⟩:Fct)) with
 | none =>
  rw[List.find?_eq_none] at hq
  exact absurd ((hp i hm).2 rfl) (hq i hm)
 | some k =>
  have h1:=List.find?_some hq
  have h2:=List.mem_of_find?_eq_some hq
  have:=(hp k h2).1 h1
  subst this
  simp[hv]
theorem z9x {k:Nat}(h:k∈ordF F):k<F.length:=(z5j _ _ _).1 h
def outTo (F:List Fld)(vs:List Val)(ord:List Nat):Nat -> List Val
 | 0=>List.replicate F.length noVal
 | j+1=>match ord[j]? with | some i=>(outTo F vs ord j).set i (vs[i]?.getD noVal) | none=>outTo F vs ord j
end
end Go.Proofs.YtldhlpjjcnlbcaaGreat
/- What a change makes of the values of a form. Plain laws. -/
namespace Go.Proofs.YtldhlpjjcnlbcaaGreat
open Go.RowKit
def toldErr (F:List Fld)(P:List Pag)(ins orc:List Fct):Int:=if formErr F P≠0 then formErr F P else if factsCheck F ins≠0 then factsCheck F ins else oracleErr F orc
structure Dst where (out:List Val)(seen chg:List ByteArray)
def z96 (nm:ByteArray)(chg:List ByteArray)(x:Fld):Bool:=x.name.toList==nm.toList||(srcN x).any (fun s=>chg.any (isStr s))
def dNew (F:List Fld)(ins orc:List Fct)(d:Dst)(x:Fld):Val:=oneV x ins orc (z1k F d.out)
def dStep (F:List Fld)(ins orc:List Fct)(old:List Val)(nm:ByteArray)(d:Dst)(i:Nat):Dst:=match (F)[i]? with
 | none=>d
 | some x=>if z96 nm d.chg x then ⟨d.out.set i (dNew F ins orc d x),d.seen++[x.name],if valEq (dNew F ins orc d x) (old[i]?.getD noVal) then d.chg else d.chg++[x.name]⟩ else d
def dTo (F:List Fld)(ins orc:List Fct)(old:List Val)(nm:ByteArray)(ord:List Nat):Nat -> Dst
 | 0=>⟨old,[],[]⟩
 | j+1=>match ord[j]? with | some i=>dStep F ins orc old nm (dTo F ins orc old nm ord j) i | none=>dTo F ins orc old nm ord j
section
variable {F:List Fld} {ins orc:List Fct} {old:List Val} {nm:ByteArray} {ord:List Nat}
end
def deltaR (F:List Fld)(P:List Pag)(ins orc:List Fct)(old:List Val)(nm:ByteArray):List Val×List ByteArray×Int :=
 if toldErr F P ins orc≠0 then ([],[],toldErr F P ins orc) else if F.any (z0a nm)=false then ([],[],5) else if old.length≠F.length then ([],[],1) else if z3c old≠0 then ([],[],z3c old)
 else ((dTo F ins orc old nm (ordF F) F.length).out,(dTo F ins orc old nm (ordF F) F.length).seen,0)
theorem zdn {F:List Fld}{l:List Fct}(h:factsCheck F l=0):HasOk l:=by
 intro x hx
 obtain⟨i,hi,rfl⟩:=List.mem_iff_getElem.1 hx
 have h1:=z1n h i hi
 have h2:z19 F l[i].name l[i].has=0:=by
  apply Classical.byContradiction
  intro hne
  unfold z3k at h1
  rw[gq hi] at h1
  change (if z19 F l[i].name l[i].has=0 then _ else z19 F l[i].name l[i].has)=0 at h1
  rw[if_neg hne] at h1
  exact hne h1
 unfold z19 at h2
 split at h2
 ·cases h2
 split at h2
 ·split at h2
  ·rename_i hk;exact ((z23 _).1 hk.1).1
  cases h2
 cases h2
theorem fieldErr_ok {f:Fld}(h:fieldErr f=0):FldOk f:=by
 rcases z6t f with h' | h' | h' | h' | h' | h' | h' | h'
 ·obtain⟨h1,h2⟩:=h'
  rw[h] at h2;rw[<-h2] at h1;cases h1
 ·obtain⟨_,_,h2⟩:=h';rw[h] at h2;cases h2
 ·obtain⟨_,_,_,h2⟩:=h';rw[h] at h2;cases h2
 ·obtain⟨_,_,_,_,h2⟩:=h';rw[h] at h2;cases h2
 ·obtain⟨_,_,_,_,_,h2⟩:=h';rw[h] at h2;cases h2
 ·obtain⟨_,h1,h2,h3,h4,h5,_,_⟩:=h'
  exact⟨⟨by omega,by omega⟩,⟨by omega,by omega⟩,fun hk=>absurd (by simpa using h5.1) hk⟩
 ·obtain⟨_,_,_,_,_,_,_,h2⟩:=h';rw[h] at h2;cases h2
 obtain⟨_,h1,h2,h3,h4,_,_,h5⟩:=h'
 exact⟨⟨by omega,by omega⟩,⟨by omega,by omega⟩,fun _=>by rw[<-h5];exact h⟩
theorem zaz {F:List Fld}{P:List Pag}(h:formErr F P=0):(rankR F).2.2=0:=by
 unfold formErr at h
 by_cases he:(rankR F).2.2=0
 ·exact he
 rw[if_pos he] at h;exact absurd h he
theorem fields_ok {F:List Fld}(h:fieldsErr F=0):∀ f∈F,FldOk f:=by
 intro f hf
 obtain⟨i,hi,rfl⟩:=List.mem_iff_getElem.1 hf
 exact fieldErr_ok ((z0h h).2 i _ (gq hi)).1
end Go.Proofs.YtldhlpjjcnlbcaaGreat
/- Policies and gaps: gap.Check, gap.Of, gap.Whole and the references of the same names. -/
set_option maxRecDepth 100000
set_option maxHeartbeats 8000000
namespace Go.Proofs.YtldhlpjjcnlbcaaGreat
open Go.RowKit
def gapCheck (p:Pol):Int:=if p.tries<1\/6<p.tries\/p.base<1\/1000<p.base\/p.cap<p.base\/1000<p.cap then 4 else 0
theorem z2l {p:Pol}(h:gapCheck p=0):1<=p.tries/\p.tries<=6/\1<=p.base/\p.base<=1000/\p.base<=p.cap/\p.cap<=1000:=by
 unfold gapCheck at h;split at h<;>omega
theorem z9u {p:Pol}(h:¬ gapCheck p=0):gapCheck p=4:=by
 unfold gapCheck at *;split at h<;>simp_all
def gapOf (p:Pol)(y:Int):Int×Int:=if gapCheck p=0 then if y<1\/p.tries<y then (0,4) else (min (p.base*2 ^ (y-1).toNat) p.cap,0) else (0,gapCheck p)
theorem z3h (t b c:Int)(w:World) :
  Calls Tryz.prog 23 #[.agg #[.int .i64 t,.int .i64 b,.int .i64 c]] w fun e w'=>e=.returned (.int .i64 (gapCheck ⟨t,b,c⟩))/\Below w.heap.size w w':=by
 go_enter Tryz.func23,Tryz.ntmps23
 go_wp2
 all_goals
  go_ret
  exact⟨z0n (by simp[gapCheck];try omega),(Below.refl _ _).alloc (nr _) _⟩
theorem gap_Of (t b c y:Int)(w:World) :
  Calls Tryz.prog 86 #[.agg #[.int .i64 t,.int .i64 b,.int .i64 c],.int .i64 y] w fun e w'=>e=.returned (.tuple #[.int .i64 (gapOf ⟨t,b,c⟩ y).1,.int .i64 (gapOf ⟨t,b,c⟩ y).2])/\Below w.heap.size w w':=by
 go_enter Tryz.func86,Tryz.ntmps86
 go_wp2_with (go_at_call 23;refine (z3h _ _ _ _).mono ?_;rintro e w' ⟨rfl,hb⟩;obtain⟨hc,hf⟩:=bcell hb;have hz:=hb.size;simp at hz;simp at hb)
 all_goals try (go_ret2;exact⟨by simp_all [gapOf],z14 hb⟩)
 have hg:gapCheck ⟨t,b,c⟩=0:=by simp_all
 obtain⟨h1,h2,h3,h4,h5,h6⟩:=z2l hg
 simp only at h1 h2 h3 h4 h5 h6
 have hy:y=1\/y=2\/y=3\/y=4\/y=5\/y=6:=by omega
 rcases hy with rfl | rfl | rfl | rfl | rfl | rfl
 all_goals
  go_quiet (fail)
  go_wp2
  all_goals
   go_ret2
   refine⟨z2w ?_ ?_,z4f (z14 hb) _⟩
   ·simp[gapOf,hg]
    try (rw[if_neg (by omega)])
    try simp[Int.min_def]
    try omega
   simp[gapOf,hg]
   try (rw[if_neg (by omega)])
theorem z1r (t b c:Int)(w:World) :
  Calls Tryz.prog 27 #[.agg #[.int .i64 t,.int .i64 b,.int .i64 c]] w fun e w'=>e=.returned (.int .i64 (gapCheck ⟨t,b,c⟩))/\Below w.heap.size w w':=by
 go_enter Tryz.func27,Tryz.ntmps27
 go_wp2
 all_goals
  go_ret
  exact⟨z0n (by simp[gapCheck];try omega),(Below.refl _ _).alloc (nr _) _⟩
theorem pow_succ' (b:Int)(k:Nat):b*2 ^ (k+1)=b*2 ^ k*2:=by rw[Int.pow_succ,Int.mul_assoc]
theorem zhf (b:Int)(hb:0<=b)(k m:Nat)(h:k<=m):b*2 ^ k<=b*2 ^ m:=by
 have hp:(2:Int) ^ k<=2 ^ m:=by
  have:=Nat.pow_le_pow_right (n:=2) (by decide) h
  exact_mod_cast this
 exact Int.mul_le_mul_of_nonneg_left hp hb
theorem z79 (t b c y:Int)(w:World) :
  Calls Tryz.prog 88 #[.agg #[.int .i64 t,.int .i64 b,.int .i64 c],.int .i64 y] w fun e w'=>e=.returned (.tuple #[.int .i64 (gapOf ⟨t,b,c⟩ y).1,.int .i64 (gapOf ⟨t,b,c⟩ y).2])/\Below w.heap.size w w':=by
 go_enter Tryz.func88,Tryz.ntmps88
 go_wp2_with (go_at_call 27;refine (z1r _ _ _ _).mono ?_;rintro e w' ⟨rfl,hb⟩;obtain⟨hc,hf⟩:=bcell hb;have hz:=hb.size;simp at hz;simp at hb)
 all_goals try (go_ret2;exact⟨by simp_all [gapOf],z14 hb⟩)
 have hg:gapCheck ⟨t,b,c⟩=0:=by simp_all
 obtain⟨h1,h2,h3,h4,h5,h6⟩:=z2l hg
 simp only at h1 h2 h3 h4 h5 h6
 have HG:=zh hg
 clear hg
 go_loop [7,8] (fun n i=>∃ k:Nat,i=.int .i64 k/\1<=k/\(k:Int)<=y/\n=.int .i64 (b*2 ^ (k-1))/\(1<k->b*2 ^ (k-2)<c)) (fun _ i=>(y-intOf i).toNat)
 case atStart=>exact⟨1,rfl,by omega,by omega,by simp,by omega⟩
 case round =>
  obtain⟨k,rfl,hk1,hk2,rfl,hk3⟩:=hrel
  have hm0:b*2 ^ (k-1)<=2000/\1<=b*2 ^ (k-1):=by
   constructor
   ·rcases Nat.lt_or_ge 1 k with h | h
    ·have:=hk3 h
     rw[show k-1=(k-2)+1 by omega,pow_succ']
     omega
    rw[show k-1=0 by omega];simp;omega
   have:=zhf b (by omega) 0 (k-1) (by omega)
   simp at this;omega
  have hlast:∀ v:Int,(v=min (b*2 ^ (k-1)) c)->((k:Int)=y\/c<=b*2 ^ (k-1))->(gapOf ⟨t,b,c⟩ y).1=v/\(gapOf ⟨t,b,c⟩ y).2=0:=by
   intro v hv hor
   have e:gapOf ⟨t,b,c⟩ y=(min (b*2 ^ (y-1).toNat) c,0):=by
    simp only[gapOf,HG.out,if_true]
    rw[if_neg (by omega)]
   rw[e]
   refine⟨?_,rfl⟩
   show min (b*2 ^ (y-1).toNat) c=v
   rcases hor with hor | hor
   ·rw[hv,show (y-1).toNat = k-1 by omega]
   have:=zhf b (by omega) (k-1) (y-1).toNat (by omega)
   simp only[hv,Int.min_def];split<;>split<;>omega
  have HL:=zh hlast
  obtain⟨m,hm⟩:∃ m,m=b*2 ^ (k-1):=⟨_,rfl⟩
  have HM:=zh hm
  rw[<-hm] at hm0 ⊢
  clear hlast hm hk3
  by_cases hlt:(k:Int)<y
  ·by_cases hmc:m<c
   ·go_wp2
    go_round
    case rel=>exact⟨k+1,by go_num,by omega,by omega,by rw[HM.out,show k+1-1=(k-1)+1 by omega,pow_succ'],fun _=>by rw[show k+1-2=k-1 by omega,<-HM.out];exact hmc⟩
    case measure=>simp[intOf];omega
   go_wp2
   all_goals
    go_ret2
    obtain⟨l1,l2⟩:=HL.out c (by rw[<-HM.out,Int.min_def];split<;>omega) (.inr (by rw[<-HM.out];omega))
    exact⟨z2w (by rw[l1];try omega) l2.symm,z14 hb⟩
  go_wp2
  all_goals
   go_ret2
   obtain⟨l1,l2⟩:=HL.out (min m c) (by rw[<-HM.out]) (.inl (by omega))
   exact⟨z2w (by rw[l1,Int.min_def];split<;>omega) l2.symm,z14 hb⟩
end Go.Proofs.YtldhlpjjcnlbcaaGreat
/- call.Start and the reference CallStart. -/
set_option maxRecDepth 100000
set_option maxHeartbeats 8000000
namespace Go.Proofs.YtldhlpjjcnlbcaaGreat
open Go.RowKit
def noCll:Cll:=⟨0,0,0,⟨0,0,⟨#[]⟩⟩,⟨0,0,⟨#[]⟩⟩,0⟩
def z18 (p:Pol)(id:Int)(key:Val)(now:Int):Cll×Int :=
 if gapCheck p=0 then
  if id<1\/1073741824<id\/now<0\/1073741824<now then (noCll,4)
  else if z0b key=true then (⟨1,id,1,key,⟨0,0,⟨#[]⟩⟩,now+(gapOf p 1).1⟩,0) else (noCll,9)
 else (noCll,4)
theorem z5z (p:Pol)(id:Int)(key:Val)(now:Int) :
  (¬ gapCheck p=0/\z18 p id key now=(noCll,4)) \/
  (gapCheck p=0/\(id<1\/1073741824<id\/now<0\/1073741824<now)/\z18 p id key now=(noCll,4)) \/
  (gapCheck p=0/\(1<=id/\id<=1073741824/\0<=now/\now<=1073741824)/\z0b key=false/\z18 p id key now=(noCll,9)) \/
  (gapCheck p=0/\(1<=id/\id<=1073741824/\0<=now/\now<=1073741824)/\z0b key=true/\z18 p id key now=(⟨1,id,1,key,⟨0,0,⟨#[]⟩⟩,now+(gapOf p 1).1⟩,0)):=by
 unfold z18
 by_cases h1:gapCheck p=0
 ·by_cases h2:id<1\/1073741824<id\/now<0\/1073741824<now
  ·exact .inr (.inl ⟨h1,h2,by rw[if_pos h1,if_pos h2]⟩)
  cases h3:z0b key
  ·exact .inr (.inr (.inl ⟨h1,by omega,rfl,by rw[if_pos h1,if_neg h2];rfl⟩))
  exact .inr (.inr (.inr ⟨h1,by omega,rfl,by rw[if_pos h1,if_neg h2];rfl⟩))
 exact .inl ⟨h1,by rw[if_neg h1]⟩
theorem z9a (p:Pol)(y:Int)(h:gapCheck p=0):0<=(gapOf p y).1/\(gapOf p y).1<=1000:=by
 obtain⟨h1,h2,h3,h4,h5,h6⟩:=z2l h
 unfold gapOf
 rw[if_pos h]
 split
 ·simp
 have:=zhf p.base (by omega) 0 (y-1).toNat (by omega)
 simp only[Int.min_def]
 split<;>omega
abbrev Cll.ag (c:Cll):Value:=.agg #[.int .i64 c.state,.int .i64 c.id,.int .i64 c.tries,.int .i64 c.key.k,.int .i64 c.key.n,.string c.key.s,.int .i64 c.has.k,.int .i64 c.has.n,.string c.has.s,.int .i64 c.next]
theorem z6i (t b c id kk kn:Int)(ks:ByteArray)(now:Int)(w:World)(hs:ks.size<=maxLen) :
  Calls Tryz.prog 164 #[.agg #[.int .i64 t,.int .i64 b,.int .i64 c],.int .i64 id,.agg #[.int .i64 kk,.int .i64 kn,.string ks],.int .i64 now] w
   fun e w'=>e=.returned (.tuple #[(z18 ⟨t,b,c⟩ id ⟨kk,kn,ks⟩ now).1.ag,.int .i64 (z18 ⟨t,b,c⟩ id ⟨kk,kn,ks⟩ now).2])/\Below w.heap.size w w':=by
 rcases z5z ⟨t,b,c⟩ id ⟨kk,kn,ks⟩ now with ⟨h1,h2⟩ | ⟨h1,hr,h2⟩ | ⟨h1,hr,h3,h2⟩ | ⟨h1,hr,h3,h2⟩
 ·have h1':(gapCheck ⟨t,b,c⟩ != 0)=true:=by simpa using h1
  have h4:=z9u h1
  rw[h2]
  clear h1 h2
  go_enter Tryz.func164,Tryz.ntmps164
  go_wp2_with (first | (go_at_call 23;refine (z3h _ _ _ _).mono ?_;rintro e w1 ⟨rfl,hb1⟩;refine zb hb1 ?_;rintro ⟨hc1,hf1⟩ hz1 hy1 hx1))
  refine bodyPost_ret (v:=.tuple #[.agg #[.int .i64 0,.int .i64 0,.int .i64 0,.int .i64 0,.int .i64 0,.string ⟨#[]⟩,.int .i64 0,.int .i64 0,.string ⟨#[]⟩,.int .i64 0],.int .i64 4]) ?_ rfl ?_
  ·simp[results,Tryz.results164,go_sem,hc1]
  exact⟨rfl,bel⟩
 ·have hx:(gapCheck ⟨t,b,c⟩ != 0)=false:=by simpa using h1
  rw[h2]
  rcases (by omega:id<1\/(1<=id/\1073741824<id)\/(1<=id/\id<=1073741824/\now<0)\/(1<=id/\id<=1073741824/\0<=now/\1073741824<now)) with hr1 | hr1 | hr1 | hr1
  all_goals
   clear h2 hr
   go_enter Tryz.func164,Tryz.ntmps164
   go_wp2_with (first | (go_at_call 23;refine (z3h _ _ _ _).mono ?_;rintro e w1 ⟨rfl,hb1⟩;refine zb hb1 ?_;rintro ⟨hc1,hf1⟩ hz1 hy1 hx1;refine szz w1 w ?_;intros) | (go_at_call 83;refine (z0q _ _ _ _ hs).mono ?_;rintro e w2 ⟨rfl,hb2⟩;refine zb hb2 ?_;rintro ⟨hc2,hf2⟩ hz2 hy2 hx2;refine szz w2 w ?_;intros;refine szz w2 w1 ?_;intros) | (go_at_call 86;refine (gap_Of _ _ _ _ _).mono ?_;rintro e w3 ⟨rfl,hb3⟩;refine zb hb3 ?_;rintro ⟨hc3,hf3⟩ hz3 hy3 hx3;refine szz w3 w ?_;intros;refine szz w3 w1 ?_;intros;refine szz w3 w2 ?_;intros))
   refine bodyPost_ret (v:=.tuple #[.agg #[.int .i64 0,.int .i64 0,.int .i64 0,.int .i64 0,.int .i64 0,.string ⟨#[]⟩,.int .i64 0,.int .i64 0,.string ⟨#[]⟩,.int .i64 0],.int .i64 4]) ?_ rfl ?_
   ·simp[results,Tryz.results164,go_sem,hc1]
   exact⟨rfl,bel⟩
 ·have hx:(gapCheck ⟨t,b,c⟩ != 0)=false:=by simpa using h1
  rw[h2]
  obtain⟨r1,r2,r3,r4⟩:=hr
  clear h2
  go_enter Tryz.func164,Tryz.ntmps164
  go_wp2_with (first | (go_at_call 23;refine (z3h _ _ _ _).mono ?_;rintro e w1 ⟨rfl,hb1⟩;refine zb hb1 ?_;rintro ⟨hc1,hf1⟩ hz1 hy1 hx1;refine szz w1 w ?_;intros) | (go_at_call 83;refine (z0q _ _ _ _ hs).mono ?_;rintro e w2 ⟨rfl,hb2⟩;refine zb hb2 ?_;rintro ⟨hc2,hf2⟩ hz2 hy2 hx2;refine szz w2 w ?_;intros;refine szz w2 w1 ?_;intros) | (go_at_call 86;refine (gap_Of _ _ _ _ _).mono ?_;rintro e w3 ⟨rfl,hb3⟩;refine zb hb3 ?_;rintro ⟨hc3,hf3⟩ hz3 hy3 hx3;refine szz w3 w ?_;intros;refine szz w3 w1 ?_;intros;refine szz w3 w2 ?_;intros))
  refine bodyPost_ret (v:=.tuple #[.agg #[.int .i64 0,.int .i64 0,.int .i64 0,.int .i64 0,.int .i64 0,.string ⟨#[]⟩,.int .i64 0,.int .i64 0,.string ⟨#[]⟩,.int .i64 0],.int .i64 9]) ?_ rfl ?_
  ·simp[results,Tryz.results164,go_sem, *]
  exact⟨rfl,bel⟩
 have hx:(gapCheck ⟨t,b,c⟩ != 0)=false:=by simpa using h1
 have hgb:=z9a ⟨t,b,c⟩ 1 h1
 rw[h2]
 obtain⟨r1,r2,r3,r4⟩:=hr
 clear h2
 go_enter Tryz.func164,Tryz.ntmps164
 go_wp2_with (first | (go_at_call 23;refine (z3h _ _ _ _).mono ?_;rintro e w1 ⟨rfl,hb1⟩;refine zb hb1 ?_;rintro ⟨hc1,hf1⟩ hz1 hy1 hx1;refine szz w1 w ?_;intros) | (go_at_call 83;refine (z0q _ _ _ _ hs).mono ?_;rintro e w2 ⟨rfl,hb2⟩;refine zb hb2 ?_;rintro ⟨hc2,hf2⟩ hz2 hy2 hx2;refine szz w2 w ?_;intros;refine szz w2 w1 ?_;intros) | (go_at_call 86;refine (gap_Of _ _ _ _ _).mono ?_;rintro e w3 ⟨rfl,hb3⟩;refine zb hb3 ?_;rintro ⟨hc3,hf3⟩ hz3 hy3 hx3;refine szz w3 w ?_;intros;refine szz w3 w1 ?_;intros;refine szz w3 w2 ?_;intros))
 refine bodyPost_ret (v:=.tuple #[.agg #[.int .i64 1,.int .i64 id,.int .i64 1,.int .i64 kk,.int .i64 kn,.string ks,.int .i64 0,.int .i64 0,.string ⟨#[]⟩,.int .i64 (now+(gapOf ⟨t,b,c⟩ 1).1)],.int .i64 0]) ?_ rfl ?_
 ·simp[results,Tryz.results164,go_sem, *]
 exact⟨rfl,bel⟩
theorem z57 (t b c id kk kn:Int)(ks:ByteArray)(now:Int)(w:World)(hs:ks.size<=maxLen) :
  Calls Tryz.prog 128 #[.agg #[.int .i64 t,.int .i64 b,.int .i64 c],.int .i64 id,.agg #[.int .i64 kk,.int .i64 kn,.string ks],.int .i64 now] w
   fun e w'=>e=.returned (.tuple #[(z18 ⟨t,b,c⟩ id ⟨kk,kn,ks⟩ now).1.ag,.int .i64 (z18 ⟨t,b,c⟩ id ⟨kk,kn,ks⟩ now).2])/\Below w.heap.size w w':=by
 rcases z5z ⟨t,b,c⟩ id ⟨kk,kn,ks⟩ now with ⟨h1,h2⟩ | ⟨h1,hr,h2⟩ | ⟨h1,hr,h3,h2⟩ | ⟨h1,hr,h3,h2⟩
 ·have hg:(gapOf ⟨t,b,c⟩ 1).2=4:=by simp[gapOf,z9u h1]
  rw[h2]
  clear h1 h2
  go_enter Tryz.func128,Tryz.ntmps128
  go_wp2_with (first | (go_at_call 88;refine (z79 _ _ _ _ _).mono ?_;rintro e w1 ⟨rfl,hb1⟩;refine zb hb1 ?_;rintro ⟨hc1,hf1⟩ hz1 hy1 hx1;refine szz w1 w ?_;intros) | (go_at_call 74;refine (z1d _ _ _ _ hs).mono ?_;rintro e w2 ⟨rfl,hb2⟩;refine zb hb2 ?_;rintro ⟨hc2,hf2⟩ hz2 hy2 hx2;refine szz w2 w ?_;intros;refine szz w2 w1 ?_;intros))
  refine bodyPost_ret (v:=.tuple #[.agg #[.int .i64 0,.int .i64 0,.int .i64 0,.int .i64 0,.int .i64 0,.string ⟨#[]⟩,.int .i64 0,.int .i64 0,.string ⟨#[]⟩,.int .i64 0],.int .i64 4]) ?_ rfl ?_
  ·simp[results,Tryz.results128,go_sem,hc1]
  exact⟨rfl,bel⟩
 ·have hg:(gapOf ⟨t,b,c⟩ 1).2=0:=by
   have:=z2l h1
   unfold gapOf
   rw[if_pos h1,if_neg (by simp only at this ⊢;omega)]
  rw[h2]
  rcases (by omega:id<1\/(1<=id/\1073741824<id)\/(1<=id/\id<=1073741824/\now<0)\/(1<=id/\id<=1073741824/\0<=now/\1073741824<now)) with hr1 | hr1 | hr1 | hr1
  all_goals
   clear h2 hr
   go_enter Tryz.func128,Tryz.ntmps128
   go_wp2_with (first | (go_at_call 88;refine (z79 _ _ _ _ _).mono ?_;rintro e w1 ⟨rfl,hb1⟩;refine zb hb1 ?_;rintro ⟨hc1,hf1⟩ hz1 hy1 hx1;refine szz w1 w ?_;intros) | (go_at_call 74;refine (z1d _ _ _ _ hs).mono ?_;rintro e w2 ⟨rfl,hb2⟩;refine zb hb2 ?_;rintro ⟨hc2,hf2⟩ hz2 hy2 hx2;refine szz w2 w ?_;intros;refine szz w2 w1 ?_;intros))
   refine bodyPost_ret (v:=.tuple #[.agg #[.int .i64 0,.int .i64 0,.int .i64 0,.int .i64 0,.int .i64 0,.string ⟨#[]⟩,.int .i64 0,.int .i64 0,.string ⟨#[]⟩,.int .i64 0],.int .i64 4]) ?_ rfl ?_
   ·simp[results,Tryz.results128,go_sem,hc1]
   exact⟨rfl,bel⟩
 ·have hg:(gapOf ⟨t,b,c⟩ 1).2=0:=by
   have:=z2l h1
   unfold gapOf
   rw[if_pos h1,if_neg (by simp only at this ⊢;omega)]
  rw[h2]
  obtain⟨r1,r2,r3,r4⟩:=hr
  clear h2
  go_enter Tryz.func128,Tryz.ntmps128
  go_wp2_with (first | (go_at_call 88;refine (z79 _ _ _ _ _).mono ?_;rintro e w1 ⟨rfl,hb1⟩;refine zb hb1 ?_;rintro ⟨hc1,hf1⟩ hz1 hy1 hx1;refine szz w1 w ?_;intros) | (go_at_call 74;refine (z1d _ _ _ _ hs).mono ?_;rintro e w2 ⟨rfl,hb2⟩;refine zb hb2 ?_;rintro ⟨hc2,hf2⟩ hz2 hy2 hx2;refine szz w2 w ?_;intros;refine szz w2 w1 ?_;intros))
  refine bodyPost_ret (v:=.tuple #[.agg #[.int .i64 0,.int .i64 0,.int .i64 0,.int .i64 0,.int .i64 0,.string ⟨#[]⟩,.int .i64 0,.int .i64 0,.string ⟨#[]⟩,.int .i64 0],.int .i64 9]) ?_ rfl ?_
  ·simp[results,Tryz.results128,go_sem, *]
  exact⟨rfl,bel⟩
 have hg:(gapOf ⟨t,b,c⟩ 1).2=0:=by
  have:=z2l h1
  unfold gapOf
  rw[if_pos h1,if_neg (by simp only at this ⊢;omega)]
 have hgb:=z9a ⟨t,b,c⟩ 1 h1
 rw[h2]
 obtain⟨r1,r2,r3,r4⟩:=hr
 clear h2
 go_enter Tryz.func128,Tryz.ntmps128
 go_wp2_with (first | (go_at_call 88;refine (z79 _ _ _ _ _).mono ?_;rintro e w1 ⟨rfl,hb1⟩;refine zb hb1 ?_;rintro ⟨hc1,hf1⟩ hz1 hy1 hx1;refine szz w1 w ?_;intros) | (go_at_call 74;refine (z1d _ _ _ _ hs).mono ?_;rintro e w2 ⟨rfl,hb2⟩;refine zb hb2 ?_;rintro ⟨hc2,hf2⟩ hz2 hy2 hx2;refine szz w2 w ?_;intros;refine szz w2 w1 ?_;intros))
 refine bodyPost_ret (v:=.tuple #[.agg #[.int .i64 1,.int .i64 id,.int .i64 1,.int .i64 kk,.int .i64 kn,.string ks,.int .i64 0,.int .i64 0,.string ⟨#[]⟩,.int .i64 (now+(gapOf ⟨t,b,c⟩ 1).1)],.int .i64 0]) ?_ rfl ?_
 ·simp[results,Tryz.results128,go_sem, *]
 exact⟨rfl,bel⟩
end Go.Proofs.YtldhlpjjcnlbcaaGreat
