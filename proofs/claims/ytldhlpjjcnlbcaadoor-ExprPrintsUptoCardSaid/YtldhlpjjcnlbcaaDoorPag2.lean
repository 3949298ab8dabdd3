/- Texts merged: Pag1 Pag2. -/
import Derived.Test.YtldhlpjjcnlbcaaDoorNamP
import Derived.Test.YtldhlpjjcnlbcaaDoorNum
import Derived.Test.YtldhlpjjcnlbcaaDoorRig
/- page.Of and the reference PageOf. -/
namespace Go.Proofs.YtldhlpjjcnlbcaaDoor
open Go.RowKit

theorem Pag_at {w:World} {S:Nat → Prop} {A:Option Addr} {n k:Nat} {l:List Pag} (h:Sl w S 8 (RPag w S) A n l) (hk:k < n) :
  ∃ b o f Y D X C,A = some ⟨b,o,none⟩ ∧ S b ∧ l[k]? = some f ∧
   RPag w S [.string f.name,.slice Y f.fields.length D,.int .i64 f.skip.op,.int .i64 f.skip.v.k,.int .i64 f.skip.v.n,.string f.skip.v.s,.string f.skip.name,.slice X f.skip.args.length C] f ∧
   w.cell? ⟨b,o + k * 8,none⟩ = some (.string f.name) ∧ w.cell? ⟨b,o + k * 8 + 1,none⟩ = some (.slice Y f.fields.length D) ∧ w.cell? ⟨b,o + k * 8 + 2,none⟩ = some (.int .i64 f.skip.op) ∧ w.cell? ⟨b,o + k * 8 + 3,none⟩ = some (.int .i64 f.skip.v.k) ∧
   w.cell? ⟨b,o + k * 8 + 4,none⟩ = some (.int .i64 f.skip.v.n) ∧ w.cell? ⟨b,o + k * 8 + 5,none⟩ = some (.string f.skip.v.s) ∧ w.cell? ⟨b,o + k * 8 + 6,none⟩ = some (.string f.skip.name) ∧ w.cell? ⟨b,o + k * 8 + 7,none⟩ = some (.slice X f.skip.args.length C):=by
 obtain ⟨b,o,f,cs,rfl,hs,hl,hr,_,hc⟩:=h.at_ hk
 obtain ⟨r1,Y,m,D,xs,rfl,r2,r3,r4,hx⟩:=hr
 have hx':=hx
 obtain ⟨X,C,rfl,_⟩:=hx.open_
 have hm:=r4.len
 subst hm
 exact ⟨b,o,f,Y,D,X,C,rfl,hs,hl,⟨r1,Y,_,D,_,rfl,r2,r3,r4,hx'⟩,hc 0 (by decide),hc 1 (by decide),hc 2 (by decide),hc 3 (by decide),hc 4 (by decide),hc 5 (by decide),hc 6 (by decide),hc 7 (by decide)⟩
theorem RPag.open_ {w:World} {S:Nat → Prop} {f:Pag} {Y X:Option Addr} {n D m C:Nat}
  (h:RPag w S [.string f.name,.slice Y n D,.int .i64 f.skip.op,.int .i64 f.skip.v.k,.int .i64 f.skip.v.n,.string f.skip.v.s,.string f.skip.name,.slice X m C] f) :
  inS f.name ∧ inB 16 n ∧ n ≤ D ∧ Sl w S 1 RStr Y n f.fields ∧ XRep w S [.int .i64 f.skip.op,.int .i64 f.skip.v.k,.int .i64 f.skip.v.n,.string f.skip.v.s,.string f.skip.name,.slice X m C] f.skip:=by
 obtain ⟨r1,Y',n',D',xs,e,r2,r3,r4,hx⟩:=h
 simp only [List.cons.injEq,Value.slice.injEq,true_and] at e
 obtain ⟨⟨rfl,rfl,rfl⟩,rfl⟩:=e
 exact ⟨r1,r2,r3,r4,hx⟩
def hasField (name:ByteArray) (p:Pag):Bool:=p.fields.any (isStr name)
def pageIx (l:List Pag) (name:ByteArray) (n:Nat):Int:=if l.any (hasField name) then (firstAt (hasField name) l:Int) else (n:Int)
def RetII2 (w:World) (a b:Int) (e:Ending) (w':World):Prop:=e = .returned (.tuple #[.int .i64 a,.int .i64 b]) ∧ Below w.heap.size w w'
end Go.Proofs.YtldhlpjjcnlbcaaDoor
/- Pages by their names: page.Find, PageAt; page.Never. -/
namespace Go.Proofs.YtldhlpjjcnlbcaaDoor
open Go.RowKit

def hasPage (name:ByteArray) (p:Pag):Bool:=p.name.toList == name.toList
end Go.Proofs.YtldhlpjjcnlbcaaDoor
