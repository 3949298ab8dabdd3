/- Texts merged: Ord1 Ord2 Ord3 Ord4 Ord5 (rank.Order, FieldOrder; what hangs on a field: plain). -/
import Derived.Test.YtbhkpepinogigaaGreatRnk7
import Derived.Deep.QuietTactic
import Derived.BigQuiet
import Derived.Test.YtbhkpepinogigaaGreatTypes
/- Fields by their ranks: plain laws; cmp.Compare, the insertion sort and rank.Order. -/
namespace Go.Proofs.YtbhkpepinogigaaGreat
open Go.RowKit

def ltR (O:Nat → Int) (a b:Nat):Prop:=O a < O b ∨ (O a = O b ∧ a < b)
def insAt (l:List Nat) (x j:Nat):List Nat:=l.take j ++ x :: l.drop j
def leftTo (O:Nat → Int) (l:List Nat) (x:Nat):Nat → Nat
 | 0 => 0
 | j + 1 => if O x < O (l[j]?.getD 0) then leftTo O l x j else j + 1
def ordK (O:Nat → Int):Nat → List Nat
 | 0 => []
 | k + 1 => insAt (ordK O k) k (leftTo O (ordK O k) k (ordK O k).length)
def lvlK (O:Nat → Int) (N lev:Nat):List Nat:=(List.range N).filter fun i => O i == (lev:Int)
def lvls (O:Nat → Int) (N:Nat):Nat → List Nat
 | 0 => []
 | lev + 1 => lvls O N lev ++ lvlK O N lev
def rowJ (O:Nat → Int) (n k j:Nat):List Nat:=insAt (ordK O k) k j ++ List.range' (k + 1) (n - (k + 1))
def cmpI (x y:Int):Int:=if x < y then -1 else if y < x then 1 else 0
end Go.Proofs.YtbhkpepinogigaaGreat
/- slices.SortStableFunc at up to 20 ints by their ranks; rank.Order. -/
namespace Go.Proofs.YtbhkpepinogigaaGreat
open Go.RowKit

end Go.Proofs.YtbhkpepinogigaaGreat
/- rank.Order: the places of fields by their ranks. -/
namespace Go.Proofs.YtbhkpepinogigaaGreat
open Go.RowKit

def ordF (F:List Fld):List Nat:=ordK (outAt (rankO F)) F.length
def orderR (F:List Fld):List Int × Int:=if (rankR F).2.2 = 0 then (toI (ordF F),0) else ([],(rankR F).2.2)
def RetIntsC (w:World) (r:List Int × Int) (e:Ending) (w':World):Prop :=
 ∃ A c,e = .returned (.tuple #[.slice A r.1.length c,.int .i64 r.2]) ∧ r.1.length ≤ c ∧ Sl w' (fun b => w.heap.size ≤ b ∧ b < w'.heap.size) 1 RInt A r.1.length r.1 ∧ Below w.heap.size w w'
end Go.Proofs.YtbhkpepinogigaaGreat
/- The reference FieldOrder. -/
namespace Go.Proofs.YtbhkpepinogigaaGreat
open Go.RowKit

def lvlTo (O:Nat → Int) (lev i:Nat):List Nat:=(List.range i).filter fun i => O i == (lev:Int)
end Go.Proofs.YtbhkpepinogigaaGreat
/- What hangs on a field: plain laws. No program text is walked here. -/
namespace Go.Proofs.YtbhkpepinogigaaGreat

def hgK (nd:List (List Nat)) (a:Nat):Nat → Nat → Bool
 | 0,i => i == a
 | k + 1,i => i == a || (ndAt nd i).any (hgK nd a k)
def hangs (nd:List (List Nat)) (a N i:Nat):Bool:=hgK nd a N i
def metJ (nd:List (List Nat)) (a N:Nat) (ord:List Nat) (j i:Nat):Bool:=i == a || ((ord.take j).any (fun x => x == i) && hangs nd a N i)
def hangsL (nd:List (List Nat)) (a N:Nat):List Nat:=(List.range N).filter (hangs nd a N)
end Go.Proofs.YtbhkpepinogigaaGreat
