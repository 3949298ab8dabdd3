/- whole.Oracle and the reference OracleFault. -/
import Derived.Test.YtbhkpepinogigaaGreatAsk
import Derived.Test.YtbhkpepinogigaaGreatFCk
--TRYSZ (some lists of worlds name one that is not there)
namespace Go.Proofs.YtbhkpepinogigaaGreat
open Go.RowKit

def sameKey (x z:Fct):Bool:=z.name.toList == x.name.toList && valEq z.key x.key
def good (fl:List Fld) (x:Fct) (y:Fld):Bool:=valKnown x.key && (x.key.k == (tyRes fl y.source).1 && (valCheck x.has == 0 && (x.has.k == y.type || x.has.k == 5)))
def orStep (fl:List Fld) (l:List Fct) (i:Nat):Int:=match l[i]? with
 | none => 0
 | some x => match fl[firstAt (hasName x.name) fl]? with
  | none => 5
  | some y => if y.kind = 3 then (if good fl x y then (if (l.take i).any (sameKey x) then 6 else 0) else 9) else 2
def oracleErr (fl:List Fld) (l:List Fct):Int:=firstErr (orStep fl l) l.length
end Go.Proofs.YtbhkpepinogigaaGreat
