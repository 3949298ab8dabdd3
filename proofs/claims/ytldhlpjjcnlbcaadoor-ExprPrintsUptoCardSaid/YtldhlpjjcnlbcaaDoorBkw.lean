/- slices.Backward over fields, and typing.types, which fills a map by it. -/
import Derived.Test.YtldhlpjjcnlbcaaDoorTypes
import Derived.RangeFuncNested
import Derived.RangeFuncBound
import Derived.RangeFuncCalls
import Derived.RangeFuncLeaves
import Derived.RangeFuncBox
import Derived.Shelf.Abstract
import Derived.Shelf.RegionOpen
import Derived.OwnWalkIn
import Derived.TacticsInMore
import Derived.LoopNIn
import Derived.LoopIn
import Derived.StringKeys
namespace Go.Proofs.YtldhlpjjcnlbcaaDoor
open Go.RowKit Go.Shelf Go.Maps

attribute [local go_sem] Oper.semAt_some

abbrev FIt:={ p:Nat × Fld × Option Addr × Nat // inS p.2.1.name }
abbrev Fld.agg (f:Fld) (X:Option Addr) (C:Nat):Value:=.agg #[.string f.name,.int .i64 f.kind,.int .i64 f.type,.int .i64 f.source.op,.int .i64 f.source.v.k,.int .i64 f.source.v.n,.string f.source.v.s,.string f.source.name,.slice X f.source.args.length C]
abbrev encF (x:FIt):Array Value:=#[.int .i64 (x.1.1:Int),.agg #[.string x.1.2.1.name,.int .i64 x.1.2.1.kind,.int .i64 x.1.2.1.type,.int .i64 x.1.2.1.source.op,.int .i64 x.1.2.1.source.v.k,.int .i64 x.1.2.1.source.v.n,.string x.1.2.1.source.v.s,.string x.1.2.1.source.name,.slice x.1.2.2.1 x.1.2.1.source.args.length x.1.2.2.2]]
def Kb (n₀ Bs:Nat) (A B:World):Prop:=∀ k,k < n₀ ∨ k = Bs → B.heap[k]? = A.heap[k]?
theorem Kb.trans {n₀ Bs:Nat} {A B C:World} (h:Kb n₀ Bs A B) (k:Kb n₀ Bs B C):Kb n₀ Bs A C:=fun i hi => (k i hi).trans (h i hi)
def fldsOf (l:List FIt):List Fld:=l.map (·.1.2.1)

def typeMap (l:List Fld):Lit → Option Value:=l.foldl (fun f x => putAt f (.string x.name.data.toList) (.int .i64 x.type)) (fun _ => none)
theorem typeMap_snoc (l:List Fld) (x:Fld):typeMap (l ++ [x]) = putAt (typeMap l) (.string x.name.data.toList) (.int .i64 x.type):=by simp [typeMap]
theorem Tryd.keyStr (s:ByteArray) (h:inS s):keyOf Tryd.prog 9 (.string s) = some (.string s.data.toList):=WideMaps.keyOf_string_mk Tryd.underlying9 (inS_max h)

end Go.Proofs.YtldhlpjjcnlbcaaDoor
