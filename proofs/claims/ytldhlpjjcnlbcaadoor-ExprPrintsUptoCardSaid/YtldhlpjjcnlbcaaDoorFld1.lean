/- field.Find, field.Told and the references FieldAt, FieldTold. -/
import Derived.Test.YtldhlpjjcnlbcaaDoorTypes
import Derived.Test.YtldhlpjjcnlbcaaDoorVal
import Derived.Deep.QuietTactic
import Derived.BigQuiet
namespace Go.Proofs.YtldhlpjjcnlbcaaDoor
open Go.RowKit

def hasName (name:ByteArray) (f:Fld):Bool:=f.name.toList == name.toList
def fieldAt (l:List Fld) (name:ByteArray):Nat:=firstAt (hasName name) l

def findRes (p:Fld → Bool) (l:List Fld):Int × Int:=if l.any p then ((firstAt p l:Int),0) else (0,5)

def fieldTold (l:List Fld) (name:ByteArray) (v:Val):Int :=
 match l.find? (hasName name) with
 | none => 5
 | some f => if f.kind = 1 then if valKnown v = true ∧ v.k = f.type then 0 else 9 else 2

end Go.Proofs.YtldhlpjjcnlbcaaDoor
