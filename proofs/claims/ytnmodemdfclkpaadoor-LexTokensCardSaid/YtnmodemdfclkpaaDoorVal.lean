/- Values: value.Check, value.Known, value.Zero and the references of the same. -/
import Derived.Test.YtnmodemdfclkpaaDoorTypes
import Derived.Test.YtnmodemdfclkpaaDoorNum
import Derived.Deep.QuietTactic
import Derived.BigQuiet
namespace Go.Proofs.YtnmodemdfclkpaaDoor
open Go.RowKit

def okByte (c:UInt8):Bool:=decide (32 ≤ (c.toNat:Int)) && decide ((c.toNat:Int) ≤ 126)
def textCheck (s:ByteArray):Int:=if 40 < s.size then 1 else if s.data.toList.all okByte then 0 else 3
def emptyCheck (s:ByteArray):Int:=if s.toList.isEmpty then 0 else 3
def valCheck (v:Val):Int :=
 if v.k = 1 then (if numCheck v.n = 0 then emptyCheck v.s else 7)
 else if v.k = 2 then (if v.n = 0 ∨ v.n = 1 then emptyCheck v.s else 4)
 else if v.k = 3 then (if v.n = 0 then textCheck v.s else 4)
 else if v.k = 4 then (if v.n = 0 then emptyCheck v.s else 4)
 else if v.k = 5 then (if v.n < 1 ∨ 15 < v.n then 4 else emptyCheck v.s)
 else 2
def valKnown (v:Val):Bool:=decide (1 ≤ v.k) && decide (v.k ≤ 3) && decide (valCheck v = 0)

theorem emptyCheck_t {s:ByteArray} (h:(!s.toList.isEmpty) = true):emptyCheck s = 3:=by
 unfold emptyCheck;rw [if_neg (by simpa using h)]
theorem emptyCheck_f {s:ByteArray} (h:(!s.toList.isEmpty) = false):emptyCheck s = 0:=by
 unfold emptyCheck;rw [if_pos (by simpa using h)]

theorem emptyCheck_or (s:ByteArray):emptyCheck s = 0 ∨ emptyCheck s = 3:=by unfold emptyCheck;split <;> simp
theorem textCheck_or (s:ByteArray):textCheck s = 0 ∨ textCheck s = 1 ∨ textCheck s = 3:=by unfold textCheck;split <;> (try split) <;> simp
theorem valCheck_kind {v:Val} (h:valCheck v = 0):1 ≤ v.k ∧ v.k ≤ 5:=by
 unfold valCheck at h
 repeat' split at h
 all_goals first | omega | (exfalso;omega)
theorem valKnown_iff (v:Val):valKnown v = true ↔ 1 ≤ v.k ∧ v.k ≤ 3 ∧ valCheck v = 0:=by simp [valKnown,and_assoc]
theorem valKnown_iff' (v:Val):valKnown v = true ↔ valCheck v = 0 ∧ v.k < 4:=by
 rw [valKnown_iff]
 exact ⟨fun ⟨a,b,c⟩ => ⟨c,by omega⟩,fun ⟨a,b⟩ => ⟨(valCheck_kind a).1,by omega,a⟩⟩

def noVal:Val:=⟨0,0,⟨#[]⟩⟩
def valZero (k:Int):Val × Int:=if k < 1 ∨ 3 < k then (noVal,2) else (⟨k,0,⟨#[]⟩⟩,0)

end Go.Proofs.YtnmodemdfclkpaaDoor
