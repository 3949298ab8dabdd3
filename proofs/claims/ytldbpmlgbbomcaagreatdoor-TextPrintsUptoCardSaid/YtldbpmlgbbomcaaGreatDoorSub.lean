/- submit.Text and the reference RecordText: a record, line by line. (printed by mksub.py) -/
import Derived.Test.YtldbpmlgbbomcaaGreatDoorShow
import Derived.Test.YtldbpmlgbbomcaaGreatDoorNamP
import Derived.Test.YtldbpmlgbbomcaaGreatDoorSamf
namespace Go.Proofs.YtldbpmlgbbomcaaGreatDoor
open Go.RowKit

def factErr (l:List Fct) (k:Nat):Int:=match l[k]? with | some x => valCheck x.has | none => 0
def textErr (l:List Fct):Int:=firstErr (factErr l) l.length
def lineTx (x:Fct):ByteArray:=x.name ++ ⟨#[58,32]⟩ ++ showV x.has
def textR (l:List Fct):List ByteArray × Int:=if textErr l = 0 then (l.map lineTx,0) else ([],textErr l)
theorem showV_len {v:Val} (h:v.wf):(showV v).size ≤ 82:=by
 unfold showV
 split
 ·rename_i hc
  have hk:=valCheck_kind hc
  have hin:=itoa_in h
  have hil:=Lib.itoa_length_le v.n hin.1 hin.2
  have h5:v.k = 3 → v.s.size ≤ 40:=fun h3 => by
   have h:=hc
   unfold valCheck at h
   rw [h3] at h
   simp only [show ¬ ((3:Int) = 1) by decide,show ¬ ((3:Int) = 2) by decide,if_false,if_true] at h
   split at h
   ·unfold textCheck at h
    split at h
    ·cases h
    ·omega
   ·cases h
  have he:=escL_len v.s.data.toList
  have hd:v.s.data.toList.length = v.s.size:=by simp
  have hlen:(showL v).length ≤ 82:=by
   unfold showL
   split
   ·omega
   split
   ·unfold Lib.formatBool;split <;> decide
   split
   ·have:=h5 (by assumption)
    simp;omega
   split
   ·decide
   ·simp;omega
  show (showL v).toArray.size ≤ 82
  simpa using hlen
 ·decide


end Go.Proofs.YtldbpmlgbbomcaaGreatDoor
