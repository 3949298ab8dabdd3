/- A slice of bytes as a text. -/
import Derived.Test.YtldbpmlgbbomcaaGreatDoorShow
import Derived.Laws.IdiomStrings
namespace Go.Proofs.YtldbpmlgbbomcaaGreatDoor
open Go.RowKit

theorem Tryz.infoByte:(Tryz.prog.info? 5).map (fun i => (i.zero,i.size,i.bytes)) = some (some (.int .u8 0),1,1):=by kernel_rfl
def bv (b:UInt8):Value:=.int .u8 b.toNat
theorem bytes_out (w:World) (base:Nat) (v:Value) (l:List UInt8) (h:w.ownsRow base 5 1 v l.length (l.map bv)):(convert 111 9 v).run Tryz.prog w = .ok (.string (ofL l)) w:=by
 rcases h.2 with ⟨rfl,h0⟩ | ⟨g,cap,cur,rfl,_,hg,_⟩
 ·have:l = []:=List.eq_nil_of_length_eq_zero h0
  subst this
  have:=run_convert_bytes_string (P:=Tryz.prog) w 111 9 5 none 0 0 Tryz.underlying111 Tryz.underlying5 Tryz.underlying9
  rw [this]
  rfl
 ·refine run_convert_bytes_back (P:=Tryz.prog) w 111 9 5 ⟨g,0,none⟩ cap l Tryz.underlying111 Tryz.underlying5 Tryz.underlying9 fun j hj => ?_
  exact h.cells rfl j _ (by simp [hj,bv])
end Go.Proofs.YtldbpmlgbbomcaaGreatDoor
