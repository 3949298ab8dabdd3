/- A slice of bytes as a text. -/
import Derived.Test.YtnmodemdfclkpaaDoorShow
import Derived.Laws.IdiomStrings
namespace Go.Proofs.YtnmodemdfclkpaaDoor
open Go.RowKit

theorem Tryd.infoByte:(Tryd.prog.info? 5).map (fun i => (i.zero,i.size,i.bytes)) = some (some (.int .u8 0),1,1):=by kernel_rfl
def bv (b:UInt8):Value:=.int .u8 b.toNat
theorem bytes_out (w:World) (base:Nat) (v:Value) (l:List UInt8) (h:w.ownsRow base 5 1 v l.length (l.map bv)):(convert 44 9 v).run Tryd.prog w = .ok (.string (ofL l)) w:=by
 rcases h.2 with ⟨rfl,h0⟩ | ⟨g,cap,cur,rfl,_,hg,_⟩
 ·have:l = []:=List.eq_nil_of_length_eq_zero h0
  subst this
  have:=run_convert_bytes_string (P:=Tryd.prog) w 44 9 5 none 0 0 Tryd.underlying44 Tryd.underlying5 Tryd.underlying9
  rw [this]
  rfl
 ·refine run_convert_bytes_back (P:=Tryd.prog) w 44 9 5 ⟨g,0,none⟩ cap l Tryd.underlying44 Tryd.underlying5 Tryd.underlying9 fun j hj => ?_
  exact h.cells rfl j _ (by simp [hj,bv])
end Go.Proofs.YtnmodemdfclkpaaDoor
