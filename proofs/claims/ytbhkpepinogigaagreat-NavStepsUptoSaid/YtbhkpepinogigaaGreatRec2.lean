/- The reference RecordOf. -/
import Derived.Test.YtbhkpepinogigaaGreatNavP
import Derived.Test.YtbhkpepinogigaaGreatRowF
import Derived.Test.YtbhkpepinogigaaGreatNav2
import Derived.Test.YtbhkpepinogigaaGreatFrm
namespace Go.Proofs.YtbhkpepinogigaaGreat
open Go.RowKit

theorem RVp.noPath {w:World} {Vb Q:Option Addr} {nv cv q cq:Nat} {V:List Val} {p:List Int} (h:RVp w Vb nv cv V Q q cq p):RVp w Vb nv cv V none 0 0 []:=⟨h.1,h.2.1,by unfold inB;omega,Nat.le_refl _,h.2.2.2.2.1,Sl.nil⟩
end Go.Proofs.YtbhkpepinogigaaGreat
