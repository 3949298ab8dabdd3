/- What is wrong with a formula. -/
import Derived.Test.YtgmcojnhpedpnaaPrt
namespace Go.Proofs.Ytgmcojnhpedpnaa
open Go.RowKit

def exprErr (x : Exp) : Int := if 60 < szN x then 1 else if 12 < dpN x then 4 else prtN x
end Go.Proofs.Ytgmcojnhpedpnaa
