/- What is wrong with a formula. -/
import Derived.Test.YtgmcojnhpedpnaaGreatPrt
namespace Go.Proofs.YtgmcojnhpedpnaaGreat
open Go.RowKit

def exprErr (x : Exp) : Int := if 60 < szN x then 1 else if 12 < dpN x then 4 else prtN x
end Go.Proofs.YtgmcojnhpedpnaaGreat
