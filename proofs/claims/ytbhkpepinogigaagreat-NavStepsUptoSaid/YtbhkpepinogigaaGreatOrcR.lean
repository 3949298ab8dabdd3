/- The reference OracleFault. -/
import Derived.Test.YtbhkpepinogigaaGreatOrc
--TRYSZ (some lists of worlds name one that is not there)
namespace Go.Proofs.YtbhkpepinogigaaGreat
open Go.RowKit

end Go.Proofs.YtbhkpepinogigaaGreat
