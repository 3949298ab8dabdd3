/- From a row's list and the world's shape to what the library's contracts ask. -/
import Derived.Test.YtnmodemdfclkpaaDoorCardKit
import Derived.Test.YtnmodemdfclkpaaDoorShow
namespace Go.Proofs.YtnmodemdfclkpaaDoor
open Go.ChangeShapes Go.WideShapes Go.ChangeAt Go.RowKit

theorem pow_data:(Rows.laid_internal_strconv_uint64pow10:DataW Unit) = Lib.tabData .u64 Lib.pow10Tab:=by kernel_rfl
end Go.Proofs.YtnmodemdfclkpaaDoor
