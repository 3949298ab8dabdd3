/- Texts merged: Sam Same1 Sam2 Samf. -/
import Derived.Test.YtbhkpepinogigaaGreatPrt3
import Derived.Test.YtbhkpepinogigaaGreatTypes
import Derived.Test.YtbhkpepinogigaaGreatNum
import Derived.Test.YtbhkpepinogigaaGreatPag2
import Derived.Test.YtbhkpepinogigaaGreatRig
/- sameExpr: true of a formula and its like. -/
namespace Go.Proofs.YtbhkpepinogigaaGreat
open Go.RowKit

abbrev Exp.cells (x:Exp) (A:Option Addr) (c:Nat):List Value:=[.int .i64 x.op,.int .i64 x.v.k,.int .i64 x.v.n,.string x.v.s,.string x.name,.slice A x.args.length c]
end Go.Proofs.YtbhkpepinogigaaGreat
/- slices.Equal over texts, and sameTexts: two slices that read as one list are the same. -/
namespace Go.Proofs.YtbhkpepinogigaaGreat
open Go.RowKit

end Go.Proofs.YtbhkpepinogigaaGreat
/- samePages: true of pages and their like. -/
namespace Go.Proofs.YtbhkpepinogigaaGreat
open Go.RowKit

theorem Sl.strOf {w:World} {S:Nat → Prop} {A:Option Addr} {n:Nat} {l:List ByteArray} (h:Sl w S 1 RStr A n l):Sl w S 1 (fun cs s => cs = [Value.string s]) A n l :=
 h.keep (fun _ _ => rfl) (fun _ _ h => h.1)
abbrev Pag.cells (p:Pag) (Y:Option Addr) (D:Nat) (X:Option Addr) (C:Nat):List Value:=[.string p.name,.slice Y p.fields.length D,.int .i64 p.skip.op,.int .i64 p.skip.v.k,.int .i64 p.skip.v.n,.string p.skip.v.s,.string p.skip.name,.slice X p.skip.args.length C]
end Go.Proofs.YtbhkpepinogigaaGreat
/- sameFields: true of fields and their like. -/
namespace Go.Proofs.YtbhkpepinogigaaGreat
open Go.RowKit

end Go.Proofs.YtbhkpepinogigaaGreat
