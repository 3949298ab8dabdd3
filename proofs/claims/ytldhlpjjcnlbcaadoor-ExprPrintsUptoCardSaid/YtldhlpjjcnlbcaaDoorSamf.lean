/- Texts merged: Sam Same1 Sam2 Samf. -/
import Derived.Test.YtldhlpjjcnlbcaaDoorPrt3
import Derived.Test.YtldhlpjjcnlbcaaDoorTypes
import Derived.Test.YtldhlpjjcnlbcaaDoorNum
import Derived.Test.YtldhlpjjcnlbcaaDoorPag2
import Derived.Test.YtldhlpjjcnlbcaaDoorRig
/- sameExpr: true of a formula and its like. -/
namespace Go.Proofs.YtldhlpjjcnlbcaaDoor
open Go.RowKit

abbrev Exp.cells (x:Exp) (A:Option Addr) (c:Nat):List Value:=[.int .i64 x.op,.int .i64 x.v.k,.int .i64 x.v.n,.string x.v.s,.string x.name,.slice A x.args.length c]
end Go.Proofs.YtldhlpjjcnlbcaaDoor
/- slices.Equal over texts, and sameTexts: two slices that read as one list are the same. -/
namespace Go.Proofs.YtldhlpjjcnlbcaaDoor
open Go.RowKit

theorem Str_at' {w:World} {S:Nat → Prop} {A:Option Addr} {n k:Nat} {l:List ByteArray} (h:Sl w S 1 (fun cs s => cs = [Value.string s]) A n l) (hk:k < n) :
  ∃ b o c,A = some ⟨b,o,none⟩ ∧ S b ∧ l[k]? = some c ∧ w.cell? ⟨b,o + k,none⟩ = some (.string c):=by
 obtain ⟨b,o,c,cs,rfl,hs,hl,rfl,_,hc⟩:=h.at_ hk
 have h0:=hc 0 (by decide)
 rw [Nat.mul_one] at h0
 exact ⟨b,o,c,rfl,hs,hl,h0⟩

end Go.Proofs.YtldhlpjjcnlbcaaDoor
/- samePages: true of pages and their like. -/
namespace Go.Proofs.YtldhlpjjcnlbcaaDoor
open Go.RowKit

theorem Sl.strOf {w:World} {S:Nat → Prop} {A:Option Addr} {n:Nat} {l:List ByteArray} (h:Sl w S 1 RStr A n l):Sl w S 1 (fun cs s => cs = [Value.string s]) A n l :=
 h.keep (fun _ _ => rfl) (fun _ _ h => h.1)
abbrev Pag.cells (p:Pag) (Y:Option Addr) (D:Nat) (X:Option Addr) (C:Nat):List Value:=[.string p.name,.slice Y p.fields.length D,.int .i64 p.skip.op,.int .i64 p.skip.v.k,.int .i64 p.skip.v.n,.string p.skip.v.s,.string p.skip.name,.slice X p.skip.args.length C]
end Go.Proofs.YtldhlpjjcnlbcaaDoor
/- sameFields: true of fields and their like. -/
namespace Go.Proofs.YtldhlpjjcnlbcaaDoor
open Go.RowKit

end Go.Proofs.YtldhlpjjcnlbcaaDoor
