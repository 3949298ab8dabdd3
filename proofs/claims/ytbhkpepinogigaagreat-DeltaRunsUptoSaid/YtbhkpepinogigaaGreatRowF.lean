/- Rows of facts: slices.Clone, Equal. -/
import Derived.Test.YtbhkpepinogigaaGreatTypes
namespace Go.Proofs.YtbhkpepinogigaaGreat
open Go.RowKit

theorem Tryz.infoFct:(Tryz.prog.info? 109).map (fun i => (i.zero,i.size,i.bytes)) = some (some (.agg #[.string ⟨#[]⟩,.int .i64 0,.int .i64 0,.string ⟨#[]⟩,.int .i64 0,.int .i64 0,.string ⟨#[]⟩]),7,80):=by kernel_rfl
theorem lenFct (x:Fct):x.cs.length = 7:=rfl
theorem ownFct {w:World} {base:Nat} {e:TypeId} {v:Value} {n:Nat} {l:List Fct} (h:w.ownsRow base e 7 v n (l.flatMap Fct.cs)) (hl:l.length = n) (hw:∀ a ∈ l,a.wf) :
  ∃ A c,v = .slice A n c ∧ n ≤ c ∧ Sl w (old w) 7 RFct A n l:=own_slw Fct.cs Fct.wf lenFct h hl hw
def fctEqR (x y:Fct):Bool:=(x.name.toList == y.name.toList && (x.key.k == y.key.k && (x.key.n == y.key.n && (x.key.s.toList == y.key.s.toList && (x.has.k == y.has.k && (x.has.n == y.has.n && (x.has.s.toList == y.has.s.toList)))))))
end Go.Proofs.YtbhkpepinogigaaGreat
