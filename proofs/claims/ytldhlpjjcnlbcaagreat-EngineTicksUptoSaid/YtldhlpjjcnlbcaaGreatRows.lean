/-
  NARROWER THAN 'FOR EVERY INPUT', by the rows' own cells (each row's printed sentence says how): EngineBegins: loops · EngineChecks: loops · EngineTells: loops · EngineHears: loops · EngineTicks: loops.
  DERIVED. THE GIVEN ROWS OF THIS SEAT. 5 by the template 'for every input the law returns true; each argument reads behind the call as it read before'; 0 by the template 'total and deterministic' (their statements: YtldhlpjjcnlbcaaGreatTotals.lean).
  GIVEN WITH THE SEED: the statements are not yours to turn. If you find one false, say at which input.
  Laid BY PROGRAM, IN A SANDBOX (cutbox-rows.mjs): the forced cells as the released guide's own fill.sh prints them over the translation a3df78efac1fd5e2… (all of the seat's roots in one cut). By AI agents, Wed Nov 11 2026. No macro, syntax, notation, axiom, sorry.
-/
import Derived.Test.YtldhlpjjcnlbcaaGreatChecked
import GoSem.Claim
import GoSem.ClaimJoined
import GoSem.ClaimMapViews
import Derived.JoinedTies
import Derived.KernelRfl
namespace Go.Proofs.YtldhlpjjcnlbcaaGreat
/- THE CELL 'sum', in the pinned program and in every row, IS THE sha256 OF THE DUMP (.gsa) THAT YtldhlpjjcnlbcaaGreatProg.lean LOADS. Nothing in Lean hashes anything: it is a label: what it is worth is what the hold of that sum in a sandbox is worth. -/
noncomputable def Tryz.pinned : Pinned := { name := "ytldhlpjjcnlbcaagreat", sum := "a3df78efac1fd5e23297e69edc187e9f24138dfbfc83e98526563b097fb681a3", checked := Tryz.checked }
namespace Rows
def none {H : Type} : Left H := { results := [], args := [] }

/-- 'lychwaylaw.EngineBegins': WHATEVER THE INPUT: true; the input reads as it did. -/
def engineBeginsSpec : ChangeSpec := { name := "engineBegins", fn := fun _ => fun
  | [d1, d2] => { results := [.lit (.bool true)], args := [d1, d2] }
  | _ => none }
def engineBeginsRow : OpenClaim := { program := "ytldhlpjjcnlbcaagreat", sum := "a3df78efac1fd5e23297e69edc187e9f24138dfbfc83e98526563b097fb681a3", func := "lychway/lychwaylaw.EngineBegins", spec := "engineBegins", unfollowed := true, recurses := true, loops := true, apart := false }
def EngineBeginsSaid : Prop := engineBeginsRow.holds Tryz.pinned (OpenSpec.ofChange engineBeginsSpec)

/-- ITS FALSE NEIGHBOUR: 'it returns false'. Refute it at one input. -/
def engineBeginsWrong : ChangeSpec := { name := "engineBegins", fn := fun _ => fun
  | [d1, d2] => { results := [.lit (.bool false)], args := [d1, d2] }
  | _ => none }
def EngineBeginsWrongFalsely : Prop := engineBeginsRow.holds Tryz.pinned (OpenSpec.ofChange engineBeginsWrong)

/-- 'lychwaylaw.EngineChecks': WHATEVER THE INPUT: true; the input reads as it did. -/
def engineChecksSpec : ChangeSpec := { name := "engineChecks", fn := fun _ => fun
  | [d] => { results := [.lit (.bool true)], args := [d] }
  | _ => none }
def engineChecksRow : OpenClaim := { program := "ytldhlpjjcnlbcaagreat", sum := "a3df78efac1fd5e23297e69edc187e9f24138dfbfc83e98526563b097fb681a3", func := "lychway/lychwaylaw.EngineChecks", spec := "engineChecks", unfollowed := true, recurses := true, loops := true, apart := false }
def EngineChecksSaid : Prop := engineChecksRow.holds Tryz.pinned (OpenSpec.ofChange engineChecksSpec)

/-- ITS FALSE NEIGHBOUR: 'it returns false'. Refute it at one input. -/
def engineChecksWrong : ChangeSpec := { name := "engineChecks", fn := fun _ => fun
  | [d] => { results := [.lit (.bool false)], args := [d] }
  | _ => none }
def EngineChecksWrongFalsely : Prop := engineChecksRow.holds Tryz.pinned (OpenSpec.ofChange engineChecksWrong)

/-- 'lychwaylaw.EngineTells': WHATEVER THE INPUT: true; the input reads as it did. -/
def engineTellsSpec : ChangeSpec := { name := "engineTells", fn := fun _ => fun
  | [d1, d2, d3] => { results := [.lit (.bool true)], args := [d1, d2, d3] }
  | _ => none }
def engineTellsRow : OpenClaim := { program := "ytldhlpjjcnlbcaagreat", sum := "a3df78efac1fd5e23297e69edc187e9f24138dfbfc83e98526563b097fb681a3", func := "lychway/lychwaylaw.EngineTells", spec := "engineTells", unfollowed := true, recurses := true, loops := true, apart := false }
def EngineTellsSaid : Prop := engineTellsRow.holds Tryz.pinned (OpenSpec.ofChange engineTellsSpec)

/-- ITS FALSE NEIGHBOUR: 'it returns false'. Refute it at one input. -/
def engineTellsWrong : ChangeSpec := { name := "engineTells", fn := fun _ => fun
  | [d1, d2, d3] => { results := [.lit (.bool false)], args := [d1, d2, d3] }
  | _ => none }
def EngineTellsWrongFalsely : Prop := engineTellsRow.holds Tryz.pinned (OpenSpec.ofChange engineTellsWrong)

/-- 'lychwaylaw.EngineHears': WHATEVER THE INPUT: true; the input reads as it did. -/
def engineHearsSpec : ChangeSpec := { name := "engineHears", fn := fun _ => fun
  | [d1, d2] => { results := [.lit (.bool true)], args := [d1, d2] }
  | _ => none }
def engineHearsRow : OpenClaim := { program := "ytldhlpjjcnlbcaagreat", sum := "a3df78efac1fd5e23297e69edc187e9f24138dfbfc83e98526563b097fb681a3", func := "lychway/lychwaylaw.EngineHears", spec := "engineHears", unfollowed := true, recurses := true, loops := true, apart := false }
def EngineHearsSaid : Prop := engineHearsRow.holds Tryz.pinned (OpenSpec.ofChange engineHearsSpec)

/-- ITS FALSE NEIGHBOUR: 'it returns false'. Refute it at one input. -/
def engineHearsWrong : ChangeSpec := { name := "engineHears", fn := fun _ => fun
  | [d1, d2] => { results := [.lit (.bool false)], args := [d1, d2] }
  | _ => none }
def EngineHearsWrongFalsely : Prop := engineHearsRow.holds Tryz.pinned (OpenSpec.ofChange engineHearsWrong)

/-- 'lychwaylaw.EngineTicks': WHATEVER THE INPUT: true; the input reads as it did. -/
def engineTicksSpec : ChangeSpec := { name := "engineTicks", fn := fun _ => fun
  | [d1, d2] => { results := [.lit (.bool true)], args := [d1, d2] }
  | _ => none }
def engineTicksRow : OpenClaim := { program := "ytldhlpjjcnlbcaagreat", sum := "a3df78efac1fd5e23297e69edc187e9f24138dfbfc83e98526563b097fb681a3", func := "lychway/lychwaylaw.EngineTicks", spec := "engineTicks", unfollowed := true, recurses := true, loops := true, apart := false }
def EngineTicksSaid : Prop := engineTicksRow.holds Tryz.pinned (OpenSpec.ofChange engineTicksSpec)

/-- ITS FALSE NEIGHBOUR: 'it returns false'. Refute it at one input. -/
def engineTicksWrong : ChangeSpec := { name := "engineTicks", fn := fun _ => fun
  | [d1, d2] => { results := [.lit (.bool false)], args := [d1, d2] }
  | _ => none }
def EngineTicksWrongFalsely : Prop := engineTicksRow.holds Tryz.pinned (OpenSpec.ofChange engineTicksWrong)

/- THE SECOND FORM. 'bulk': how many values and letters a reading holds, each counted each time it is reached (what is shared counts as often as it is met; a slice's spare places count too). A statement '..UptoSaid' is the law's where the arguments, and the package variables that the reading takes, are together of bulk at most 1048576: NARROWER than '..Said'. Prove '..Said' where nothing that the law and all that it calls make is longer than what came in: it says more and counts as full. Else prove '..UptoSaid'. A law counts once. -/
mutual
def uptoBulk {H : Type} : DataW H → Nat
  | .lit (.string bytes) => bytes.length + 1
  | .lit _ => 1
  | .nil => 1
  | .ptr d => uptoBulk d + 1
  | .slice elems spare => uptoBulkAll elems + uptoBulkAll spare + 1
  | .agg parts => uptoBulkAll parts + 1
  | .iface _ d => uptoBulk d + 1
  | .map entries => uptoBulkEntries entries + 1
  | .held _ => 1
def uptoBulkAll {H : Type} : List (DataW H) → Nat
  | [] => 0
  | d :: r => uptoBulk d + uptoBulkAll r
def uptoBulkEntries {H : Type} : List (Lit × DataW H) → Nat
  | [] => 0
  | x :: r => uptoBulkEntry x + uptoBulkEntries r
def uptoBulkEntry {H : Type} : Lit × DataW H → Nat
  | (.string bytes, d) => bytes.length + uptoBulk d + 1
  | (_, d) => uptoBulk d + 1
 end
def uptoSmall : (H : Type) → List (DataW H) → Bool := fun _ ds => decide (uptoBulkAll ds ≤ 1048576)
def OpenSpec.upto (s : _root_.Go.ChangeSpec) : _root_.Go.OpenSpec := { _root_.Go.OpenSpec.ofChange s with cond := some uptoSmall }

/-- 'lychwaylaw.EngineBegins', WHERE WHAT IT READS IS OF BULK AT MOST 1048576: true; the input reads as it did. -/
def engineBeginsUptoRow : OpenClaim := { program := "ytldhlpjjcnlbcaagreat", sum := "a3df78efac1fd5e23297e69edc187e9f24138dfbfc83e98526563b097fb681a3", func := "lychway/lychwaylaw.EngineBegins", spec := "engineBegins", unfollowed := true, recurses := true, loops := true, apart := false, narrowed := true }
def EngineBeginsUptoSaid : Prop := engineBeginsUptoRow.holds Tryz.pinned (OpenSpec.upto engineBeginsSpec)

/-- 'lychwaylaw.EngineChecks', WHERE WHAT IT READS IS OF BULK AT MOST 1048576: true; the input reads as it did. -/
def engineChecksUptoRow : OpenClaim := { program := "ytldhlpjjcnlbcaagreat", sum := "a3df78efac1fd5e23297e69edc187e9f24138dfbfc83e98526563b097fb681a3", func := "lychway/lychwaylaw.EngineChecks", spec := "engineChecks", unfollowed := true, recurses := true, loops := true, apart := false, narrowed := true }
def EngineChecksUptoSaid : Prop := engineChecksUptoRow.holds Tryz.pinned (OpenSpec.upto engineChecksSpec)

/-- 'lychwaylaw.EngineTells', WHERE WHAT IT READS IS OF BULK AT MOST 1048576: true; the input reads as it did. -/
def engineTellsUptoRow : OpenClaim := { program := "ytldhlpjjcnlbcaagreat", sum := "a3df78efac1fd5e23297e69edc187e9f24138dfbfc83e98526563b097fb681a3", func := "lychway/lychwaylaw.EngineTells", spec := "engineTells", unfollowed := true, recurses := true, loops := true, apart := false, narrowed := true }
def EngineTellsUptoSaid : Prop := engineTellsUptoRow.holds Tryz.pinned (OpenSpec.upto engineTellsSpec)

/-- 'lychwaylaw.EngineHears', WHERE WHAT IT READS IS OF BULK AT MOST 1048576: true; the input reads as it did. -/
def engineHearsUptoRow : OpenClaim := { program := "ytldhlpjjcnlbcaagreat", sum := "a3df78efac1fd5e23297e69edc187e9f24138dfbfc83e98526563b097fb681a3", func := "lychway/lychwaylaw.EngineHears", spec := "engineHears", unfollowed := true, recurses := true, loops := true, apart := false, narrowed := true }
def EngineHearsUptoSaid : Prop := engineHearsUptoRow.holds Tryz.pinned (OpenSpec.upto engineHearsSpec)

/-- 'lychwaylaw.EngineTicks', WHERE WHAT IT READS IS OF BULK AT MOST 1048576: true; the input reads as it did. -/
def engineTicksUptoRow : OpenClaim := { program := "ytldhlpjjcnlbcaagreat", sum := "a3df78efac1fd5e23297e69edc187e9f24138dfbfc83e98526563b097fb681a3", func := "lychway/lychwaylaw.EngineTicks", spec := "engineTicks", unfollowed := true, recurses := true, loops := true, apart := false, narrowed := true }
def EngineTicksUptoSaid : Prop := engineTicksUptoRow.holds Tryz.pinned (OpenSpec.upto engineTicksSpec)

end Rows
end Go.Proofs.YtldhlpjjcnlbcaaGreat
