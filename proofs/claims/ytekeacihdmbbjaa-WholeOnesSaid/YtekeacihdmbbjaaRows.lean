/-
  NARROWER THAN 'FOR EVERY INPUT', by the rows' own cells (each row's printed sentence says how): PageFinds: loops · ExprChecks: loops · FieldRights: loops · NamesPuts: loops · TypingTells: loops · WholeOracles: loops · PageChecks: loops · FieldChecks: loops · EvalTells: loops · WholeOnes: loops · NamesTells: loops · RankTells: loops.
  DERIVED. THE GIVEN ROWS OF THIS SEAT. 12 by the template 'for every input the law returns true; each argument reads behind the call as it read before'; 0 by the template 'total and deterministic' (their statements: YtekeacihdmbbjaaTotals.lean).
  GIVEN WITH THE SEED: the statements are not yours to turn. If you find one false, say at which input.
  Laid BY PROGRAM, IN A SANDBOX (cutbox-rows.mjs): the forced cells as the released guide's own fill.sh prints them over the translation 0e08f3b1d08474da… (all of the seat's roots in one cut). By AI agents, Wed Nov 11 2026. No macro, syntax, notation, axiom, sorry.
-/
import Derived.Test.YtekeacihdmbbjaaChecked
import GoSem.Claim
import GoSem.ClaimJoined
import GoSem.ClaimMapViews
import Derived.JoinedTies
import Derived.KernelRfl
namespace Go.Proofs.Ytekeacihdmbbjaa
/- THE CELL 'sum', in the pinned program and in every row, IS THE sha256 OF THE DUMP (.gsa) THAT YtekeacihdmbbjaaProg.lean LOADS. Nothing in Lean hashes anything: it is a label: what it is worth is what the hold of that sum in a sandbox is worth. -/
noncomputable def Try.pinned : Pinned := { name := "ytekeacihdmbbjaa", sum := "0e08f3b1d08474dac0b5b7bbb640d8439f5ad87f23d04354e37ab6a6e278ee2f", checked := Try.checked }
namespace Rows
def none {H : Type} : Left H := { results := [], args := [] }

/-- 'lychwaylaw.PageFinds': WHATEVER THE INPUT: true; the input reads as it did. -/
def pageFindsSpec : ChangeSpec := { name := "pageFinds", fn := fun _ => fun
  | [d1, d2] => { results := [.lit (.bool true)], args := [d1, d2] }
  | _ => none }
def pageFindsRow : OpenClaim := { program := "ytekeacihdmbbjaa", sum := "0e08f3b1d08474dac0b5b7bbb640d8439f5ad87f23d04354e37ab6a6e278ee2f", func := "lychway/lychwaylaw.PageFinds", spec := "pageFinds", unfollowed := true, recurses := true, loops := true, apart := false }
def PageFindsSaid : Prop := pageFindsRow.holds Try.pinned (OpenSpec.ofChange pageFindsSpec)

/-- ITS FALSE NEIGHBOUR: 'it returns false'. Refute it at one input. -/
def pageFindsWrong : ChangeSpec := { name := "pageFinds", fn := fun _ => fun
  | [d1, d2] => { results := [.lit (.bool false)], args := [d1, d2] }
  | _ => none }
def PageFindsWrongFalsely : Prop := pageFindsRow.holds Try.pinned (OpenSpec.ofChange pageFindsWrong)

/-- 'lychwaylaw.ExprChecks': WHATEVER THE INPUT: true; the input reads as it did. -/
def exprChecksSpec : ChangeSpec := { name := "exprChecks", fn := fun _ => fun
  | [d] => { results := [.lit (.bool true)], args := [d] }
  | _ => none }
def exprChecksRow : OpenClaim := { program := "ytekeacihdmbbjaa", sum := "0e08f3b1d08474dac0b5b7bbb640d8439f5ad87f23d04354e37ab6a6e278ee2f", func := "lychway/lychwaylaw.ExprChecks", spec := "exprChecks", unfollowed := true, recurses := true, loops := true, apart := false }
def ExprChecksSaid : Prop := exprChecksRow.holds Try.pinned (OpenSpec.ofChange exprChecksSpec)

/-- ITS FALSE NEIGHBOUR: 'it returns false'. Refute it at one input. -/
def exprChecksWrong : ChangeSpec := { name := "exprChecks", fn := fun _ => fun
  | [d] => { results := [.lit (.bool false)], args := [d] }
  | _ => none }
def ExprChecksWrongFalsely : Prop := exprChecksRow.holds Try.pinned (OpenSpec.ofChange exprChecksWrong)

/-- 'lychwaylaw.FieldRights': WHATEVER THE INPUT: true; the input reads as it did. -/
def fieldRightsSpec : ChangeSpec := { name := "fieldRights", fn := fun _ => fun
  | [d1, d2, d3] => { results := [.lit (.bool true)], args := [d1, d2, d3] }
  | _ => none }
def fieldRightsRow : OpenClaim := { program := "ytekeacihdmbbjaa", sum := "0e08f3b1d08474dac0b5b7bbb640d8439f5ad87f23d04354e37ab6a6e278ee2f", func := "lychway/lychwaylaw.FieldRights", spec := "fieldRights", unfollowed := true, recurses := true, loops := true, apart := false }
def FieldRightsSaid : Prop := fieldRightsRow.holds Try.pinned (OpenSpec.ofChange fieldRightsSpec)

/-- ITS FALSE NEIGHBOUR: 'it returns false'. Refute it at one input. -/
def fieldRightsWrong : ChangeSpec := { name := "fieldRights", fn := fun _ => fun
  | [d1, d2, d3] => { results := [.lit (.bool false)], args := [d1, d2, d3] }
  | _ => none }
def FieldRightsWrongFalsely : Prop := fieldRightsRow.holds Try.pinned (OpenSpec.ofChange fieldRightsWrong)

/-- 'lychwaylaw.NamesPuts': WHATEVER THE INPUT: true; the input reads as it did. -/
def namesPutsSpec : ChangeSpec := { name := "namesPuts", fn := fun _ => fun
  | [d1, d2, d3] => { results := [.lit (.bool true)], args := [d1, d2, d3] }
  | _ => none }
def namesPutsRow : OpenClaim := { program := "ytekeacihdmbbjaa", sum := "0e08f3b1d08474dac0b5b7bbb640d8439f5ad87f23d04354e37ab6a6e278ee2f", func := "lychway/lychwaylaw.NamesPuts", spec := "namesPuts", unfollowed := true, recurses := true, loops := true, apart := false }
def NamesPutsSaid : Prop := namesPutsRow.holds Try.pinned (OpenSpec.ofChange namesPutsSpec)

/-- ITS FALSE NEIGHBOUR: 'it returns false'. Refute it at one input. -/
def namesPutsWrong : ChangeSpec := { name := "namesPuts", fn := fun _ => fun
  | [d1, d2, d3] => { results := [.lit (.bool false)], args := [d1, d2, d3] }
  | _ => none }
def NamesPutsWrongFalsely : Prop := namesPutsRow.holds Try.pinned (OpenSpec.ofChange namesPutsWrong)

/-- 'lychwaylaw.TypingTells': WHATEVER THE INPUT: true; the input reads as it did. -/
def typingTellsSpec : ChangeSpec := { name := "typingTells", fn := fun _ => fun
  | [d1, d2, d3] => { results := [.lit (.bool true)], args := [d1, d2, d3] }
  | _ => none }
def typingTellsRow : OpenClaim := { program := "ytekeacihdmbbjaa", sum := "0e08f3b1d08474dac0b5b7bbb640d8439f5ad87f23d04354e37ab6a6e278ee2f", func := "lychway/lychwaylaw.TypingTells", spec := "typingTells", unfollowed := true, recurses := true, loops := true, apart := false }
def TypingTellsSaid : Prop := typingTellsRow.holds Try.pinned (OpenSpec.ofChange typingTellsSpec)

/-- ITS FALSE NEIGHBOUR: 'it returns false'. Refute it at one input. -/
def typingTellsWrong : ChangeSpec := { name := "typingTells", fn := fun _ => fun
  | [d1, d2, d3] => { results := [.lit (.bool false)], args := [d1, d2, d3] }
  | _ => none }
def TypingTellsWrongFalsely : Prop := typingTellsRow.holds Try.pinned (OpenSpec.ofChange typingTellsWrong)

/-- 'lychwaylaw.WholeOracles': WHATEVER THE INPUT: true; the input reads as it did. -/
def wholeOraclesSpec : ChangeSpec := { name := "wholeOracles", fn := fun _ => fun
  | [d1, d2, d3, d4] => { results := [.lit (.bool true)], args := [d1, d2, d3, d4] }
  | _ => none }
def wholeOraclesRow : OpenClaim := { program := "ytekeacihdmbbjaa", sum := "0e08f3b1d08474dac0b5b7bbb640d8439f5ad87f23d04354e37ab6a6e278ee2f", func := "lychway/lychwaylaw.WholeOracles", spec := "wholeOracles", unfollowed := true, recurses := true, loops := true, apart := false }
def WholeOraclesSaid : Prop := wholeOraclesRow.holds Try.pinned (OpenSpec.ofChange wholeOraclesSpec)

/-- ITS FALSE NEIGHBOUR: 'it returns false'. Refute it at one input. -/
def wholeOraclesWrong : ChangeSpec := { name := "wholeOracles", fn := fun _ => fun
  | [d1, d2, d3, d4] => { results := [.lit (.bool false)], args := [d1, d2, d3, d4] }
  | _ => none }
def WholeOraclesWrongFalsely : Prop := wholeOraclesRow.holds Try.pinned (OpenSpec.ofChange wholeOraclesWrong)

/-- 'lychwaylaw.PageChecks': WHATEVER THE INPUT: true; the input reads as it did. -/
def pageChecksSpec : ChangeSpec := { name := "pageChecks", fn := fun _ => fun
  | [d1, d2, d3] => { results := [.lit (.bool true)], args := [d1, d2, d3] }
  | _ => none }
def pageChecksRow : OpenClaim := { program := "ytekeacihdmbbjaa", sum := "0e08f3b1d08474dac0b5b7bbb640d8439f5ad87f23d04354e37ab6a6e278ee2f", func := "lychway/lychwaylaw.PageChecks", spec := "pageChecks", unfollowed := true, recurses := true, loops := true, apart := false }
def PageChecksSaid : Prop := pageChecksRow.holds Try.pinned (OpenSpec.ofChange pageChecksSpec)

/-- ITS FALSE NEIGHBOUR: 'it returns false'. Refute it at one input. -/
def pageChecksWrong : ChangeSpec := { name := "pageChecks", fn := fun _ => fun
  | [d1, d2, d3] => { results := [.lit (.bool false)], args := [d1, d2, d3] }
  | _ => none }
def PageChecksWrongFalsely : Prop := pageChecksRow.holds Try.pinned (OpenSpec.ofChange pageChecksWrong)

/-- 'lychwaylaw.FieldChecks': WHATEVER THE INPUT: true; the input reads as it did. -/
def fieldChecksSpec : ChangeSpec := { name := "fieldChecks", fn := fun _ => fun
  | [d] => { results := [.lit (.bool true)], args := [d] }
  | _ => none }
def fieldChecksRow : OpenClaim := { program := "ytekeacihdmbbjaa", sum := "0e08f3b1d08474dac0b5b7bbb640d8439f5ad87f23d04354e37ab6a6e278ee2f", func := "lychway/lychwaylaw.FieldChecks", spec := "fieldChecks", unfollowed := true, recurses := true, loops := true, apart := false }
def FieldChecksSaid : Prop := fieldChecksRow.holds Try.pinned (OpenSpec.ofChange fieldChecksSpec)

/-- ITS FALSE NEIGHBOUR: 'it returns false'. Refute it at one input. -/
def fieldChecksWrong : ChangeSpec := { name := "fieldChecks", fn := fun _ => fun
  | [d] => { results := [.lit (.bool false)], args := [d] }
  | _ => none }
def FieldChecksWrongFalsely : Prop := fieldChecksRow.holds Try.pinned (OpenSpec.ofChange fieldChecksWrong)

/-- 'lychwaylaw.EvalTells': WHATEVER THE INPUT: true; the input reads as it did. -/
def evalTellsSpec : ChangeSpec := { name := "evalTells", fn := fun _ => fun
  | [d1, d2] => { results := [.lit (.bool true)], args := [d1, d2] }
  | _ => none }
def evalTellsRow : OpenClaim := { program := "ytekeacihdmbbjaa", sum := "0e08f3b1d08474dac0b5b7bbb640d8439f5ad87f23d04354e37ab6a6e278ee2f", func := "lychway/lychwaylaw.EvalTells", spec := "evalTells", unfollowed := true, recurses := true, loops := true, apart := false }
def EvalTellsSaid : Prop := evalTellsRow.holds Try.pinned (OpenSpec.ofChange evalTellsSpec)

/-- ITS FALSE NEIGHBOUR: 'it returns false'. Refute it at one input. -/
def evalTellsWrong : ChangeSpec := { name := "evalTells", fn := fun _ => fun
  | [d1, d2] => { results := [.lit (.bool false)], args := [d1, d2] }
  | _ => none }
def EvalTellsWrongFalsely : Prop := evalTellsRow.holds Try.pinned (OpenSpec.ofChange evalTellsWrong)

/-- 'lychwaylaw.WholeOnes': WHATEVER THE INPUT: true; the input reads as it did. -/
def wholeOnesSpec : ChangeSpec := { name := "wholeOnes", fn := fun _ => fun
  | [d1, d2, d3, d4] => { results := [.lit (.bool true)], args := [d1, d2, d3, d4] }
  | _ => none }
def wholeOnesRow : OpenClaim := { program := "ytekeacihdmbbjaa", sum := "0e08f3b1d08474dac0b5b7bbb640d8439f5ad87f23d04354e37ab6a6e278ee2f", func := "lychway/lychwaylaw.WholeOnes", spec := "wholeOnes", unfollowed := true, recurses := true, loops := true, apart := false }
def WholeOnesSaid : Prop := wholeOnesRow.holds Try.pinned (OpenSpec.ofChange wholeOnesSpec)

/-- ITS FALSE NEIGHBOUR: 'it returns false'. Refute it at one input. -/
def wholeOnesWrong : ChangeSpec := { name := "wholeOnes", fn := fun _ => fun
  | [d1, d2, d3, d4] => { results := [.lit (.bool false)], args := [d1, d2, d3, d4] }
  | _ => none }
def WholeOnesWrongFalsely : Prop := wholeOnesRow.holds Try.pinned (OpenSpec.ofChange wholeOnesWrong)

/-- 'lychwaylaw.NamesTells': WHATEVER THE INPUT: true; the input reads as it did. -/
def namesTellsSpec : ChangeSpec := { name := "namesTells", fn := fun _ => fun
  | [d1, d2] => { results := [.lit (.bool true)], args := [d1, d2] }
  | _ => none }
def namesTellsRow : OpenClaim := { program := "ytekeacihdmbbjaa", sum := "0e08f3b1d08474dac0b5b7bbb640d8439f5ad87f23d04354e37ab6a6e278ee2f", func := "lychway/lychwaylaw.NamesTells", spec := "namesTells", unfollowed := true, recurses := true, loops := true, apart := false }
def NamesTellsSaid : Prop := namesTellsRow.holds Try.pinned (OpenSpec.ofChange namesTellsSpec)

/-- ITS FALSE NEIGHBOUR: 'it returns false'. Refute it at one input. -/
def namesTellsWrong : ChangeSpec := { name := "namesTells", fn := fun _ => fun
  | [d1, d2] => { results := [.lit (.bool false)], args := [d1, d2] }
  | _ => none }
def NamesTellsWrongFalsely : Prop := namesTellsRow.holds Try.pinned (OpenSpec.ofChange namesTellsWrong)

/-- 'lychwaylaw.RankTells': WHATEVER THE INPUT: true; the input reads as it did. -/
def rankTellsSpec : ChangeSpec := { name := "rankTells", fn := fun _ => fun
  | [d] => { results := [.lit (.bool true)], args := [d] }
  | _ => none }
def rankTellsRow : OpenClaim := { program := "ytekeacihdmbbjaa", sum := "0e08f3b1d08474dac0b5b7bbb640d8439f5ad87f23d04354e37ab6a6e278ee2f", func := "lychway/lychwaylaw.RankTells", spec := "rankTells", unfollowed := true, recurses := true, loops := true, apart := false }
def RankTellsSaid : Prop := rankTellsRow.holds Try.pinned (OpenSpec.ofChange rankTellsSpec)

/-- ITS FALSE NEIGHBOUR: 'it returns false'. Refute it at one input. -/
def rankTellsWrong : ChangeSpec := { name := "rankTells", fn := fun _ => fun
  | [d] => { results := [.lit (.bool false)], args := [d] }
  | _ => none }
def RankTellsWrongFalsely : Prop := rankTellsRow.holds Try.pinned (OpenSpec.ofChange rankTellsWrong)

/- THE SECOND FORM. 'bulk': how many values and letters a reading holds, each counted each time it is reached (what is shared counts as often as it is met; a slice's spare places count too). A statement '..UptoSaid' is the law's where the arguments, and the package variables that the reading takes, are together of bulk at most 1048576: NARROWER than '..Said'. Prove '..Said' where nothing that the law and all that it calls make is longer than what came in: it says more and counts as full. Else prove '..UptoSaid'. A law counts once. -/
mutual
def uptoBulk {H : Type} : DataW H → Nat
  | .lit (.string bytes) => bytes.length + 1
  | .lit _ => 1
  | .nil => 1
  | .ptr d => uptoBulk d + 1
  | .slice elems spare => uptoBulkAll elems + uptoBulkAll spare + 1
  | .agg parts => uptoBulkAll parts + 1
  | .iface _ d => uptoBulk d + 1
  | .map entries => uptoBulkEntries entries + 1
  | .held _ => 1
def uptoBulkAll {H : Type} : List (DataW H) → Nat
  | [] => 0
  | d :: r => uptoBulk d + uptoBulkAll r
def uptoBulkEntries {H : Type} : List (Lit × DataW H) → Nat
  | [] => 0
  | x :: r => uptoBulkEntry x + uptoBulkEntries r
def uptoBulkEntry {H : Type} : Lit × DataW H → Nat
  | (.string bytes, d) => bytes.length + uptoBulk d + 1
  | (_, d) => uptoBulk d + 1
 end
def uptoSmall : (H : Type) → List (DataW H) → Bool := fun _ ds => decide (uptoBulkAll ds ≤ 1048576)
def OpenSpec.upto (s : _root_.Go.ChangeSpec) : _root_.Go.OpenSpec := { _root_.Go.OpenSpec.ofChange s with cond := some uptoSmall }

/-- 'lychwaylaw.PageFinds', WHERE WHAT IT READS IS OF BULK AT MOST 1048576: true; the input reads as it did. -/
def pageFindsUptoRow : OpenClaim := { program := "ytekeacihdmbbjaa", sum := "0e08f3b1d08474dac0b5b7bbb640d8439f5ad87f23d04354e37ab6a6e278ee2f", func := "lychway/lychwaylaw.PageFinds", spec := "pageFinds", unfollowed := true, recurses := true, loops := true, apart := false, narrowed := true }
def PageFindsUptoSaid : Prop := pageFindsUptoRow.holds Try.pinned (OpenSpec.upto pageFindsSpec)

/-- 'lychwaylaw.ExprChecks', WHERE WHAT IT READS IS OF BULK AT MOST 1048576: true; the input reads as it did. -/
def exprChecksUptoRow : OpenClaim := { program := "ytekeacihdmbbjaa", sum := "0e08f3b1d08474dac0b5b7bbb640d8439f5ad87f23d04354e37ab6a6e278ee2f", func := "lychway/lychwaylaw.ExprChecks", spec := "exprChecks", unfollowed := true, recurses := true, loops := true, apart := false, narrowed := true }
def ExprChecksUptoSaid : Prop := exprChecksUptoRow.holds Try.pinned (OpenSpec.upto exprChecksSpec)

/-- 'lychwaylaw.FieldRights', WHERE WHAT IT READS IS OF BULK AT MOST 1048576: true; the input reads as it did. -/
def fieldRightsUptoRow : OpenClaim := { program := "ytekeacihdmbbjaa", sum := "0e08f3b1d08474dac0b5b7bbb640d8439f5ad87f23d04354e37ab6a6e278ee2f", func := "lychway/lychwaylaw.FieldRights", spec := "fieldRights", unfollowed := true, recurses := true, loops := true, apart := false, narrowed := true }
def FieldRightsUptoSaid : Prop := fieldRightsUptoRow.holds Try.pinned (OpenSpec.upto fieldRightsSpec)

/-- 'lychwaylaw.NamesPuts', WHERE WHAT IT READS IS OF BULK AT MOST 1048576: true; the input reads as it did. -/
def namesPutsUptoRow : OpenClaim := { program := "ytekeacihdmbbjaa", sum := "0e08f3b1d08474dac0b5b7bbb640d8439f5ad87f23d04354e37ab6a6e278ee2f", func := "lychway/lychwaylaw.NamesPuts", spec := "namesPuts", unfollowed := true, recurses := true, loops := true, apart := false, narrowed := true }
def NamesPutsUptoSaid : Prop := namesPutsUptoRow.holds Try.pinned (OpenSpec.upto namesPutsSpec)

/-- 'lychwaylaw.TypingTells', WHERE WHAT IT READS IS OF BULK AT MOST 1048576: true; the input reads as it did. -/
def typingTellsUptoRow : OpenClaim := { program := "ytekeacihdmbbjaa", sum := "0e08f3b1d08474dac0b5b7bbb640d8439f5ad87f23d04354e37ab6a6e278ee2f", func := "lychway/lychwaylaw.TypingTells", spec := "typingTells", unfollowed := true, recurses := true, loops := true, apart := false, narrowed := true }
def TypingTellsUptoSaid : Prop := typingTellsUptoRow.holds Try.pinned (OpenSpec.upto typingTellsSpec)

/-- 'lychwaylaw.WholeOracles', WHERE WHAT IT READS IS OF BULK AT MOST 1048576: true; the input reads as it did. -/
def wholeOraclesUptoRow : OpenClaim := { program := "ytekeacihdmbbjaa", sum := "0e08f3b1d08474dac0b5b7bbb640d8439f5ad87f23d04354e37ab6a6e278ee2f", func := "lychway/lychwaylaw.WholeOracles", spec := "wholeOracles", unfollowed := true, recurses := true, loops := true, apart := false, narrowed := true }
def WholeOraclesUptoSaid : Prop := wholeOraclesUptoRow.holds Try.pinned (OpenSpec.upto wholeOraclesSpec)

/-- 'lychwaylaw.PageChecks', WHERE WHAT IT READS IS OF BULK AT MOST 1048576: true; the input reads as it did. -/
def pageChecksUptoRow : OpenClaim := { program := "ytekeacihdmbbjaa", sum := "0e08f3b1d08474dac0b5b7bbb640d8439f5ad87f23d04354e37ab6a6e278ee2f", func := "lychway/lychwaylaw.PageChecks", spec := "pageChecks", unfollowed := true, recurses := true, loops := true, apart := false, narrowed := true }
def PageChecksUptoSaid : Prop := pageChecksUptoRow.holds Try.pinned (OpenSpec.upto pageChecksSpec)

/-- 'lychwaylaw.FieldChecks', WHERE WHAT IT READS IS OF BULK AT MOST 1048576: true; the input reads as it did. -/
def fieldChecksUptoRow : OpenClaim := { program := "ytekeacihdmbbjaa", sum := "0e08f3b1d08474dac0b5b7bbb640d8439f5ad87f23d04354e37ab6a6e278ee2f", func := "lychway/lychwaylaw.FieldChecks", spec := "fieldChecks", unfollowed := true, recurses := true, loops := true, apart := false, narrowed := true }
def FieldChecksUptoSaid : Prop := fieldChecksUptoRow.holds Try.pinned (OpenSpec.upto fieldChecksSpec)

/-- 'lychwaylaw.EvalTells', WHERE WHAT IT READS IS OF BULK AT MOST 1048576: true; the input reads as it did. -/
def evalTellsUptoRow : OpenClaim := { program := "ytekeacihdmbbjaa", sum := "0e08f3b1d08474dac0b5b7bbb640d8439f5ad87f23d04354e37ab6a6e278ee2f", func := "lychway/lychwaylaw.EvalTells", spec := "evalTells", unfollowed := true, recurses := true, loops := true, apart := false, narrowed := true }
def EvalTellsUptoSaid : Prop := evalTellsUptoRow.holds Try.pinned (OpenSpec.upto evalTellsSpec)

/-- 'lychwaylaw.WholeOnes', WHERE WHAT IT READS IS OF BULK AT MOST 1048576: true; the input reads as it did. -/
def wholeOnesUptoRow : OpenClaim := { program := "ytekeacihdmbbjaa", sum := "0e08f3b1d08474dac0b5b7bbb640d8439f5ad87f23d04354e37ab6a6e278ee2f", func := "lychway/lychwaylaw.WholeOnes", spec := "wholeOnes", unfollowed := true, recurses := true, loops := true, apart := false, narrowed := true }
def WholeOnesUptoSaid : Prop := wholeOnesUptoRow.holds Try.pinned (OpenSpec.upto wholeOnesSpec)

/-- 'lychwaylaw.NamesTells', WHERE WHAT IT READS IS OF BULK AT MOST 1048576: true; the input reads as it did. -/
def namesTellsUptoRow : OpenClaim := { program := "ytekeacihdmbbjaa", sum := "0e08f3b1d08474dac0b5b7bbb640d8439f5ad87f23d04354e37ab6a6e278ee2f", func := "lychway/lychwaylaw.NamesTells", spec := "namesTells", unfollowed := true, recurses := true, loops := true, apart := false, narrowed := true }
def NamesTellsUptoSaid : Prop := namesTellsUptoRow.holds Try.pinned (OpenSpec.upto namesTellsSpec)

/-- 'lychwaylaw.RankTells', WHERE WHAT IT READS IS OF BULK AT MOST 1048576: true; the input reads as it did. -/
def rankTellsUptoRow : OpenClaim := { program := "ytekeacihdmbbjaa", sum := "0e08f3b1d08474dac0b5b7bbb640d8439f5ad87f23d04354e37ab6a6e278ee2f", func := "lychway/lychwaylaw.RankTells", spec := "rankTells", unfollowed := true, recurses := true, loops := true, apart := false, narrowed := true }
def RankTellsUptoSaid : Prop := rankTellsUptoRow.holds Try.pinned (OpenSpec.upto rankTellsSpec)

end Rows
end Go.Proofs.Ytekeacihdmbbjaa
