/-
  NARROWER THAN 'FOR EVERY INPUT', by the rows' own cells (each row's printed sentence says how): PageFinds: loops · FormFacts: loops.
  DERIVED. THE GIVEN ROWS OF THIS SEAT. 12 by the template 'for every input the law returns true; each argument reads behind the call as it read before'; 0 by the template 'total and deterministic' (their statements: YtiplgdplfbeahaaTotals.lean).
  GIVEN WITH THE SEED: the statements are not yours to turn. If you find one false, say at which input.
  Laid BY PROGRAM, IN A SANDBOX (cutbox-rows.mjs): the forced cells as the released guide's own fill.sh prints them over the translation 6ac06cbe72d23a7a… (all of the seat's roots in one cut). By AI agents, Wed Nov 11 2026. No macro, syntax, notation, axiom, sorry.
-/
import Derived.Test.YtiplgdplfbeahaaChecked
import GoSem.Claim
import GoSem.ClaimJoined
import GoSem.ClaimMapViews
import Derived.JoinedTies
import Derived.KernelRfl
namespace Go.Proofs.Ytiplgdplfbeahaa
/- THE CELL 'sum', in the pinned program and in every row, IS THE sha256 OF THE DUMP (.gsa) THAT YtiplgdplfbeahaaProg.lean LOADS. Nothing in Lean hashes anything: it is a label: what it is worth is what the hold of that sum in a sandbox is worth. -/
noncomputable def Try.pinned : Pinned := { name := "ytiplgdplfbeahaa", sum := "6ac06cbe72d23a7a256116fade6addc51563afae7a2cc4be77ffaca371e6c976", checked := Try.checked }
namespace Rows
def none {H : Type} : Left H := { results := [], args := [] }

/-- 'lychwaylaw.PageFinds': WHATEVER THE INPUT: true; the input reads as it did. -/
def pageFindsSpec : ChangeSpec := { name := "pageFinds", fn := fun _ => fun
  | [d1, d2] => { results := [.lit (.bool true)], args := [d1, d2] }
  | _ => none }
def pageFindsRow : OpenClaim := { program := "ytiplgdplfbeahaa", sum := "6ac06cbe72d23a7a256116fade6addc51563afae7a2cc4be77ffaca371e6c976", func := "lychway/lychwaylaw.PageFinds", spec := "pageFinds", unfollowed := true, recurses := true, loops := true, apart := false }
def PageFindsSaid : Prop := pageFindsRow.holds Try.pinned (OpenSpec.ofChange pageFindsSpec)

/-- ITS FALSE NEIGHBOUR: 'it returns false'. Refute it at one input. -/
def pageFindsWrong : ChangeSpec := { name := "pageFinds", fn := fun _ => fun
  | [d1, d2] => { results := [.lit (.bool false)], args := [d1, d2] }
  | _ => none }
def PageFindsWrongFalsely : Prop := pageFindsRow.holds Try.pinned (OpenSpec.ofChange pageFindsWrong)

/-- 'lychwaylaw.CallChecks': WHATEVER THE INPUT: true; the input reads as it did. -/
def callChecksSpec : ChangeSpec := { name := "callChecks", fn := fun _ => fun
  | [d1, d2] => { results := [.lit (.bool true)], args := [d1, d2] }
  | _ => none }
def callChecksRow : OpenClaim := { program := "ytiplgdplfbeahaa", sum := "6ac06cbe72d23a7a256116fade6addc51563afae7a2cc4be77ffaca371e6c976", func := "lychway/lychwaylaw.CallChecks", spec := "callChecks", apart := false }
def CallChecksSaid : Prop := callChecksRow.holds Try.pinned (OpenSpec.ofChange callChecksSpec)

/-- ITS FALSE NEIGHBOUR: 'it returns false'. Refute it at one input. -/
def callChecksWrong : ChangeSpec := { name := "callChecks", fn := fun _ => fun
  | [d1, d2] => { results := [.lit (.bool false)], args := [d1, d2] }
  | _ => none }
def CallChecksWrongFalsely : Prop := callChecksRow.holds Try.pinned (OpenSpec.ofChange callChecksWrong)

/-- 'lychwaylaw.ValueCompares': WHATEVER THE INPUT: true; the input reads as it did. -/
def valueComparesSpec : ChangeSpec := { name := "valueCompares", fn := fun _ => fun
  | [d1, d2] => { results := [.lit (.bool true)], args := [d1, d2] }
  | _ => none }
def valueComparesRow : OpenClaim := { program := "ytiplgdplfbeahaa", sum := "6ac06cbe72d23a7a256116fade6addc51563afae7a2cc4be77ffaca371e6c976", func := "lychway/lychwaylaw.ValueCompares", spec := "valueCompares", apart := false }
def ValueComparesSaid : Prop := valueComparesRow.holds Try.pinned (OpenSpec.ofChange valueComparesSpec)

/-- ITS FALSE NEIGHBOUR: 'it returns false'. Refute it at one input. -/
def valueComparesWrong : ChangeSpec := { name := "valueCompares", fn := fun _ => fun
  | [d1, d2] => { results := [.lit (.bool false)], args := [d1, d2] }
  | _ => none }
def ValueComparesWrongFalsely : Prop := valueComparesRow.holds Try.pinned (OpenSpec.ofChange valueComparesWrong)

/-- 'lychwaylaw.CallHears': WHATEVER THE INPUT: true; the input reads as it did. -/
def callHearsSpec : ChangeSpec := { name := "callHears", fn := fun _ => fun
  | [d1, d2, d3, d4, d5] => { results := [.lit (.bool true)], args := [d1, d2, d3, d4, d5] }
  | _ => none }
def callHearsRow : OpenClaim := { program := "ytiplgdplfbeahaa", sum := "6ac06cbe72d23a7a256116fade6addc51563afae7a2cc4be77ffaca371e6c976", func := "lychway/lychwaylaw.CallHears", spec := "callHears", apart := false }
def CallHearsSaid : Prop := callHearsRow.holds Try.pinned (OpenSpec.ofChange callHearsSpec)

/-- ITS FALSE NEIGHBOUR: 'it returns false'. Refute it at one input. -/
def callHearsWrong : ChangeSpec := { name := "callHears", fn := fun _ => fun
  | [d1, d2, d3, d4, d5] => { results := [.lit (.bool false)], args := [d1, d2, d3, d4, d5] }
  | _ => none }
def CallHearsWrongFalsely : Prop := callHearsRow.holds Try.pinned (OpenSpec.ofChange callHearsWrong)

/-- 'lychwaylaw.FormFacts': WHATEVER THE INPUT: true; the input reads as it did. -/
def formFactsSpec : ChangeSpec := { name := "formFacts", fn := fun _ => fun
  | [d1, d2] => { results := [.lit (.bool true)], args := [d1, d2] }
  | _ => none }
def formFactsRow : OpenClaim := { program := "ytiplgdplfbeahaa", sum := "6ac06cbe72d23a7a256116fade6addc51563afae7a2cc4be77ffaca371e6c976", func := "lychway/lychwaylaw.FormFacts", spec := "formFacts", unfollowed := true, recurses := true, loops := true, apart := false }
def FormFactsSaid : Prop := formFactsRow.holds Try.pinned (OpenSpec.ofChange formFactsSpec)

/-- ITS FALSE NEIGHBOUR: 'it returns false'. Refute it at one input. -/
def formFactsWrong : ChangeSpec := { name := "formFacts", fn := fun _ => fun
  | [d1, d2] => { results := [.lit (.bool false)], args := [d1, d2] }
  | _ => none }
def FormFactsWrongFalsely : Prop := formFactsRow.holds Try.pinned (OpenSpec.ofChange formFactsWrong)

/-- 'lychwaylaw.CallWakes': WHATEVER THE INPUT: true; the input reads as it did. -/
def callWakesSpec : ChangeSpec := { name := "callWakes", fn := fun _ => fun
  | [d1, d2, d3] => { results := [.lit (.bool true)], args := [d1, d2, d3] }
  | _ => none }
def callWakesRow : OpenClaim := { program := "ytiplgdplfbeahaa", sum := "6ac06cbe72d23a7a256116fade6addc51563afae7a2cc4be77ffaca371e6c976", func := "lychway/lychwaylaw.CallWakes", spec := "callWakes", apart := false }
def CallWakesSaid : Prop := callWakesRow.holds Try.pinned (OpenSpec.ofChange callWakesSpec)

/-- ITS FALSE NEIGHBOUR: 'it returns false'. Refute it at one input. -/
def callWakesWrong : ChangeSpec := { name := "callWakes", fn := fun _ => fun
  | [d1, d2, d3] => { results := [.lit (.bool false)], args := [d1, d2, d3] }
  | _ => none }
def CallWakesWrongFalsely : Prop := callWakesRow.holds Try.pinned (OpenSpec.ofChange callWakesWrong)

/-- 'lychwaylaw.ClockAdds': WHATEVER THE INPUT: true; the input reads as it did. -/
def clockAddsSpec : ChangeSpec := { name := "clockAdds", fn := fun _ => fun
  | [d1, d2] => { results := [.lit (.bool true)], args := [d1, d2] }
  | _ => none }
def clockAddsRow : OpenClaim := { program := "ytiplgdplfbeahaa", sum := "6ac06cbe72d23a7a256116fade6addc51563afae7a2cc4be77ffaca371e6c976", func := "lychway/lychwaylaw.ClockAdds", spec := "clockAdds", unfollowed := true, recurses := true, apart := false }
def ClockAddsSaid : Prop := clockAddsRow.holds Try.pinned (OpenSpec.ofChange clockAddsSpec)

/-- ITS FALSE NEIGHBOUR: 'it returns false'. Refute it at one input. -/
def clockAddsWrong : ChangeSpec := { name := "clockAdds", fn := fun _ => fun
  | [d1, d2] => { results := [.lit (.bool false)], args := [d1, d2] }
  | _ => none }
def ClockAddsWrongFalsely : Prop := clockAddsRow.holds Try.pinned (OpenSpec.ofChange clockAddsWrong)

/-- 'lychwaylaw.NetReplies': WHATEVER THE INPUT: true; the input reads as it did. -/
def netRepliesSpec : ChangeSpec := { name := "netReplies", fn := fun _ => fun
  | [d1, d2, d3] => { results := [.lit (.bool true)], args := [d1, d2, d3] }
  | _ => none }
def netRepliesRow : OpenClaim := { program := "ytiplgdplfbeahaa", sum := "6ac06cbe72d23a7a256116fade6addc51563afae7a2cc4be77ffaca371e6c976", func := "lychway/lychwaylaw.NetReplies", spec := "netReplies", apart := false }
def NetRepliesSaid : Prop := netRepliesRow.holds Try.pinned (OpenSpec.ofChange netRepliesSpec)

/-- ITS FALSE NEIGHBOUR: 'it returns false'. Refute it at one input. -/
def netRepliesWrong : ChangeSpec := { name := "netReplies", fn := fun _ => fun
  | [d1, d2, d3] => { results := [.lit (.bool false)], args := [d1, d2, d3] }
  | _ => none }
def NetRepliesWrongFalsely : Prop := netRepliesRow.holds Try.pinned (OpenSpec.ofChange netRepliesWrong)

/-- 'lychwaylaw.ClockEnds': WHATEVER THE INPUT: true; the input reads as it did. -/
def clockEndsSpec : ChangeSpec := { name := "clockEnds", fn := fun _ => fun
  | [d1, d2, d3] => { results := [.lit (.bool true)], args := [d1, d2, d3] }
  | _ => none }
def clockEndsRow : OpenClaim := { program := "ytiplgdplfbeahaa", sum := "6ac06cbe72d23a7a256116fade6addc51563afae7a2cc4be77ffaca371e6c976", func := "lychway/lychwaylaw.ClockEnds", spec := "clockEnds", unfollowed := true, recurses := true, apart := false }
def ClockEndsSaid : Prop := clockEndsRow.holds Try.pinned (OpenSpec.ofChange clockEndsSpec)

/-- ITS FALSE NEIGHBOUR: 'it returns false'. Refute it at one input. -/
def clockEndsWrong : ChangeSpec := { name := "clockEnds", fn := fun _ => fun
  | [d1, d2, d3] => { results := [.lit (.bool false)], args := [d1, d2, d3] }
  | _ => none }
def ClockEndsWrongFalsely : Prop := clockEndsRow.holds Try.pinned (OpenSpec.ofChange clockEndsWrong)

/-- 'lychwaylaw.NetSends': WHATEVER THE INPUT: true; the input reads as it did. -/
def netSendsSpec : ChangeSpec := { name := "netSends", fn := fun _ => fun
  | [d1, d2] => { results := [.lit (.bool true)], args := [d1, d2] }
  | _ => none }
def netSendsRow : OpenClaim := { program := "ytiplgdplfbeahaa", sum := "6ac06cbe72d23a7a256116fade6addc51563afae7a2cc4be77ffaca371e6c976", func := "lychway/lychwaylaw.NetSends", spec := "netSends", apart := false }
def NetSendsSaid : Prop := netSendsRow.holds Try.pinned (OpenSpec.ofChange netSendsSpec)

/-- ITS FALSE NEIGHBOUR: 'it returns false'. Refute it at one input. -/
def netSendsWrong : ChangeSpec := { name := "netSends", fn := fun _ => fun
  | [d1, d2] => { results := [.lit (.bool false)], args := [d1, d2] }
  | _ => none }
def NetSendsWrongFalsely : Prop := netSendsRow.holds Try.pinned (OpenSpec.ofChange netSendsWrong)

/-- 'lychwaylaw.ClientTurns': WHATEVER THE INPUT: true; the input reads as it did. -/
def clientTurnsSpec : ChangeSpec := { name := "clientTurns", fn := fun _ => fun
  | [d1, d2, d3, d4, d5] => { results := [.lit (.bool true)], args := [d1, d2, d3, d4, d5] }
  | _ => none }
def clientTurnsRow : OpenClaim := { program := "ytiplgdplfbeahaa", sum := "6ac06cbe72d23a7a256116fade6addc51563afae7a2cc4be77ffaca371e6c976", func := "lychway/lychwaylaw.ClientTurns", spec := "clientTurns", apart := false }
def ClientTurnsSaid : Prop := clientTurnsRow.holds Try.pinned (OpenSpec.ofChange clientTurnsSpec)

/-- ITS FALSE NEIGHBOUR: 'it returns false'. Refute it at one input. -/
def clientTurnsWrong : ChangeSpec := { name := "clientTurns", fn := fun _ => fun
  | [d1, d2, d3, d4, d5] => { results := [.lit (.bool false)], args := [d1, d2, d3, d4, d5] }
  | _ => none }
def ClientTurnsWrongFalsely : Prop := clientTurnsRow.holds Try.pinned (OpenSpec.ofChange clientTurnsWrong)

/-- 'lychwaylaw.NetComes': WHATEVER THE INPUT: true; the input reads as it did. -/
def netComesSpec : ChangeSpec := { name := "netComes", fn := fun _ => fun
  | [d1, d2] => { results := [.lit (.bool true)], args := [d1, d2] }
  | _ => none }
def netComesRow : OpenClaim := { program := "ytiplgdplfbeahaa", sum := "6ac06cbe72d23a7a256116fade6addc51563afae7a2cc4be77ffaca371e6c976", func := "lychway/lychwaylaw.NetComes", spec := "netComes", apart := false }
def NetComesSaid : Prop := netComesRow.holds Try.pinned (OpenSpec.ofChange netComesSpec)

/-- ITS FALSE NEIGHBOUR: 'it returns false'. Refute it at one input. -/
def netComesWrong : ChangeSpec := { name := "netComes", fn := fun _ => fun
  | [d1, d2] => { results := [.lit (.bool false)], args := [d1, d2] }
  | _ => none }
def NetComesWrongFalsely : Prop := netComesRow.holds Try.pinned (OpenSpec.ofChange netComesWrong)

/- THE SECOND FORM. 'bulk': how many values and letters a reading holds, each counted each time it is reached (what is shared counts as often as it is met; a slice's spare places count too). A statement '..UptoSaid' is the law's where the arguments, and the package variables that the reading takes, are together of bulk at most 1048576: NARROWER than '..Said'. Prove '..Said' where nothing that the law and all that it calls make is longer than what came in: it says more and counts as full. Else prove '..UptoSaid'. A law counts once. -/
mutual
def uptoBulk {H : Type} : DataW H → Nat
  | .lit (.string bytes) => bytes.length + 1
  | .lit _ => 1
  | .nil => 1
  | .ptr d => uptoBulk d + 1
  | .slice elems spare => uptoBulkAll elems + uptoBulkAll spare + 1
  | .agg parts => uptoBulkAll parts + 1
  | .iface _ d => uptoBulk d + 1
  | .map entries => uptoBulkEntries entries + 1
  | .held _ => 1
def uptoBulkAll {H : Type} : List (DataW H) → Nat
  | [] => 0
  | d :: r => uptoBulk d + uptoBulkAll r
def uptoBulkEntries {H : Type} : List (Lit × DataW H) → Nat
  | [] => 0
  | x :: r => uptoBulkEntry x + uptoBulkEntries r
def uptoBulkEntry {H : Type} : Lit × DataW H → Nat
  | (.string bytes, d) => bytes.length + uptoBulk d + 1
  | (_, d) => uptoBulk d + 1
 end
def uptoSmall : (H : Type) → List (DataW H) → Bool := fun _ ds => decide (uptoBulkAll ds ≤ 1048576)
def OpenSpec.upto (s : _root_.Go.ChangeSpec) : _root_.Go.OpenSpec := { _root_.Go.OpenSpec.ofChange s with cond := some uptoSmall }

/-- 'lychwaylaw.PageFinds', WHERE WHAT IT READS IS OF BULK AT MOST 1048576: true; the input reads as it did. -/
def pageFindsUptoRow : OpenClaim := { program := "ytiplgdplfbeahaa", sum := "6ac06cbe72d23a7a256116fade6addc51563afae7a2cc4be77ffaca371e6c976", func := "lychway/lychwaylaw.PageFinds", spec := "pageFinds", unfollowed := true, recurses := true, loops := true, apart := false, narrowed := true }
def PageFindsUptoSaid : Prop := pageFindsUptoRow.holds Try.pinned (OpenSpec.upto pageFindsSpec)

/-- 'lychwaylaw.CallChecks', WHERE WHAT IT READS IS OF BULK AT MOST 1048576: true; the input reads as it did. -/
def callChecksUptoRow : OpenClaim := { program := "ytiplgdplfbeahaa", sum := "6ac06cbe72d23a7a256116fade6addc51563afae7a2cc4be77ffaca371e6c976", func := "lychway/lychwaylaw.CallChecks", spec := "callChecks", apart := false, narrowed := true }
def CallChecksUptoSaid : Prop := callChecksUptoRow.holds Try.pinned (OpenSpec.upto callChecksSpec)

/-- 'lychwaylaw.ValueCompares', WHERE WHAT IT READS IS OF BULK AT MOST 1048576: true; the input reads as it did. -/
def valueComparesUptoRow : OpenClaim := { program := "ytiplgdplfbeahaa", sum := "6ac06cbe72d23a7a256116fade6addc51563afae7a2cc4be77ffaca371e6c976", func := "lychway/lychwaylaw.ValueCompares", spec := "valueCompares", apart := false, narrowed := true }
def ValueComparesUptoSaid : Prop := valueComparesUptoRow.holds Try.pinned (OpenSpec.upto valueComparesSpec)

/-- 'lychwaylaw.CallHears', WHERE WHAT IT READS IS OF BULK AT MOST 1048576: true; the input reads as it did. -/
def callHearsUptoRow : OpenClaim := { program := "ytiplgdplfbeahaa", sum := "6ac06cbe72d23a7a256116fade6addc51563afae7a2cc4be77ffaca371e6c976", func := "lychway/lychwaylaw.CallHears", spec := "callHears", apart := false, narrowed := true }
def CallHearsUptoSaid : Prop := callHearsUptoRow.holds Try.pinned (OpenSpec.upto callHearsSpec)

/-- 'lychwaylaw.FormFacts', WHERE WHAT IT READS IS OF BULK AT MOST 1048576: true; the input reads as it did. -/
def formFactsUptoRow : OpenClaim := { program := "ytiplgdplfbeahaa", sum := "6ac06cbe72d23a7a256116fade6addc51563afae7a2cc4be77ffaca371e6c976", func := "lychway/lychwaylaw.FormFacts", spec := "formFacts", unfollowed := true, recurses := true, loops := true, apart := false, narrowed := true }
def FormFactsUptoSaid : Prop := formFactsUptoRow.holds Try.pinned (OpenSpec.upto formFactsSpec)

/-- 'lychwaylaw.CallWakes', WHERE WHAT IT READS IS OF BULK AT MOST 1048576: true; the input reads as it did. -/
def callWakesUptoRow : OpenClaim := { program := "ytiplgdplfbeahaa", sum := "6ac06cbe72d23a7a256116fade6addc51563afae7a2cc4be77ffaca371e6c976", func := "lychway/lychwaylaw.CallWakes", spec := "callWakes", apart := false, narrowed := true }
def CallWakesUptoSaid : Prop := callWakesUptoRow.holds Try.pinned (OpenSpec.upto callWakesSpec)

/-- 'lychwaylaw.ClockAdds', WHERE WHAT IT READS IS OF BULK AT MOST 1048576: true; the input reads as it did. -/
def clockAddsUptoRow : OpenClaim := { program := "ytiplgdplfbeahaa", sum := "6ac06cbe72d23a7a256116fade6addc51563afae7a2cc4be77ffaca371e6c976", func := "lychway/lychwaylaw.ClockAdds", spec := "clockAdds", unfollowed := true, recurses := true, apart := false, narrowed := true }
def ClockAddsUptoSaid : Prop := clockAddsUptoRow.holds Try.pinned (OpenSpec.upto clockAddsSpec)

/-- 'lychwaylaw.NetReplies', WHERE WHAT IT READS IS OF BULK AT MOST 1048576: true; the input reads as it did. -/
def netRepliesUptoRow : OpenClaim := { program := "ytiplgdplfbeahaa", sum := "6ac06cbe72d23a7a256116fade6addc51563afae7a2cc4be77ffaca371e6c976", func := "lychway/lychwaylaw.NetReplies", spec := "netReplies", apart := false, narrowed := true }
def NetRepliesUptoSaid : Prop := netRepliesUptoRow.holds Try.pinned (OpenSpec.upto netRepliesSpec)

/-- 'lychwaylaw.ClockEnds', WHERE WHAT IT READS IS OF BULK AT MOST 1048576: true; the input reads as it did. -/
def clockEndsUptoRow : OpenClaim := { program := "ytiplgdplfbeahaa", sum := "6ac06cbe72d23a7a256116fade6addc51563afae7a2cc4be77ffaca371e6c976", func := "lychway/lychwaylaw.ClockEnds", spec := "clockEnds", unfollowed := true, recurses := true, apart := false, narrowed := true }
def ClockEndsUptoSaid : Prop := clockEndsUptoRow.holds Try.pinned (OpenSpec.upto clockEndsSpec)

/-- 'lychwaylaw.NetSends', WHERE WHAT IT READS IS OF BULK AT MOST 1048576: true; the input reads as it did. -/
def netSendsUptoRow : OpenClaim := { program := "ytiplgdplfbeahaa", sum := "6ac06cbe72d23a7a256116fade6addc51563afae7a2cc4be77ffaca371e6c976", func := "lychway/lychwaylaw.NetSends", spec := "netSends", apart := false, narrowed := true }
def NetSendsUptoSaid : Prop := netSendsUptoRow.holds Try.pinned (OpenSpec.upto netSendsSpec)

/-- 'lychwaylaw.ClientTurns', WHERE WHAT IT READS IS OF BULK AT MOST 1048576: true; the input reads as it did. -/
def clientTurnsUptoRow : OpenClaim := { program := "ytiplgdplfbeahaa", sum := "6ac06cbe72d23a7a256116fade6addc51563afae7a2cc4be77ffaca371e6c976", func := "lychway/lychwaylaw.ClientTurns", spec := "clientTurns", apart := false, narrowed := true }
def ClientTurnsUptoSaid : Prop := clientTurnsUptoRow.holds Try.pinned (OpenSpec.upto clientTurnsSpec)

/-- 'lychwaylaw.NetComes', WHERE WHAT IT READS IS OF BULK AT MOST 1048576: true; the input reads as it did. -/
def netComesUptoRow : OpenClaim := { program := "ytiplgdplfbeahaa", sum := "6ac06cbe72d23a7a256116fade6addc51563afae7a2cc4be77ffaca371e6c976", func := "lychway/lychwaylaw.NetComes", spec := "netComes", apart := false, narrowed := true }
def NetComesUptoSaid : Prop := netComesUptoRow.holds Try.pinned (OpenSpec.upto netComesSpec)

end Rows
end Go.Proofs.Ytiplgdplfbeahaa
