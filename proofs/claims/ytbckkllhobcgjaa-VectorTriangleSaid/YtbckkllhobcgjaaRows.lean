/-
  No cell of these rows narrows 'for every input' (looked for: loops, veiled, ifaces, maps, wideKeys, modest, calm, conditions, laid).
  DERIVED. THE GIVEN ROWS OF THIS SEAT. 11 by the template 'for every input the law returns true; each argument reads behind the call as it read before'; 0 by the template 'total and deterministic' (their statements: YtbckkllhobcgjaaTotals.lean).
  GIVEN WITH THE SEED: the statements are not yours to turn. If you find one false, say at which input.
  Laid BY PROGRAM, IN A SANDBOX (cutbox-rows.mjs): the forced cells as the released guide's own fill.sh prints them over the translation 7987eced147f5908… (all of the seat's roots in one cut). By AI agents, Wed Nov 11 2026. No macro, syntax, notation, axiom, sorry.
-/
import Derived.Test.YtbckkllhobcgjaaChecked
import GoSem.Claim
import GoSem.ClaimJoined
import GoSem.ClaimMapViews
import Derived.JoinedTies
import Derived.KernelRfl
namespace Go.Proofs.Ytbckkllhobcgjaa
/- THE CELL 'sum', in the pinned program and in every row, IS THE sha256 OF THE DUMP (.gsa) THAT YtbckkllhobcgjaaProg.lean LOADS. Nothing in Lean hashes anything: it is a label: what it is worth is what the hold of that sum in a sandbox is worth. -/
noncomputable def Try.pinned : Pinned := { name := "ytbckkllhobcgjaa", sum := "7987eced147f5908fc56247c03c6ce04705d9982d67e46386ce6d9d37c4d6216", checked := Try.checked }
namespace Rows
def none {H : Type} : Left H := { results := [], args := [] }

/-- 'lodestarlaw01.NumRoots': WHATEVER THE INPUT: true; the input reads as it did. -/
def numRootsSpec : ChangeSpec := { name := "numRoots", fn := fun _ => fun
  | [d] => { results := [.lit (.bool true)], args := [d] }
  | _ => none }
def numRootsRow : OpenClaim := { program := "ytbckkllhobcgjaa", sum := "7987eced147f5908fc56247c03c6ce04705d9982d67e46386ce6d9d37c4d6216", func := "lodestar/lodestarlaw01.NumRoots", spec := "numRoots", apart := false }
def NumRootsSaid : Prop := numRootsRow.holds Try.pinned (OpenSpec.ofChange numRootsSpec)

/-- ITS FALSE NEIGHBOUR: 'it returns false'. Refute it at one input. -/
def numRootsWrong : ChangeSpec := { name := "numRoots", fn := fun _ => fun
  | [d] => { results := [.lit (.bool false)], args := [d] }
  | _ => none }
def NumRootsWrongFalsely : Prop := numRootsRow.holds Try.pinned (OpenSpec.ofChange numRootsWrong)

/-- 'lodestarlaw01.NumLeft': WHATEVER THE INPUT: true; the input reads as it did. -/
def numLeftSpec : ChangeSpec := { name := "numLeft", fn := fun _ => fun
  | [d1, d2] => { results := [.lit (.bool true)], args := [d1, d2] }
  | _ => none }
def numLeftRow : OpenClaim := { program := "ytbckkllhobcgjaa", sum := "7987eced147f5908fc56247c03c6ce04705d9982d67e46386ce6d9d37c4d6216", func := "lodestar/lodestarlaw01.NumLeft", spec := "numLeft", apart := false }
def NumLeftSaid : Prop := numLeftRow.holds Try.pinned (OpenSpec.ofChange numLeftSpec)

/-- ITS FALSE NEIGHBOUR: 'it returns false'. Refute it at one input. -/
def numLeftWrong : ChangeSpec := { name := "numLeft", fn := fun _ => fun
  | [d1, d2] => { results := [.lit (.bool false)], args := [d1, d2] }
  | _ => none }
def NumLeftWrongFalsely : Prop := numLeftRow.holds Try.pinned (OpenSpec.ofChange numLeftWrong)

/-- 'lodestarlaw01.NumUnlike': WHATEVER THE INPUT: true; the input reads as it did. -/
def numUnlikeSpec : ChangeSpec := { name := "numUnlike", fn := fun _ => fun
  | [d1, d2] => { results := [.lit (.bool true)], args := [d1, d2] }
  | _ => none }
def numUnlikeRow : OpenClaim := { program := "ytbckkllhobcgjaa", sum := "7987eced147f5908fc56247c03c6ce04705d9982d67e46386ce6d9d37c4d6216", func := "lodestar/lodestarlaw01.NumUnlike", spec := "numUnlike", apart := false }
def NumUnlikeSaid : Prop := numUnlikeRow.holds Try.pinned (OpenSpec.ofChange numUnlikeSpec)

/-- ITS FALSE NEIGHBOUR: 'it returns false'. Refute it at one input. -/
def numUnlikeWrong : ChangeSpec := { name := "numUnlike", fn := fun _ => fun
  | [d1, d2] => { results := [.lit (.bool false)], args := [d1, d2] }
  | _ => none }
def NumUnlikeWrongFalsely : Prop := numUnlikeRow.holds Try.pinned (OpenSpec.ofChange numUnlikeWrong)

/-- 'lodestarlaw01.NumSums': WHATEVER THE INPUT: true; the input reads as it did. -/
def numSumsSpec : ChangeSpec := { name := "numSums", fn := fun _ => fun
  | [d1, d2, d3] => { results := [.lit (.bool true)], args := [d1, d2, d3] }
  | _ => none }
def numSumsRow : OpenClaim := { program := "ytbckkllhobcgjaa", sum := "7987eced147f5908fc56247c03c6ce04705d9982d67e46386ce6d9d37c4d6216", func := "lodestar/lodestarlaw01.NumSums", spec := "numSums", apart := false }
def NumSumsSaid : Prop := numSumsRow.holds Try.pinned (OpenSpec.ofChange numSumsSpec)

/-- ITS FALSE NEIGHBOUR: 'it returns false'. Refute it at one input. -/
def numSumsWrong : ChangeSpec := { name := "numSums", fn := fun _ => fun
  | [d1, d2, d3] => { results := [.lit (.bool false)], args := [d1, d2, d3] }
  | _ => none }
def NumSumsWrongFalsely : Prop := numSumsRow.holds Try.pinned (OpenSpec.ofChange numSumsWrong)

/-- 'lodestarlaw01.NumDraws': WHATEVER THE INPUT: true; the input reads as it did. -/
def numDrawsSpec : ChangeSpec := { name := "numDraws", fn := fun _ => fun
  | [d1, d2, d3] => { results := [.lit (.bool true)], args := [d1, d2, d3] }
  | _ => none }
def numDrawsRow : OpenClaim := { program := "ytbckkllhobcgjaa", sum := "7987eced147f5908fc56247c03c6ce04705d9982d67e46386ce6d9d37c4d6216", func := "lodestar/lodestarlaw01.NumDraws", spec := "numDraws", apart := false }
def NumDrawsSaid : Prop := numDrawsRow.holds Try.pinned (OpenSpec.ofChange numDrawsSpec)

/-- ITS FALSE NEIGHBOUR: 'it returns false'. Refute it at one input. -/
def numDrawsWrong : ChangeSpec := { name := "numDraws", fn := fun _ => fun
  | [d1, d2, d3] => { results := [.lit (.bool false)], args := [d1, d2, d3] }
  | _ => none }
def NumDrawsWrongFalsely : Prop := numDrawsRow.holds Try.pinned (OpenSpec.ofChange numDrawsWrong)

/-- 'lodestarlaw01.NumBytes': WHATEVER THE INPUT: true; the input reads as it did. -/
def numBytesSpec : ChangeSpec := { name := "numBytes", fn := fun _ => fun
  | [d1, d2, d3] => { results := [.lit (.bool true)], args := [d1, d2, d3] }
  | _ => none }
def numBytesRow : OpenClaim := { program := "ytbckkllhobcgjaa", sum := "7987eced147f5908fc56247c03c6ce04705d9982d67e46386ce6d9d37c4d6216", func := "lodestar/lodestarlaw01.NumBytes", spec := "numBytes", apart := false }
def NumBytesSaid : Prop := numBytesRow.holds Try.pinned (OpenSpec.ofChange numBytesSpec)

/-- ITS FALSE NEIGHBOUR: 'it returns false'. Refute it at one input. -/
def numBytesWrong : ChangeSpec := { name := "numBytes", fn := fun _ => fun
  | [d1, d2, d3] => { results := [.lit (.bool false)], args := [d1, d2, d3] }
  | _ => none }
def NumBytesWrongFalsely : Prop := numBytesRow.holds Try.pinned (OpenSpec.ofChange numBytesWrong)

/-- 'lodestarlaw06.VectorChecks': WHATEVER THE INPUT: true; the input reads as it did. -/
def vectorChecksSpec : ChangeSpec := { name := "vectorChecks", fn := fun _ => fun
  | [d1, d2, d3] => { results := [.lit (.bool true)], args := [d1, d2, d3] }
  | _ => none }
def vectorChecksRow : OpenClaim := { program := "ytbckkllhobcgjaa", sum := "7987eced147f5908fc56247c03c6ce04705d9982d67e46386ce6d9d37c4d6216", func := "lodestar/lodestarlaw06.VectorChecks", spec := "vectorChecks", unfollowed := true, recurses := true, apart := false }
def VectorChecksSaid : Prop := vectorChecksRow.holds Try.pinned (OpenSpec.ofChange vectorChecksSpec)

/-- ITS FALSE NEIGHBOUR: 'it returns false'. Refute it at one input. -/
def vectorChecksWrong : ChangeSpec := { name := "vectorChecks", fn := fun _ => fun
  | [d1, d2, d3] => { results := [.lit (.bool false)], args := [d1, d2, d3] }
  | _ => none }
def VectorChecksWrongFalsely : Prop := vectorChecksRow.holds Try.pinned (OpenSpec.ofChange vectorChecksWrong)

/-- 'lodestarlaw06.VectorScores': WHATEVER THE INPUT: true; the input reads as it did. -/
def vectorScoresSpec : ChangeSpec := { name := "vectorScores", fn := fun _ => fun
  | [d1, d2, d3] => { results := [.lit (.bool true)], args := [d1, d2, d3] }
  | _ => none }
def vectorScoresRow : OpenClaim := { program := "ytbckkllhobcgjaa", sum := "7987eced147f5908fc56247c03c6ce04705d9982d67e46386ce6d9d37c4d6216", func := "lodestar/lodestarlaw06.VectorScores", spec := "vectorScores", unfollowed := true, recurses := true, apart := false }
def VectorScoresSaid : Prop := vectorScoresRow.holds Try.pinned (OpenSpec.ofChange vectorScoresSpec)

/-- ITS FALSE NEIGHBOUR: 'it returns false'. Refute it at one input. -/
def vectorScoresWrong : ChangeSpec := { name := "vectorScores", fn := fun _ => fun
  | [d1, d2, d3] => { results := [.lit (.bool false)], args := [d1, d2, d3] }
  | _ => none }
def VectorScoresWrongFalsely : Prop := vectorScoresRow.holds Try.pinned (OpenSpec.ofChange vectorScoresWrong)

/-- 'lodestarlaw06.VectorRules': WHATEVER THE INPUT: true; the input reads as it did. -/
def vectorRulesSpec : ChangeSpec := { name := "vectorRules", fn := fun _ => fun
  | [d1, d2, d3] => { results := [.lit (.bool true)], args := [d1, d2, d3] }
  | _ => none }
def vectorRulesRow : OpenClaim := { program := "ytbckkllhobcgjaa", sum := "7987eced147f5908fc56247c03c6ce04705d9982d67e46386ce6d9d37c4d6216", func := "lodestar/lodestarlaw06.VectorRules", spec := "vectorRules", unfollowed := true, recurses := true, apart := false }
def VectorRulesSaid : Prop := vectorRulesRow.holds Try.pinned (OpenSpec.ofChange vectorRulesSpec)

/-- ITS FALSE NEIGHBOUR: 'it returns false'. Refute it at one input. -/
def vectorRulesWrong : ChangeSpec := { name := "vectorRules", fn := fun _ => fun
  | [d1, d2, d3] => { results := [.lit (.bool false)], args := [d1, d2, d3] }
  | _ => none }
def VectorRulesWrongFalsely : Prop := vectorRulesRow.holds Try.pinned (OpenSpec.ofChange vectorRulesWrong)

/-- 'lodestarlaw06.VectorTriangle': WHATEVER THE INPUT: true; the input reads as it did. -/
def vectorTriangleSpec : ChangeSpec := { name := "vectorTriangle", fn := fun _ => fun
  | [d1, d2, d3] => { results := [.lit (.bool true)], args := [d1, d2, d3] }
  | _ => none }
def vectorTriangleRow : OpenClaim := { program := "ytbckkllhobcgjaa", sum := "7987eced147f5908fc56247c03c6ce04705d9982d67e46386ce6d9d37c4d6216", func := "lodestar/lodestarlaw06.VectorTriangle", spec := "vectorTriangle", unfollowed := true, recurses := true, apart := false }
def VectorTriangleSaid : Prop := vectorTriangleRow.holds Try.pinned (OpenSpec.ofChange vectorTriangleSpec)

/-- ITS FALSE NEIGHBOUR: 'it returns false'. Refute it at one input. -/
def vectorTriangleWrong : ChangeSpec := { name := "vectorTriangle", fn := fun _ => fun
  | [d1, d2, d3] => { results := [.lit (.bool false)], args := [d1, d2, d3] }
  | _ => none }
def VectorTriangleWrongFalsely : Prop := vectorTriangleRow.holds Try.pinned (OpenSpec.ofChange vectorTriangleWrong)

/-- 'lodestarlaw01.NumProducts': WHATEVER THE INPUT: true; the input reads as it did. -/
def numProductsSpec : ChangeSpec := { name := "numProducts", fn := fun _ => fun
  | [d1, d2] => { results := [.lit (.bool true)], args := [d1, d2] }
  | _ => none }
def numProductsRow : OpenClaim := { program := "ytbckkllhobcgjaa", sum := "7987eced147f5908fc56247c03c6ce04705d9982d67e46386ce6d9d37c4d6216", func := "lodestar/lodestarlaw01.NumProducts", spec := "numProducts", apart := false }
def NumProductsSaid : Prop := numProductsRow.holds Try.pinned (OpenSpec.ofChange numProductsSpec)

/-- ITS FALSE NEIGHBOUR: 'it returns false'. Refute it at one input. -/
def numProductsWrong : ChangeSpec := { name := "numProducts", fn := fun _ => fun
  | [d1, d2] => { results := [.lit (.bool false)], args := [d1, d2] }
  | _ => none }
def NumProductsWrongFalsely : Prop := numProductsRow.holds Try.pinned (OpenSpec.ofChange numProductsWrong)

/- THE SECOND FORM. 'bulk': how many values and letters a reading holds, each counted each time it is reached (what is shared counts as often as it is met; a slice's spare places count too). A statement '..UptoSaid' is the law's where the arguments, and the package variables that the reading takes, are together of bulk at most 1048576: NARROWER than '..Said'. Prove '..Said' where nothing that the law and all that it calls make is longer than what came in: it says more and counts as full. Else prove '..UptoSaid'. A law counts once. -/
mutual
def uptoBulk {H : Type} : DataW H → Nat
  | .lit (.string bytes) => bytes.length + 1
  | .lit _ => 1
  | .nil => 1
  | .ptr d => uptoBulk d + 1
  | .slice elems spare => uptoBulkAll elems + uptoBulkAll spare + 1
  | .agg parts => uptoBulkAll parts + 1
  | .iface _ d => uptoBulk d + 1
  | .map entries => uptoBulkEntries entries + 1
  | .held _ => 1
def uptoBulkAll {H : Type} : List (DataW H) → Nat
  | [] => 0
  | d :: r => uptoBulk d + uptoBulkAll r
def uptoBulkEntries {H : Type} : List (Lit × DataW H) → Nat
  | [] => 0
  | x :: r => uptoBulkEntry x + uptoBulkEntries r
def uptoBulkEntry {H : Type} : Lit × DataW H → Nat
  | (.string bytes, d) => bytes.length + uptoBulk d + 1
  | (_, d) => uptoBulk d + 1
 end
def uptoSmall : (H : Type) → List (DataW H) → Bool := fun _ ds => decide (uptoBulkAll ds ≤ 1048576)
def OpenSpec.upto (s : _root_.Go.ChangeSpec) : _root_.Go.OpenSpec := { _root_.Go.OpenSpec.ofChange s with cond := some uptoSmall }

/-- 'lodestarlaw01.NumRoots', WHERE WHAT IT READS IS OF BULK AT MOST 1048576: true; the input reads as it did. -/
def numRootsUptoRow : OpenClaim := { program := "ytbckkllhobcgjaa", sum := "7987eced147f5908fc56247c03c6ce04705d9982d67e46386ce6d9d37c4d6216", func := "lodestar/lodestarlaw01.NumRoots", spec := "numRoots", apart := false, narrowed := true }
def NumRootsUptoSaid : Prop := numRootsUptoRow.holds Try.pinned (OpenSpec.upto numRootsSpec)

/-- 'lodestarlaw01.NumLeft', WHERE WHAT IT READS IS OF BULK AT MOST 1048576: true; the input reads as it did. -/
def numLeftUptoRow : OpenClaim := { program := "ytbckkllhobcgjaa", sum := "7987eced147f5908fc56247c03c6ce04705d9982d67e46386ce6d9d37c4d6216", func := "lodestar/lodestarlaw01.NumLeft", spec := "numLeft", apart := false, narrowed := true }
def NumLeftUptoSaid : Prop := numLeftUptoRow.holds Try.pinned (OpenSpec.upto numLeftSpec)

/-- 'lodestarlaw01.NumUnlike', WHERE WHAT IT READS IS OF BULK AT MOST 1048576: true; the input reads as it did. -/
def numUnlikeUptoRow : OpenClaim := { program := "ytbckkllhobcgjaa", sum := "7987eced147f5908fc56247c03c6ce04705d9982d67e46386ce6d9d37c4d6216", func := "lodestar/lodestarlaw01.NumUnlike", spec := "numUnlike", apart := false, narrowed := true }
def NumUnlikeUptoSaid : Prop := numUnlikeUptoRow.holds Try.pinned (OpenSpec.upto numUnlikeSpec)

/-- 'lodestarlaw01.NumSums', WHERE WHAT IT READS IS OF BULK AT MOST 1048576: true; the input reads as it did. -/
def numSumsUptoRow : OpenClaim := { program := "ytbckkllhobcgjaa", sum := "7987eced147f5908fc56247c03c6ce04705d9982d67e46386ce6d9d37c4d6216", func := "lodestar/lodestarlaw01.NumSums", spec := "numSums", apart := false, narrowed := true }
def NumSumsUptoSaid : Prop := numSumsUptoRow.holds Try.pinned (OpenSpec.upto numSumsSpec)

/-- 'lodestarlaw01.NumDraws', WHERE WHAT IT READS IS OF BULK AT MOST 1048576: true; the input reads as it did. -/
def numDrawsUptoRow : OpenClaim := { program := "ytbckkllhobcgjaa", sum := "7987eced147f5908fc56247c03c6ce04705d9982d67e46386ce6d9d37c4d6216", func := "lodestar/lodestarlaw01.NumDraws", spec := "numDraws", apart := false, narrowed := true }
def NumDrawsUptoSaid : Prop := numDrawsUptoRow.holds Try.pinned (OpenSpec.upto numDrawsSpec)

/-- 'lodestarlaw01.NumBytes', WHERE WHAT IT READS IS OF BULK AT MOST 1048576: true; the input reads as it did. -/
def numBytesUptoRow : OpenClaim := { program := "ytbckkllhobcgjaa", sum := "7987eced147f5908fc56247c03c6ce04705d9982d67e46386ce6d9d37c4d6216", func := "lodestar/lodestarlaw01.NumBytes", spec := "numBytes", apart := false, narrowed := true }
def NumBytesUptoSaid : Prop := numBytesUptoRow.holds Try.pinned (OpenSpec.upto numBytesSpec)

/-- 'lodestarlaw06.VectorChecks', WHERE WHAT IT READS IS OF BULK AT MOST 1048576: true; the input reads as it did. -/
def vectorChecksUptoRow : OpenClaim := { program := "ytbckkllhobcgjaa", sum := "7987eced147f5908fc56247c03c6ce04705d9982d67e46386ce6d9d37c4d6216", func := "lodestar/lodestarlaw06.VectorChecks", spec := "vectorChecks", unfollowed := true, recurses := true, apart := false, narrowed := true }
def VectorChecksUptoSaid : Prop := vectorChecksUptoRow.holds Try.pinned (OpenSpec.upto vectorChecksSpec)

/-- 'lodestarlaw06.VectorScores', WHERE WHAT IT READS IS OF BULK AT MOST 1048576: true; the input reads as it did. -/
def vectorScoresUptoRow : OpenClaim := { program := "ytbckkllhobcgjaa", sum := "7987eced147f5908fc56247c03c6ce04705d9982d67e46386ce6d9d37c4d6216", func := "lodestar/lodestarlaw06.VectorScores", spec := "vectorScores", unfollowed := true, recurses := true, apart := false, narrowed := true }
def VectorScoresUptoSaid : Prop := vectorScoresUptoRow.holds Try.pinned (OpenSpec.upto vectorScoresSpec)

/-- 'lodestarlaw06.VectorRules', WHERE WHAT IT READS IS OF BULK AT MOST 1048576: true; the input reads as it did. -/
def vectorRulesUptoRow : OpenClaim := { program := "ytbckkllhobcgjaa", sum := "7987eced147f5908fc56247c03c6ce04705d9982d67e46386ce6d9d37c4d6216", func := "lodestar/lodestarlaw06.VectorRules", spec := "vectorRules", unfollowed := true, recurses := true, apart := false, narrowed := true }
def VectorRulesUptoSaid : Prop := vectorRulesUptoRow.holds Try.pinned (OpenSpec.upto vectorRulesSpec)

/-- 'lodestarlaw06.VectorTriangle', WHERE WHAT IT READS IS OF BULK AT MOST 1048576: true; the input reads as it did. -/
def vectorTriangleUptoRow : OpenClaim := { program := "ytbckkllhobcgjaa", sum := "7987eced147f5908fc56247c03c6ce04705d9982d67e46386ce6d9d37c4d6216", func := "lodestar/lodestarlaw06.VectorTriangle", spec := "vectorTriangle", unfollowed := true, recurses := true, apart := false, narrowed := true }
def VectorTriangleUptoSaid : Prop := vectorTriangleUptoRow.holds Try.pinned (OpenSpec.upto vectorTriangleSpec)

/-- 'lodestarlaw01.NumProducts', WHERE WHAT IT READS IS OF BULK AT MOST 1048576: true; the input reads as it did. -/
def numProductsUptoRow : OpenClaim := { program := "ytbckkllhobcgjaa", sum := "7987eced147f5908fc56247c03c6ce04705d9982d67e46386ce6d9d37c4d6216", func := "lodestar/lodestarlaw01.NumProducts", spec := "numProducts", apart := false, narrowed := true }
def NumProductsUptoSaid : Prop := numProductsUptoRow.holds Try.pinned (OpenSpec.upto numProductsSpec)

end Rows
end Go.Proofs.Ytbckkllhobcgjaa
