/-
  NARROWER THAN 'FOR EVERY INPUT', by the rows' own cells (each row's printed sentence says how): PlansOpposite: loops · RulesLess: loops · RulesKeep: loops · RulesEnd: loops.
  DERIVED. THE GIVEN ROWS OF THIS SEAT. 7 by the template 'for every input the law returns true; each argument reads behind the call as it read before'; 0 by the template 'total and deterministic' (their statements: YteoddaeipckgcaaTotals.lean).
  GIVEN WITH THE SEED: the statements are not yours to turn. If you find one false, say at which input.
  Laid BY PROGRAM, IN A SANDBOX (cutbox-rows.mjs): the forced cells as the released guide's own fill.sh prints them over the translation e49611a9ddb21479… (all of the seat's roots in one cut). By AI agents, Wed Nov 11 2026. No macro, syntax, notation, axiom, sorry.
-/
import Derived.Test.YteoddaeipckgcaaChecked
import GoSem.Claim
import GoSem.ClaimJoined
import GoSem.ClaimMapViews
import Derived.JoinedTies
import Derived.KernelRfl
namespace Go.Proofs.Yteoddaeipckgcaa
/- THE CELL 'sum', in the pinned program and in every row, IS THE sha256 OF THE DUMP (.gsa) THAT YteoddaeipckgcaaProg.lean LOADS. Nothing in Lean hashes anything: it is a label: what it is worth is what the hold of that sum in a sandbox is worth. -/
noncomputable def Try.pinned : Pinned := { name := "yteoddaeipckgcaa", sum := "e49611a9ddb21479a59c1af765716c559bd0cabefa1f8f64d54fc5900493585f", checked := Try.checked }
namespace Rows
def none {H : Type} : Left H := { results := [], args := [] }

/-- 'lodestarlaw24.PlansAll': WHATEVER THE INPUT: true; the input reads as it did. -/
def plansAllSpec : ChangeSpec := { name := "plansAll", fn := fun _ => fun
  | [d] => { results := [.lit (.bool true)], args := [d] }
  | _ => none }
def plansAllRow : OpenClaim := { program := "yteoddaeipckgcaa", sum := "e49611a9ddb21479a59c1af765716c559bd0cabefa1f8f64d54fc5900493585f", func := "lodestar/lodestarlaw24.PlansAll", spec := "plansAll", unfollowed := true, recurses := true, apart := false }
def PlansAllSaid : Prop := plansAllRow.holds Try.pinned (OpenSpec.ofChange plansAllSpec)

/-- ITS FALSE NEIGHBOUR: 'it returns false'. Refute it at one input. -/
def plansAllWrong : ChangeSpec := { name := "plansAll", fn := fun _ => fun
  | [d] => { results := [.lit (.bool false)], args := [d] }
  | _ => none }
def PlansAllWrongFalsely : Prop := plansAllRow.holds Try.pinned (OpenSpec.ofChange plansAllWrong)

/-- 'lodestarlaw24.PlansChoice': WHATEVER THE INPUT: true; the input reads as it did. -/
def plansChoiceSpec : ChangeSpec := { name := "plansChoice", fn := fun _ => fun
  | [d1, d2, d3] => { results := [.lit (.bool true)], args := [d1, d2, d3] }
  | _ => none }
def plansChoiceRow : OpenClaim := { program := "yteoddaeipckgcaa", sum := "e49611a9ddb21479a59c1af765716c559bd0cabefa1f8f64d54fc5900493585f", func := "lodestar/lodestarlaw24.PlansChoice", spec := "plansChoice", unfollowed := true, recurses := true, apart := false }
def PlansChoiceSaid : Prop := plansChoiceRow.holds Try.pinned (OpenSpec.ofChange plansChoiceSpec)

/-- ITS FALSE NEIGHBOUR: 'it returns false'. Refute it at one input. -/
def plansChoiceWrong : ChangeSpec := { name := "plansChoice", fn := fun _ => fun
  | [d1, d2, d3] => { results := [.lit (.bool false)], args := [d1, d2, d3] }
  | _ => none }
def PlansChoiceWrongFalsely : Prop := plansChoiceRow.holds Try.pinned (OpenSpec.ofChange plansChoiceWrong)

/-- 'lodestarlaw24.PlansExact': WHATEVER THE INPUT: true; the input reads as it did. -/
def plansExactSpec : ChangeSpec := { name := "plansExact", fn := fun _ => fun
  | [d] => { results := [.lit (.bool true)], args := [d] }
  | _ => none }
def plansExactRow : OpenClaim := { program := "yteoddaeipckgcaa", sum := "e49611a9ddb21479a59c1af765716c559bd0cabefa1f8f64d54fc5900493585f", func := "lodestar/lodestarlaw24.PlansExact", spec := "plansExact", unfollowed := true, recurses := true, apart := false }
def PlansExactSaid : Prop := plansExactRow.holds Try.pinned (OpenSpec.ofChange plansExactSpec)

/-- ITS FALSE NEIGHBOUR: 'it returns false'. Refute it at one input. -/
def plansExactWrong : ChangeSpec := { name := "plansExact", fn := fun _ => fun
  | [d] => { results := [.lit (.bool false)], args := [d] }
  | _ => none }
def PlansExactWrongFalsely : Prop := plansExactRow.holds Try.pinned (OpenSpec.ofChange plansExactWrong)

/-- 'lodestarlaw24.PlansOpposite': WHATEVER THE INPUT: true; the input reads as it did. -/
def plansOppositeSpec : ChangeSpec := { name := "plansOpposite", fn := fun _ => fun
  | [d1, d2, d3] => { results := [.lit (.bool true)], args := [d1, d2, d3] }
  | _ => none }
def plansOppositeRow : OpenClaim := { program := "yteoddaeipckgcaa", sum := "e49611a9ddb21479a59c1af765716c559bd0cabefa1f8f64d54fc5900493585f", func := "lodestar/lodestarlaw24.PlansOpposite", spec := "plansOpposite", unfollowed := true, recurses := true, loops := true, apart := false }
def PlansOppositeSaid : Prop := plansOppositeRow.holds Try.pinned (OpenSpec.ofChange plansOppositeSpec)

/-- ITS FALSE NEIGHBOUR: 'it returns false'. Refute it at one input. -/
def plansOppositeWrong : ChangeSpec := { name := "plansOpposite", fn := fun _ => fun
  | [d1, d2, d3] => { results := [.lit (.bool false)], args := [d1, d2, d3] }
  | _ => none }
def PlansOppositeWrongFalsely : Prop := plansOppositeRow.holds Try.pinned (OpenSpec.ofChange plansOppositeWrong)

/-- 'lodestarlaw23.RulesLess': WHATEVER THE INPUT: true; the input reads as it did. -/
def rulesLessSpec : ChangeSpec := { name := "rulesLess", fn := fun _ => fun
  | [d] => { results := [.lit (.bool true)], args := [d] }
  | _ => none }
def rulesLessRow : OpenClaim := { program := "yteoddaeipckgcaa", sum := "e49611a9ddb21479a59c1af765716c559bd0cabefa1f8f64d54fc5900493585f", func := "lodestar/lodestarlaw23.RulesLess", spec := "rulesLess", unfollowed := true, recurses := true, loops := true, apart := false }
def RulesLessSaid : Prop := rulesLessRow.holds Try.pinned (OpenSpec.ofChange rulesLessSpec)

/-- ITS FALSE NEIGHBOUR: 'it returns false'. Refute it at one input. -/
def rulesLessWrong : ChangeSpec := { name := "rulesLess", fn := fun _ => fun
  | [d] => { results := [.lit (.bool false)], args := [d] }
  | _ => none }
def RulesLessWrongFalsely : Prop := rulesLessRow.holds Try.pinned (OpenSpec.ofChange rulesLessWrong)

/-- 'lodestarlaw23.RulesKeep': WHATEVER THE INPUT: true; the input reads as it did. -/
def rulesKeepSpec : ChangeSpec := { name := "rulesKeep", fn := fun _ => fun
  | [d1, d2] => { results := [.lit (.bool true)], args := [d1, d2] }
  | _ => none }
def rulesKeepRow : OpenClaim := { program := "yteoddaeipckgcaa", sum := "e49611a9ddb21479a59c1af765716c559bd0cabefa1f8f64d54fc5900493585f", func := "lodestar/lodestarlaw23.RulesKeep", spec := "rulesKeep", unfollowed := true, recurses := true, loops := true, apart := false }
def RulesKeepSaid : Prop := rulesKeepRow.holds Try.pinned (OpenSpec.ofChange rulesKeepSpec)

/-- ITS FALSE NEIGHBOUR: 'it returns false'. Refute it at one input. -/
def rulesKeepWrong : ChangeSpec := { name := "rulesKeep", fn := fun _ => fun
  | [d1, d2] => { results := [.lit (.bool false)], args := [d1, d2] }
  | _ => none }
def RulesKeepWrongFalsely : Prop := rulesKeepRow.holds Try.pinned (OpenSpec.ofChange rulesKeepWrong)

/-- 'lodestarlaw23.RulesEnd': WHATEVER THE INPUT: true; the input reads as it did. -/
def rulesEndSpec : ChangeSpec := { name := "rulesEnd", fn := fun _ => fun
  | [d] => { results := [.lit (.bool true)], args := [d] }
  | _ => none }
def rulesEndRow : OpenClaim := { program := "yteoddaeipckgcaa", sum := "e49611a9ddb21479a59c1af765716c559bd0cabefa1f8f64d54fc5900493585f", func := "lodestar/lodestarlaw23.RulesEnd", spec := "rulesEnd", unfollowed := true, recurses := true, loops := true, apart := false }
def RulesEndSaid : Prop := rulesEndRow.holds Try.pinned (OpenSpec.ofChange rulesEndSpec)

/-- ITS FALSE NEIGHBOUR: 'it returns false'. Refute it at one input. -/
def rulesEndWrong : ChangeSpec := { name := "rulesEnd", fn := fun _ => fun
  | [d] => { results := [.lit (.bool false)], args := [d] }
  | _ => none }
def RulesEndWrongFalsely : Prop := rulesEndRow.holds Try.pinned (OpenSpec.ofChange rulesEndWrong)

/- THE SECOND FORM. 'bulk': how many values and letters a reading holds, each counted each time it is reached (what is shared counts as often as it is met; a slice's spare places count too). A statement '..UptoSaid' is the law's where the arguments, and the package variables that the reading takes, are together of bulk at most 1048576: NARROWER than '..Said'. Prove '..Said' where nothing that the law and all that it calls make is longer than what came in: it says more and counts as full. Else prove '..UptoSaid'. A law counts once. -/
mutual
def uptoBulk {H : Type} : DataW H → Nat
  | .lit (.string bytes) => bytes.length + 1
  | .lit _ => 1
  | .nil => 1
  | .ptr d => uptoBulk d + 1
  | .slice elems spare => uptoBulkAll elems + uptoBulkAll spare + 1
  | .agg parts => uptoBulkAll parts + 1
  | .iface _ d => uptoBulk d + 1
  | .map entries => uptoBulkEntries entries + 1
  | .held _ => 1
def uptoBulkAll {H : Type} : List (DataW H) → Nat
  | [] => 0
  | d :: r => uptoBulk d + uptoBulkAll r
def uptoBulkEntries {H : Type} : List (Lit × DataW H) → Nat
  | [] => 0
  | x :: r => uptoBulkEntry x + uptoBulkEntries r
def uptoBulkEntry {H : Type} : Lit × DataW H → Nat
  | (.string bytes, d) => bytes.length + uptoBulk d + 1
  | (_, d) => uptoBulk d + 1
 end
def uptoSmall : (H : Type) → List (DataW H) → Bool := fun _ ds => decide (uptoBulkAll ds ≤ 1048576)
def OpenSpec.upto (s : _root_.Go.ChangeSpec) : _root_.Go.OpenSpec := { _root_.Go.OpenSpec.ofChange s with cond := some uptoSmall }

/-- 'lodestarlaw24.PlansAll', WHERE WHAT IT READS IS OF BULK AT MOST 1048576: true; the input reads as it did. -/
def plansAllUptoRow : OpenClaim := { program := "yteoddaeipckgcaa", sum := "e49611a9ddb21479a59c1af765716c559bd0cabefa1f8f64d54fc5900493585f", func := "lodestar/lodestarlaw24.PlansAll", spec := "plansAll", unfollowed := true, recurses := true, apart := false, narrowed := true }
def PlansAllUptoSaid : Prop := plansAllUptoRow.holds Try.pinned (OpenSpec.upto plansAllSpec)

/-- 'lodestarlaw24.PlansChoice', WHERE WHAT IT READS IS OF BULK AT MOST 1048576: true; the input reads as it did. -/
def plansChoiceUptoRow : OpenClaim := { program := "yteoddaeipckgcaa", sum := "e49611a9ddb21479a59c1af765716c559bd0cabefa1f8f64d54fc5900493585f", func := "lodestar/lodestarlaw24.PlansChoice", spec := "plansChoice", unfollowed := true, recurses := true, apart := false, narrowed := true }
def PlansChoiceUptoSaid : Prop := plansChoiceUptoRow.holds Try.pinned (OpenSpec.upto plansChoiceSpec)

/-- 'lodestarlaw24.PlansExact', WHERE WHAT IT READS IS OF BULK AT MOST 1048576: true; the input reads as it did. -/
def plansExactUptoRow : OpenClaim := { program := "yteoddaeipckgcaa", sum := "e49611a9ddb21479a59c1af765716c559bd0cabefa1f8f64d54fc5900493585f", func := "lodestar/lodestarlaw24.PlansExact", spec := "plansExact", unfollowed := true, recurses := true, apart := false, narrowed := true }
def PlansExactUptoSaid : Prop := plansExactUptoRow.holds Try.pinned (OpenSpec.upto plansExactSpec)

/-- 'lodestarlaw24.PlansOpposite', WHERE WHAT IT READS IS OF BULK AT MOST 1048576: true; the input reads as it did. -/
def plansOppositeUptoRow : OpenClaim := { program := "yteoddaeipckgcaa", sum := "e49611a9ddb21479a59c1af765716c559bd0cabefa1f8f64d54fc5900493585f", func := "lodestar/lodestarlaw24.PlansOpposite", spec := "plansOpposite", unfollowed := true, recurses := true, loops := true, apart := false, narrowed := true }
def PlansOppositeUptoSaid : Prop := plansOppositeUptoRow.holds Try.pinned (OpenSpec.upto plansOppositeSpec)

/-- 'lodestarlaw23.RulesLess', WHERE WHAT IT READS IS OF BULK AT MOST 1048576: true; the input reads as it did. -/
def rulesLessUptoRow : OpenClaim := { program := "yteoddaeipckgcaa", sum := "e49611a9ddb21479a59c1af765716c559bd0cabefa1f8f64d54fc5900493585f", func := "lodestar/lodestarlaw23.RulesLess", spec := "rulesLess", unfollowed := true, recurses := true, loops := true, apart := false, narrowed := true }
def RulesLessUptoSaid : Prop := rulesLessUptoRow.holds Try.pinned (OpenSpec.upto rulesLessSpec)

/-- 'lodestarlaw23.RulesKeep', WHERE WHAT IT READS IS OF BULK AT MOST 1048576: true; the input reads as it did. -/
def rulesKeepUptoRow : OpenClaim := { program := "yteoddaeipckgcaa", sum := "e49611a9ddb21479a59c1af765716c559bd0cabefa1f8f64d54fc5900493585f", func := "lodestar/lodestarlaw23.RulesKeep", spec := "rulesKeep", unfollowed := true, recurses := true, loops := true, apart := false, narrowed := true }
def RulesKeepUptoSaid : Prop := rulesKeepUptoRow.holds Try.pinned (OpenSpec.upto rulesKeepSpec)

/-- 'lodestarlaw23.RulesEnd', WHERE WHAT IT READS IS OF BULK AT MOST 1048576: true; the input reads as it did. -/
def rulesEndUptoRow : OpenClaim := { program := "yteoddaeipckgcaa", sum := "e49611a9ddb21479a59c1af765716c559bd0cabefa1f8f64d54fc5900493585f", func := "lodestar/lodestarlaw23.RulesEnd", spec := "rulesEnd", unfollowed := true, recurses := true, loops := true, apart := false, narrowed := true }
def RulesEndUptoSaid : Prop := rulesEndUptoRow.holds Try.pinned (OpenSpec.upto rulesEndSpec)

end Rows
end Go.Proofs.Yteoddaeipckgcaa
