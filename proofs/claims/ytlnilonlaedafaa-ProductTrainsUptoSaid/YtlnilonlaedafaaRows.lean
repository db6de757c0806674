/-
  No cell of these rows narrows 'for every input' (looked for: loops, veiled, ifaces, maps, wideKeys, modest, calm, conditions, laid).
  DERIVED. THE GIVEN ROWS OF THIS SEAT. 10 by the template 'for every input the law returns true; each argument reads behind the call as it read before'; 0 by the template 'total and deterministic' (their statements: YtlnilonlaedafaaTotals.lean).
  GIVEN WITH THE SEED: the statements are not yours to turn. If you find one false, say at which input.
  Laid BY PROGRAM, IN A SANDBOX (cutbox-rows.mjs): the forced cells as the released guide's own fill.sh prints them over the translation fa071c44419f5e14… (all of the seat's roots in one cut). By AI agents, Wed Nov 11 2026. No macro, syntax, notation, axiom, sorry.
-/
import Derived.Test.YtlnilonlaedafaaChecked
import GoSem.Claim
import GoSem.ClaimJoined
import GoSem.ClaimMapViews
import Derived.JoinedTies
import Derived.KernelRfl
namespace Go.Proofs.Ytlnilonlaedafaa
/- THE CELL 'sum', in the pinned program and in every row, IS THE sha256 OF THE DUMP (.gsa) THAT YtlnilonlaedafaaProg.lean LOADS. Nothing in Lean hashes anything: it is a label: what it is worth is what the hold of that sum in a sandbox is worth. -/
noncomputable def Try.pinned : Pinned := { name := "ytlnilonlaedafaa", sum := "fa071c44419f5e14c01ed45b2da5f445b5619a5df5dc4749209aa12f37ee3e90", checked := Try.checked }
namespace Rows
def none {H : Type} : Left H := { results := [], args := [] }

/-- 'lodestarlaw18.MeansSteps': WHATEVER THE INPUT: true; the input reads as it did. -/
def meansStepsSpec : ChangeSpec := { name := "meansSteps", fn := fun _ => fun
  | [d1, d2, d3] => { results := [.lit (.bool true)], args := [d1, d2, d3] }
  | _ => none }
def meansStepsRow : OpenClaim := { program := "ytlnilonlaedafaa", sum := "fa071c44419f5e14c01ed45b2da5f445b5619a5df5dc4749209aa12f37ee3e90", func := "lodestar/lodestarlaw18.MeansSteps", spec := "meansSteps", unfollowed := true, recurses := true, apart := false }
def MeansStepsSaid : Prop := meansStepsRow.holds Try.pinned (OpenSpec.ofChange meansStepsSpec)

/-- ITS FALSE NEIGHBOUR: 'it returns false'. Refute it at one input. -/
def meansStepsWrong : ChangeSpec := { name := "meansSteps", fn := fun _ => fun
  | [d1, d2, d3] => { results := [.lit (.bool false)], args := [d1, d2, d3] }
  | _ => none }
def MeansStepsWrongFalsely : Prop := meansStepsRow.holds Try.pinned (OpenSpec.ofChange meansStepsWrong)

/-- 'lodestarlaw18.MeansTrains': WHATEVER THE INPUT: true; the input reads as it did. -/
def meansTrainsSpec : ChangeSpec := { name := "meansTrains", fn := fun _ => fun
  | [d1, d2, d3] => { results := [.lit (.bool true)], args := [d1, d2, d3] }
  | _ => none }
def meansTrainsRow : OpenClaim := { program := "ytlnilonlaedafaa", sum := "fa071c44419f5e14c01ed45b2da5f445b5619a5df5dc4749209aa12f37ee3e90", func := "lodestar/lodestarlaw18.MeansTrains", spec := "meansTrains", unfollowed := true, recurses := true, apart := false }
def MeansTrainsSaid : Prop := meansTrainsRow.holds Try.pinned (OpenSpec.ofChange meansTrainsSpec)

/-- ITS FALSE NEIGHBOUR: 'it returns false'. Refute it at one input. -/
def meansTrainsWrong : ChangeSpec := { name := "meansTrains", fn := fun _ => fun
  | [d1, d2, d3] => { results := [.lit (.bool false)], args := [d1, d2, d3] }
  | _ => none }
def MeansTrainsWrongFalsely : Prop := meansTrainsRow.holds Try.pinned (OpenSpec.ofChange meansTrainsWrong)

/-- 'lodestarlaw18.MeansStart': WHATEVER THE INPUT: true; the input reads as it did. -/
def meansStartSpec : ChangeSpec := { name := "meansStart", fn := fun _ => fun
  | [d1, d2, d3] => { results := [.lit (.bool true)], args := [d1, d2, d3] }
  | _ => none }
def meansStartRow : OpenClaim := { program := "ytlnilonlaedafaa", sum := "fa071c44419f5e14c01ed45b2da5f445b5619a5df5dc4749209aa12f37ee3e90", func := "lodestar/lodestarlaw18.MeansStart", spec := "meansStart", unfollowed := true, recurses := true, apart := false }
def MeansStartSaid : Prop := meansStartRow.holds Try.pinned (OpenSpec.ofChange meansStartSpec)

/-- ITS FALSE NEIGHBOUR: 'it returns false'. Refute it at one input. -/
def meansStartWrong : ChangeSpec := { name := "meansStart", fn := fun _ => fun
  | [d1, d2, d3] => { results := [.lit (.bool false)], args := [d1, d2, d3] }
  | _ => none }
def MeansStartWrongFalsely : Prop := meansStartRow.holds Try.pinned (OpenSpec.ofChange meansStartWrong)

/-- 'lodestarlaw18.MeansInside': WHATEVER THE INPUT: true; the input reads as it did. -/
def meansInsideSpec : ChangeSpec := { name := "meansInside", fn := fun _ => fun
  | [d1, d2] => { results := [.lit (.bool true)], args := [d1, d2] }
  | _ => none }
def meansInsideRow : OpenClaim := { program := "ytlnilonlaedafaa", sum := "fa071c44419f5e14c01ed45b2da5f445b5619a5df5dc4749209aa12f37ee3e90", func := "lodestar/lodestarlaw18.MeansInside", spec := "meansInside", unfollowed := true, recurses := true, apart := false }
def MeansInsideSaid : Prop := meansInsideRow.holds Try.pinned (OpenSpec.ofChange meansInsideSpec)

/-- ITS FALSE NEIGHBOUR: 'it returns false'. Refute it at one input. -/
def meansInsideWrong : ChangeSpec := { name := "meansInside", fn := fun _ => fun
  | [d1, d2] => { results := [.lit (.bool false)], args := [d1, d2] }
  | _ => none }
def MeansInsideWrongFalsely : Prop := meansInsideRow.holds Try.pinned (OpenSpec.ofChange meansInsideWrong)

/-- 'lodestarlaw18.MeansAll': WHATEVER THE INPUT: true; the input reads as it did. -/
def meansAllSpec : ChangeSpec := { name := "meansAll", fn := fun _ => fun
  | [d1, d2, d3] => { results := [.lit (.bool true)], args := [d1, d2, d3] }
  | _ => none }
def meansAllRow : OpenClaim := { program := "ytlnilonlaedafaa", sum := "fa071c44419f5e14c01ed45b2da5f445b5619a5df5dc4749209aa12f37ee3e90", func := "lodestar/lodestarlaw18.MeansAll", spec := "meansAll", unfollowed := true, recurses := true, apart := false }
def MeansAllSaid : Prop := meansAllRow.holds Try.pinned (OpenSpec.ofChange meansAllSpec)

/-- ITS FALSE NEIGHBOUR: 'it returns false'. Refute it at one input. -/
def meansAllWrong : ChangeSpec := { name := "meansAll", fn := fun _ => fun
  | [d1, d2, d3] => { results := [.lit (.bool false)], args := [d1, d2, d3] }
  | _ => none }
def MeansAllWrongFalsely : Prop := meansAllRow.holds Try.pinned (OpenSpec.ofChange meansAllWrong)

/-- 'lodestarlaw19.ProductCodes': WHATEVER THE INPUT: true; the input reads as it did. -/
def productCodesSpec : ChangeSpec := { name := "productCodes", fn := fun _ => fun
  | [d1, d2, d3] => { results := [.lit (.bool true)], args := [d1, d2, d3] }
  | _ => none }
def productCodesRow : OpenClaim := { program := "ytlnilonlaedafaa", sum := "fa071c44419f5e14c01ed45b2da5f445b5619a5df5dc4749209aa12f37ee3e90", func := "lodestar/lodestarlaw19.ProductCodes", spec := "productCodes", unfollowed := true, recurses := true, apart := false }
def ProductCodesSaid : Prop := productCodesRow.holds Try.pinned (OpenSpec.ofChange productCodesSpec)

/-- ITS FALSE NEIGHBOUR: 'it returns false'. Refute it at one input. -/
def productCodesWrong : ChangeSpec := { name := "productCodes", fn := fun _ => fun
  | [d1, d2, d3] => { results := [.lit (.bool false)], args := [d1, d2, d3] }
  | _ => none }
def ProductCodesWrongFalsely : Prop := productCodesRow.holds Try.pinned (OpenSpec.ofChange productCodesWrong)

/-- 'lodestarlaw19.ProductTables': WHATEVER THE INPUT: true; the input reads as it did. -/
def productTablesSpec : ChangeSpec := { name := "productTables", fn := fun _ => fun
  | [d1, d2, d3] => { results := [.lit (.bool true)], args := [d1, d2, d3] }
  | _ => none }
def productTablesRow : OpenClaim := { program := "ytlnilonlaedafaa", sum := "fa071c44419f5e14c01ed45b2da5f445b5619a5df5dc4749209aa12f37ee3e90", func := "lodestar/lodestarlaw19.ProductTables", spec := "productTables", unfollowed := true, recurses := true, apart := false }
def ProductTablesSaid : Prop := productTablesRow.holds Try.pinned (OpenSpec.ofChange productTablesSpec)

/-- ITS FALSE NEIGHBOUR: 'it returns false'. Refute it at one input. -/
def productTablesWrong : ChangeSpec := { name := "productTables", fn := fun _ => fun
  | [d1, d2, d3] => { results := [.lit (.bool false)], args := [d1, d2, d3] }
  | _ => none }
def ProductTablesWrongFalsely : Prop := productTablesRow.holds Try.pinned (OpenSpec.ofChange productTablesWrong)

/-- 'lodestarlaw19.ProductTrue': WHATEVER THE INPUT: true; the input reads as it did. -/
def productTrueSpec : ChangeSpec := { name := "productTrue", fn := fun _ => fun
  | [d1, d2, d3] => { results := [.lit (.bool true)], args := [d1, d2, d3] }
  | _ => none }
def productTrueRow : OpenClaim := { program := "ytlnilonlaedafaa", sum := "fa071c44419f5e14c01ed45b2da5f445b5619a5df5dc4749209aa12f37ee3e90", func := "lodestar/lodestarlaw19.ProductTrue", spec := "productTrue", unfollowed := true, recurses := true, apart := false }
def ProductTrueSaid : Prop := productTrueRow.holds Try.pinned (OpenSpec.ofChange productTrueSpec)

/-- ITS FALSE NEIGHBOUR: 'it returns false'. Refute it at one input. -/
def productTrueWrong : ChangeSpec := { name := "productTrue", fn := fun _ => fun
  | [d1, d2, d3] => { results := [.lit (.bool false)], args := [d1, d2, d3] }
  | _ => none }
def ProductTrueWrongFalsely : Prop := productTrueRow.holds Try.pinned (OpenSpec.ofChange productTrueWrong)

/-- 'lodestarlaw19.ProductNearest': WHATEVER THE INPUT: true; the input reads as it did. -/
def productNearestSpec : ChangeSpec := { name := "productNearest", fn := fun _ => fun
  | [d1, d2, d3] => { results := [.lit (.bool true)], args := [d1, d2, d3] }
  | _ => none }
def productNearestRow : OpenClaim := { program := "ytlnilonlaedafaa", sum := "fa071c44419f5e14c01ed45b2da5f445b5619a5df5dc4749209aa12f37ee3e90", func := "lodestar/lodestarlaw19.ProductNearest", spec := "productNearest", unfollowed := true, recurses := true, apart := false }
def ProductNearestSaid : Prop := productNearestRow.holds Try.pinned (OpenSpec.ofChange productNearestSpec)

/-- ITS FALSE NEIGHBOUR: 'it returns false'. Refute it at one input. -/
def productNearestWrong : ChangeSpec := { name := "productNearest", fn := fun _ => fun
  | [d1, d2, d3] => { results := [.lit (.bool false)], args := [d1, d2, d3] }
  | _ => none }
def ProductNearestWrongFalsely : Prop := productNearestRow.holds Try.pinned (OpenSpec.ofChange productNearestWrong)

/-- 'lodestarlaw19.ProductTrains': WHATEVER THE INPUT: true; the input reads as it did. -/
def productTrainsSpec : ChangeSpec := { name := "productTrains", fn := fun _ => fun
  | [d1, d2, d3] => { results := [.lit (.bool true)], args := [d1, d2, d3] }
  | _ => none }
def productTrainsRow : OpenClaim := { program := "ytlnilonlaedafaa", sum := "fa071c44419f5e14c01ed45b2da5f445b5619a5df5dc4749209aa12f37ee3e90", func := "lodestar/lodestarlaw19.ProductTrains", spec := "productTrains", unfollowed := true, recurses := true, apart := false }
def ProductTrainsSaid : Prop := productTrainsRow.holds Try.pinned (OpenSpec.ofChange productTrainsSpec)

/-- ITS FALSE NEIGHBOUR: 'it returns false'. Refute it at one input. -/
def productTrainsWrong : ChangeSpec := { name := "productTrains", fn := fun _ => fun
  | [d1, d2, d3] => { results := [.lit (.bool false)], args := [d1, d2, d3] }
  | _ => none }
def ProductTrainsWrongFalsely : Prop := productTrainsRow.holds Try.pinned (OpenSpec.ofChange productTrainsWrong)

/- THE SECOND FORM. 'bulk': how many values and letters a reading holds, each counted each time it is reached (what is shared counts as often as it is met; a slice's spare places count too). A statement '..UptoSaid' is the law's where the arguments, and the package variables that the reading takes, are together of bulk at most 1048576: NARROWER than '..Said'. Prove '..Said' where nothing that the law and all that it calls make is longer than what came in: it says more and counts as full. Else prove '..UptoSaid'. A law counts once. -/
mutual
def uptoBulk {H : Type} : DataW H → Nat
  | .lit (.string bytes) => bytes.length + 1
  | .lit _ => 1
  | .nil => 1
  | .ptr d => uptoBulk d + 1
  | .slice elems spare => uptoBulkAll elems + uptoBulkAll spare + 1
  | .agg parts => uptoBulkAll parts + 1
  | .iface _ d => uptoBulk d + 1
  | .map entries => uptoBulkEntries entries + 1
  | .held _ => 1
def uptoBulkAll {H : Type} : List (DataW H) → Nat
  | [] => 0
  | d :: r => uptoBulk d + uptoBulkAll r
def uptoBulkEntries {H : Type} : List (Lit × DataW H) → Nat
  | [] => 0
  | x :: r => uptoBulkEntry x + uptoBulkEntries r
def uptoBulkEntry {H : Type} : Lit × DataW H → Nat
  | (.string bytes, d) => bytes.length + uptoBulk d + 1
  | (_, d) => uptoBulk d + 1
 end
def uptoSmall : (H : Type) → List (DataW H) → Bool := fun _ ds => decide (uptoBulkAll ds ≤ 1048576)
def OpenSpec.upto (s : _root_.Go.ChangeSpec) : _root_.Go.OpenSpec := { _root_.Go.OpenSpec.ofChange s with cond := some uptoSmall }

/-- 'lodestarlaw18.MeansSteps', WHERE WHAT IT READS IS OF BULK AT MOST 1048576: true; the input reads as it did. -/
def meansStepsUptoRow : OpenClaim := { program := "ytlnilonlaedafaa", sum := "fa071c44419f5e14c01ed45b2da5f445b5619a5df5dc4749209aa12f37ee3e90", func := "lodestar/lodestarlaw18.MeansSteps", spec := "meansSteps", unfollowed := true, recurses := true, apart := false, narrowed := true }
def MeansStepsUptoSaid : Prop := meansStepsUptoRow.holds Try.pinned (OpenSpec.upto meansStepsSpec)

/-- 'lodestarlaw18.MeansTrains', WHERE WHAT IT READS IS OF BULK AT MOST 1048576: true; the input reads as it did. -/
def meansTrainsUptoRow : OpenClaim := { program := "ytlnilonlaedafaa", sum := "fa071c44419f5e14c01ed45b2da5f445b5619a5df5dc4749209aa12f37ee3e90", func := "lodestar/lodestarlaw18.MeansTrains", spec := "meansTrains", unfollowed := true, recurses := true, apart := false, narrowed := true }
def MeansTrainsUptoSaid : Prop := meansTrainsUptoRow.holds Try.pinned (OpenSpec.upto meansTrainsSpec)

/-- 'lodestarlaw18.MeansStart', WHERE WHAT IT READS IS OF BULK AT MOST 1048576: true; the input reads as it did. -/
def meansStartUptoRow : OpenClaim := { program := "ytlnilonlaedafaa", sum := "fa071c44419f5e14c01ed45b2da5f445b5619a5df5dc4749209aa12f37ee3e90", func := "lodestar/lodestarlaw18.MeansStart", spec := "meansStart", unfollowed := true, recurses := true, apart := false, narrowed := true }
def MeansStartUptoSaid : Prop := meansStartUptoRow.holds Try.pinned (OpenSpec.upto meansStartSpec)

/-- 'lodestarlaw18.MeansInside', WHERE WHAT IT READS IS OF BULK AT MOST 1048576: true; the input reads as it did. -/
def meansInsideUptoRow : OpenClaim := { program := "ytlnilonlaedafaa", sum := "fa071c44419f5e14c01ed45b2da5f445b5619a5df5dc4749209aa12f37ee3e90", func := "lodestar/lodestarlaw18.MeansInside", spec := "meansInside", unfollowed := true, recurses := true, apart := false, narrowed := true }
def MeansInsideUptoSaid : Prop := meansInsideUptoRow.holds Try.pinned (OpenSpec.upto meansInsideSpec)

/-- 'lodestarlaw18.MeansAll', WHERE WHAT IT READS IS OF BULK AT MOST 1048576: true; the input reads as it did. -/
def meansAllUptoRow : OpenClaim := { program := "ytlnilonlaedafaa", sum := "fa071c44419f5e14c01ed45b2da5f445b5619a5df5dc4749209aa12f37ee3e90", func := "lodestar/lodestarlaw18.MeansAll", spec := "meansAll", unfollowed := true, recurses := true, apart := false, narrowed := true }
def MeansAllUptoSaid : Prop := meansAllUptoRow.holds Try.pinned (OpenSpec.upto meansAllSpec)

/-- 'lodestarlaw19.ProductCodes', WHERE WHAT IT READS IS OF BULK AT MOST 1048576: true; the input reads as it did. -/
def productCodesUptoRow : OpenClaim := { program := "ytlnilonlaedafaa", sum := "fa071c44419f5e14c01ed45b2da5f445b5619a5df5dc4749209aa12f37ee3e90", func := "lodestar/lodestarlaw19.ProductCodes", spec := "productCodes", unfollowed := true, recurses := true, apart := false, narrowed := true }
def ProductCodesUptoSaid : Prop := productCodesUptoRow.holds Try.pinned (OpenSpec.upto productCodesSpec)

/-- 'lodestarlaw19.ProductTables', WHERE WHAT IT READS IS OF BULK AT MOST 1048576: true; the input reads as it did. -/
def productTablesUptoRow : OpenClaim := { program := "ytlnilonlaedafaa", sum := "fa071c44419f5e14c01ed45b2da5f445b5619a5df5dc4749209aa12f37ee3e90", func := "lodestar/lodestarlaw19.ProductTables", spec := "productTables", unfollowed := true, recurses := true, apart := false, narrowed := true }
def ProductTablesUptoSaid : Prop := productTablesUptoRow.holds Try.pinned (OpenSpec.upto productTablesSpec)

/-- 'lodestarlaw19.ProductTrue', WHERE WHAT IT READS IS OF BULK AT MOST 1048576: true; the input reads as it did. -/
def productTrueUptoRow : OpenClaim := { program := "ytlnilonlaedafaa", sum := "fa071c44419f5e14c01ed45b2da5f445b5619a5df5dc4749209aa12f37ee3e90", func := "lodestar/lodestarlaw19.ProductTrue", spec := "productTrue", unfollowed := true, recurses := true, apart := false, narrowed := true }
def ProductTrueUptoSaid : Prop := productTrueUptoRow.holds Try.pinned (OpenSpec.upto productTrueSpec)

/-- 'lodestarlaw19.ProductNearest', WHERE WHAT IT READS IS OF BULK AT MOST 1048576: true; the input reads as it did. -/
def productNearestUptoRow : OpenClaim := { program := "ytlnilonlaedafaa", sum := "fa071c44419f5e14c01ed45b2da5f445b5619a5df5dc4749209aa12f37ee3e90", func := "lodestar/lodestarlaw19.ProductNearest", spec := "productNearest", unfollowed := true, recurses := true, apart := false, narrowed := true }
def ProductNearestUptoSaid : Prop := productNearestUptoRow.holds Try.pinned (OpenSpec.upto productNearestSpec)

/-- 'lodestarlaw19.ProductTrains', WHERE WHAT IT READS IS OF BULK AT MOST 1048576: true; the input reads as it did. -/
def productTrainsUptoRow : OpenClaim := { program := "ytlnilonlaedafaa", sum := "fa071c44419f5e14c01ed45b2da5f445b5619a5df5dc4749209aa12f37ee3e90", func := "lodestar/lodestarlaw19.ProductTrains", spec := "productTrains", unfollowed := true, recurses := true, apart := false, narrowed := true }
def ProductTrainsUptoSaid : Prop := productTrainsUptoRow.holds Try.pinned (OpenSpec.upto productTrainsSpec)

end Rows
end Go.Proofs.Ytlnilonlaedafaa
