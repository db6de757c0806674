/-
  No cell of these rows narrows 'for every input' (looked for: loops, veiled, ifaces, maps, wideKeys, modest, calm, conditions, laid).
  DERIVED. THE GIVEN ROWS OF THIS SEAT. 11 by the template 'for every input the law returns true; each argument reads behind the call as it read before'; 0 by the template 'total and deterministic' (their statements: YtgmjgognpabmdaaTotals.lean).
  GIVEN WITH THE SEED: the statements are not yours to turn. If you find one false, say at which input.
  Laid BY PROGRAM, IN A SANDBOX (cutbox-rows.mjs): the forced cells as the released guide's own fill.sh prints them over the translation bd9f82408ea444f6… (all of the seat's roots in one cut). By AI agents, Wed Nov 11 2026. No macro, syntax, notation, axiom, sorry.
-/
import Derived.Test.YtgmjgognpabmdaaChecked
import GoSem.Claim
import GoSem.ClaimJoined
import GoSem.ClaimMapViews
import Derived.JoinedTies
import Derived.KernelRfl
namespace Go.Proofs.Ytgmjgognpabmdaa
/- THE CELL 'sum', in the pinned program and in every row, IS THE sha256 OF THE DUMP (.gsa) THAT YtgmjgognpabmdaaProg.lean LOADS. Nothing in Lean hashes anything: it is a label: what it is worth is what the hold of that sum in a sandbox is worth. -/
noncomputable def Try.pinned : Pinned := { name := "ytgmjgognpabmdaa", sum := "bd9f82408ea444f612807007bce52f61d8f4f6f5e439ac7d7511d97f82845f6b", checked := Try.checked }
namespace Rows
def none {H : Type} : Left H := { results := [], args := [] }

/-- 'lodestarlaw07.TopkOrders': WHATEVER THE INPUT: true; the input reads as it did. -/
def topkOrdersSpec : ChangeSpec := { name := "topkOrders", fn := fun _ => fun
  | [d1, d2, d3] => { results := [.lit (.bool true)], args := [d1, d2, d3] }
  | _ => none }
def topkOrdersRow : OpenClaim := { program := "ytgmjgognpabmdaa", sum := "bd9f82408ea444f612807007bce52f61d8f4f6f5e439ac7d7511d97f82845f6b", func := "lodestar/lodestarlaw07.TopkOrders", spec := "topkOrders", unfollowed := true, recurses := true, plainKeys := false, apart := false }
def TopkOrdersSaid : Prop := topkOrdersRow.holds Try.pinned (OpenSpec.ofChange topkOrdersSpec)

/-- ITS FALSE NEIGHBOUR: 'it returns false'. Refute it at one input. -/
def topkOrdersWrong : ChangeSpec := { name := "topkOrders", fn := fun _ => fun
  | [d1, d2, d3] => { results := [.lit (.bool false)], args := [d1, d2, d3] }
  | _ => none }
def TopkOrdersWrongFalsely : Prop := topkOrdersRow.holds Try.pinned (OpenSpec.ofChange topkOrdersWrong)

/-- 'lodestarlaw07.TopkBest': WHATEVER THE INPUT: true; the input reads as it did. -/
def topkBestSpec : ChangeSpec := { name := "topkBest", fn := fun _ => fun
  | [d1, d2, d3] => { results := [.lit (.bool true)], args := [d1, d2, d3] }
  | _ => none }
def topkBestRow : OpenClaim := { program := "ytgmjgognpabmdaa", sum := "bd9f82408ea444f612807007bce52f61d8f4f6f5e439ac7d7511d97f82845f6b", func := "lodestar/lodestarlaw07.TopkBest", spec := "topkBest", unfollowed := true, recurses := true, plainKeys := false, apart := false }
def TopkBestSaid : Prop := topkBestRow.holds Try.pinned (OpenSpec.ofChange topkBestSpec)

/-- ITS FALSE NEIGHBOUR: 'it returns false'. Refute it at one input. -/
def topkBestWrong : ChangeSpec := { name := "topkBest", fn := fun _ => fun
  | [d1, d2, d3] => { results := [.lit (.bool false)], args := [d1, d2, d3] }
  | _ => none }
def TopkBestWrongFalsely : Prop := topkBestRow.holds Try.pinned (OpenSpec.ofChange topkBestWrong)

/-- 'lodestarlaw07.TopkStrict': WHATEVER THE INPUT: true; the input reads as it did. -/
def topkStrictSpec : ChangeSpec := { name := "topkStrict", fn := fun _ => fun
  | [d1, d2] => { results := [.lit (.bool true)], args := [d1, d2] }
  | _ => none }
def topkStrictRow : OpenClaim := { program := "ytgmjgognpabmdaa", sum := "bd9f82408ea444f612807007bce52f61d8f4f6f5e439ac7d7511d97f82845f6b", func := "lodestar/lodestarlaw07.TopkStrict", spec := "topkStrict", unfollowed := true, recurses := true, plainKeys := false, apart := false }
def TopkStrictSaid : Prop := topkStrictRow.holds Try.pinned (OpenSpec.ofChange topkStrictSpec)

/-- ITS FALSE NEIGHBOUR: 'it returns false'. Refute it at one input. -/
def topkStrictWrong : ChangeSpec := { name := "topkStrict", fn := fun _ => fun
  | [d1, d2] => { results := [.lit (.bool false)], args := [d1, d2] }
  | _ => none }
def TopkStrictWrongFalsely : Prop := topkStrictRow.holds Try.pinned (OpenSpec.ofChange topkStrictWrong)

/-- 'lodestarlaw07.TopkKeeps': WHATEVER THE INPUT: true; the input reads as it did. -/
def topkKeepsSpec : ChangeSpec := { name := "topkKeeps", fn := fun _ => fun
  | [d1, d2, d3] => { results := [.lit (.bool true)], args := [d1, d2, d3] }
  | _ => none }
def topkKeepsRow : OpenClaim := { program := "ytgmjgognpabmdaa", sum := "bd9f82408ea444f612807007bce52f61d8f4f6f5e439ac7d7511d97f82845f6b", func := "lodestar/lodestarlaw07.TopkKeeps", spec := "topkKeeps", unfollowed := true, recurses := true, plainKeys := false, apart := false }
def TopkKeepsSaid : Prop := topkKeepsRow.holds Try.pinned (OpenSpec.ofChange topkKeepsSpec)

/-- ITS FALSE NEIGHBOUR: 'it returns false'. Refute it at one input. -/
def topkKeepsWrong : ChangeSpec := { name := "topkKeeps", fn := fun _ => fun
  | [d1, d2, d3] => { results := [.lit (.bool false)], args := [d1, d2, d3] }
  | _ => none }
def TopkKeepsWrongFalsely : Prop := topkKeepsRow.holds Try.pinned (OpenSpec.ofChange topkKeepsWrong)

/-- 'lodestarlaw07.TopkNone': WHATEVER THE INPUT: true; the input reads as it did. -/
def topkNoneSpec : ChangeSpec := { name := "topkNone", fn := fun _ => fun
  | [d] => { results := [.lit (.bool true)], args := [d] }
  | _ => none }
def topkNoneRow : OpenClaim := { program := "ytgmjgognpabmdaa", sum := "bd9f82408ea444f612807007bce52f61d8f4f6f5e439ac7d7511d97f82845f6b", func := "lodestar/lodestarlaw07.TopkNone", spec := "topkNone", unfollowed := true, recurses := true, plainKeys := false, apart := false }
def TopkNoneSaid : Prop := topkNoneRow.holds Try.pinned (OpenSpec.ofChange topkNoneSpec)

/-- ITS FALSE NEIGHBOUR: 'it returns false'. Refute it at one input. -/
def topkNoneWrong : ChangeSpec := { name := "topkNone", fn := fun _ => fun
  | [d] => { results := [.lit (.bool false)], args := [d] }
  | _ => none }
def TopkNoneWrongFalsely : Prop := topkNoneRow.holds Try.pinned (OpenSpec.ofChange topkNoneWrong)

/-- 'lodestarlaw25.FuseRanks': WHATEVER THE INPUT: true; the input reads as it did. -/
def fuseRanksSpec : ChangeSpec := { name := "fuseRanks", fn := fun _ => fun
  | [d] => { results := [.lit (.bool true)], args := [d] }
  | _ => none }
def fuseRanksRow : OpenClaim := { program := "ytgmjgognpabmdaa", sum := "bd9f82408ea444f612807007bce52f61d8f4f6f5e439ac7d7511d97f82845f6b", func := "lodestar/lodestarlaw25.FuseRanks", spec := "fuseRanks", unfollowed := true, recurses := true, plainKeys := false, apart := false }
def FuseRanksSaid : Prop := fuseRanksRow.holds Try.pinned (OpenSpec.ofChange fuseRanksSpec)

/-- ITS FALSE NEIGHBOUR: 'it returns false'. Refute it at one input. -/
def fuseRanksWrong : ChangeSpec := { name := "fuseRanks", fn := fun _ => fun
  | [d] => { results := [.lit (.bool false)], args := [d] }
  | _ => none }
def FuseRanksWrongFalsely : Prop := fuseRanksRow.holds Try.pinned (OpenSpec.ofChange fuseRanksWrong)

/-- 'lodestarlaw25.FuseWeighs': WHATEVER THE INPUT: true; the input reads as it did. -/
def fuseWeighsSpec : ChangeSpec := { name := "fuseWeighs", fn := fun _ => fun
  | [d1, d2, d3] => { results := [.lit (.bool true)], args := [d1, d2, d3] }
  | _ => none }
def fuseWeighsRow : OpenClaim := { program := "ytgmjgognpabmdaa", sum := "bd9f82408ea444f612807007bce52f61d8f4f6f5e439ac7d7511d97f82845f6b", func := "lodestar/lodestarlaw25.FuseWeighs", spec := "fuseWeighs", unfollowed := true, recurses := true, plainKeys := false, apart := false }
def FuseWeighsSaid : Prop := fuseWeighsRow.holds Try.pinned (OpenSpec.ofChange fuseWeighsSpec)

/-- ITS FALSE NEIGHBOUR: 'it returns false'. Refute it at one input. -/
def fuseWeighsWrong : ChangeSpec := { name := "fuseWeighs", fn := fun _ => fun
  | [d1, d2, d3] => { results := [.lit (.bool false)], args := [d1, d2, d3] }
  | _ => none }
def FuseWeighsWrongFalsely : Prop := fuseWeighsRow.holds Try.pinned (OpenSpec.ofChange fuseWeighsWrong)

/-- 'lodestarlaw25.FuseTurned': WHATEVER THE INPUT: true; the input reads as it did. -/
def fuseTurnedSpec : ChangeSpec := { name := "fuseTurned", fn := fun _ => fun
  | [d] => { results := [.lit (.bool true)], args := [d] }
  | _ => none }
def fuseTurnedRow : OpenClaim := { program := "ytgmjgognpabmdaa", sum := "bd9f82408ea444f612807007bce52f61d8f4f6f5e439ac7d7511d97f82845f6b", func := "lodestar/lodestarlaw25.FuseTurned", spec := "fuseTurned", unfollowed := true, recurses := true, plainKeys := false, apart := false }
def FuseTurnedSaid : Prop := fuseTurnedRow.holds Try.pinned (OpenSpec.ofChange fuseTurnedSpec)

/-- ITS FALSE NEIGHBOUR: 'it returns false'. Refute it at one input. -/
def fuseTurnedWrong : ChangeSpec := { name := "fuseTurned", fn := fun _ => fun
  | [d] => { results := [.lit (.bool false)], args := [d] }
  | _ => none }
def FuseTurnedWrongFalsely : Prop := fuseTurnedRow.holds Try.pinned (OpenSpec.ofChange fuseTurnedWrong)

/-- 'lodestarlaw25.FusePages': WHATEVER THE INPUT: true; the input reads as it did. -/
def fusePagesSpec : ChangeSpec := { name := "fusePages", fn := fun _ => fun
  | [d1, d2, d3] => { results := [.lit (.bool true)], args := [d1, d2, d3] }
  | _ => none }
def fusePagesRow : OpenClaim := { program := "ytgmjgognpabmdaa", sum := "bd9f82408ea444f612807007bce52f61d8f4f6f5e439ac7d7511d97f82845f6b", func := "lodestar/lodestarlaw25.FusePages", spec := "fusePages", unfollowed := true, recurses := true, plainKeys := false, apart := false }
def FusePagesSaid : Prop := fusePagesRow.holds Try.pinned (OpenSpec.ofChange fusePagesSpec)

/-- ITS FALSE NEIGHBOUR: 'it returns false'. Refute it at one input. -/
def fusePagesWrong : ChangeSpec := { name := "fusePages", fn := fun _ => fun
  | [d1, d2, d3] => { results := [.lit (.bool false)], args := [d1, d2, d3] }
  | _ => none }
def FusePagesWrongFalsely : Prop := fusePagesRow.holds Try.pinned (OpenSpec.ofChange fusePagesWrong)

/-- 'lodestarlaw25.FuseJoins': WHATEVER THE INPUT: true; the input reads as it did. -/
def fuseJoinsSpec : ChangeSpec := { name := "fuseJoins", fn := fun _ => fun
  | [d1, d2] => { results := [.lit (.bool true)], args := [d1, d2] }
  | _ => none }
def fuseJoinsRow : OpenClaim := { program := "ytgmjgognpabmdaa", sum := "bd9f82408ea444f612807007bce52f61d8f4f6f5e439ac7d7511d97f82845f6b", func := "lodestar/lodestarlaw25.FuseJoins", spec := "fuseJoins", unfollowed := true, recurses := true, plainKeys := false, apart := false }
def FuseJoinsSaid : Prop := fuseJoinsRow.holds Try.pinned (OpenSpec.ofChange fuseJoinsSpec)

/-- ITS FALSE NEIGHBOUR: 'it returns false'. Refute it at one input. -/
def fuseJoinsWrong : ChangeSpec := { name := "fuseJoins", fn := fun _ => fun
  | [d1, d2] => { results := [.lit (.bool false)], args := [d1, d2] }
  | _ => none }
def FuseJoinsWrongFalsely : Prop := fuseJoinsRow.holds Try.pinned (OpenSpec.ofChange fuseJoinsWrong)

/-- 'lodestarlaw25.FuseGroups': WHATEVER THE INPUT: true; the input reads as it did. -/
def fuseGroupsSpec : ChangeSpec := { name := "fuseGroups", fn := fun _ => fun
  | [d1, d2, d3] => { results := [.lit (.bool true)], args := [d1, d2, d3] }
  | _ => none }
def fuseGroupsRow : OpenClaim := { program := "ytgmjgognpabmdaa", sum := "bd9f82408ea444f612807007bce52f61d8f4f6f5e439ac7d7511d97f82845f6b", func := "lodestar/lodestarlaw25.FuseGroups", spec := "fuseGroups", unfollowed := true, recurses := true, plainKeys := false, apart := false }
def FuseGroupsSaid : Prop := fuseGroupsRow.holds Try.pinned (OpenSpec.ofChange fuseGroupsSpec)

/-- ITS FALSE NEIGHBOUR: 'it returns false'. Refute it at one input. -/
def fuseGroupsWrong : ChangeSpec := { name := "fuseGroups", fn := fun _ => fun
  | [d1, d2, d3] => { results := [.lit (.bool false)], args := [d1, d2, d3] }
  | _ => none }
def FuseGroupsWrongFalsely : Prop := fuseGroupsRow.holds Try.pinned (OpenSpec.ofChange fuseGroupsWrong)

/- THE SECOND FORM. 'bulk': how many values and letters a reading holds, each counted each time it is reached (what is shared counts as often as it is met; a slice's spare places count too). A statement '..UptoSaid' is the law's where the arguments, and the package variables that the reading takes, are together of bulk at most 1048576: NARROWER than '..Said'. Prove '..Said' where nothing that the law and all that it calls make is longer than what came in: it says more and counts as full. Else prove '..UptoSaid'. A law counts once. -/
mutual
def uptoBulk {H : Type} : DataW H → Nat
  | .lit (.string bytes) => bytes.length + 1
  | .lit _ => 1
  | .nil => 1
  | .ptr d => uptoBulk d + 1
  | .slice elems spare => uptoBulkAll elems + uptoBulkAll spare + 1
  | .agg parts => uptoBulkAll parts + 1
  | .iface _ d => uptoBulk d + 1
  | .map entries => uptoBulkEntries entries + 1
  | .held _ => 1
def uptoBulkAll {H : Type} : List (DataW H) → Nat
  | [] => 0
  | d :: r => uptoBulk d + uptoBulkAll r
def uptoBulkEntries {H : Type} : List (Lit × DataW H) → Nat
  | [] => 0
  | x :: r => uptoBulkEntry x + uptoBulkEntries r
def uptoBulkEntry {H : Type} : Lit × DataW H → Nat
  | (.string bytes, d) => bytes.length + uptoBulk d + 1
  | (_, d) => uptoBulk d + 1
 end
def uptoSmall : (H : Type) → List (DataW H) → Bool := fun _ ds => decide (uptoBulkAll ds ≤ 1048576)
def OpenSpec.upto (s : _root_.Go.ChangeSpec) : _root_.Go.OpenSpec := { _root_.Go.OpenSpec.ofChange s with cond := some uptoSmall }

/-- 'lodestarlaw07.TopkOrders', WHERE WHAT IT READS IS OF BULK AT MOST 1048576: true; the input reads as it did. -/
def topkOrdersUptoRow : OpenClaim := { program := "ytgmjgognpabmdaa", sum := "bd9f82408ea444f612807007bce52f61d8f4f6f5e439ac7d7511d97f82845f6b", func := "lodestar/lodestarlaw07.TopkOrders", spec := "topkOrders", unfollowed := true, recurses := true, plainKeys := false, apart := false, narrowed := true }
def TopkOrdersUptoSaid : Prop := topkOrdersUptoRow.holds Try.pinned (OpenSpec.upto topkOrdersSpec)

/-- 'lodestarlaw07.TopkBest', WHERE WHAT IT READS IS OF BULK AT MOST 1048576: true; the input reads as it did. -/
def topkBestUptoRow : OpenClaim := { program := "ytgmjgognpabmdaa", sum := "bd9f82408ea444f612807007bce52f61d8f4f6f5e439ac7d7511d97f82845f6b", func := "lodestar/lodestarlaw07.TopkBest", spec := "topkBest", unfollowed := true, recurses := true, plainKeys := false, apart := false, narrowed := true }
def TopkBestUptoSaid : Prop := topkBestUptoRow.holds Try.pinned (OpenSpec.upto topkBestSpec)

/-- 'lodestarlaw07.TopkStrict', WHERE WHAT IT READS IS OF BULK AT MOST 1048576: true; the input reads as it did. -/
def topkStrictUptoRow : OpenClaim := { program := "ytgmjgognpabmdaa", sum := "bd9f82408ea444f612807007bce52f61d8f4f6f5e439ac7d7511d97f82845f6b", func := "lodestar/lodestarlaw07.TopkStrict", spec := "topkStrict", unfollowed := true, recurses := true, plainKeys := false, apart := false, narrowed := true }
def TopkStrictUptoSaid : Prop := topkStrictUptoRow.holds Try.pinned (OpenSpec.upto topkStrictSpec)

/-- 'lodestarlaw07.TopkKeeps', WHERE WHAT IT READS IS OF BULK AT MOST 1048576: true; the input reads as it did. -/
def topkKeepsUptoRow : OpenClaim := { program := "ytgmjgognpabmdaa", sum := "bd9f82408ea444f612807007bce52f61d8f4f6f5e439ac7d7511d97f82845f6b", func := "lodestar/lodestarlaw07.TopkKeeps", spec := "topkKeeps", unfollowed := true, recurses := true, plainKeys := false, apart := false, narrowed := true }
def TopkKeepsUptoSaid : Prop := topkKeepsUptoRow.holds Try.pinned (OpenSpec.upto topkKeepsSpec)

/-- 'lodestarlaw07.TopkNone', WHERE WHAT IT READS IS OF BULK AT MOST 1048576: true; the input reads as it did. -/
def topkNoneUptoRow : OpenClaim := { program := "ytgmjgognpabmdaa", sum := "bd9f82408ea444f612807007bce52f61d8f4f6f5e439ac7d7511d97f82845f6b", func := "lodestar/lodestarlaw07.TopkNone", spec := "topkNone", unfollowed := true, recurses := true, plainKeys := false, apart := false, narrowed := true }
def TopkNoneUptoSaid : Prop := topkNoneUptoRow.holds Try.pinned (OpenSpec.upto topkNoneSpec)

/-- 'lodestarlaw25.FuseRanks', WHERE WHAT IT READS IS OF BULK AT MOST 1048576: true; the input reads as it did. -/
def fuseRanksUptoRow : OpenClaim := { program := "ytgmjgognpabmdaa", sum := "bd9f82408ea444f612807007bce52f61d8f4f6f5e439ac7d7511d97f82845f6b", func := "lodestar/lodestarlaw25.FuseRanks", spec := "fuseRanks", unfollowed := true, recurses := true, plainKeys := false, apart := false, narrowed := true }
def FuseRanksUptoSaid : Prop := fuseRanksUptoRow.holds Try.pinned (OpenSpec.upto fuseRanksSpec)

/-- 'lodestarlaw25.FuseWeighs', WHERE WHAT IT READS IS OF BULK AT MOST 1048576: true; the input reads as it did. -/
def fuseWeighsUptoRow : OpenClaim := { program := "ytgmjgognpabmdaa", sum := "bd9f82408ea444f612807007bce52f61d8f4f6f5e439ac7d7511d97f82845f6b", func := "lodestar/lodestarlaw25.FuseWeighs", spec := "fuseWeighs", unfollowed := true, recurses := true, plainKeys := false, apart := false, narrowed := true }
def FuseWeighsUptoSaid : Prop := fuseWeighsUptoRow.holds Try.pinned (OpenSpec.upto fuseWeighsSpec)

/-- 'lodestarlaw25.FuseTurned', WHERE WHAT IT READS IS OF BULK AT MOST 1048576: true; the input reads as it did. -/
def fuseTurnedUptoRow : OpenClaim := { program := "ytgmjgognpabmdaa", sum := "bd9f82408ea444f612807007bce52f61d8f4f6f5e439ac7d7511d97f82845f6b", func := "lodestar/lodestarlaw25.FuseTurned", spec := "fuseTurned", unfollowed := true, recurses := true, plainKeys := false, apart := false, narrowed := true }
def FuseTurnedUptoSaid : Prop := fuseTurnedUptoRow.holds Try.pinned (OpenSpec.upto fuseTurnedSpec)

/-- 'lodestarlaw25.FusePages', WHERE WHAT IT READS IS OF BULK AT MOST 1048576: true; the input reads as it did. -/
def fusePagesUptoRow : OpenClaim := { program := "ytgmjgognpabmdaa", sum := "bd9f82408ea444f612807007bce52f61d8f4f6f5e439ac7d7511d97f82845f6b", func := "lodestar/lodestarlaw25.FusePages", spec := "fusePages", unfollowed := true, recurses := true, plainKeys := false, apart := false, narrowed := true }
def FusePagesUptoSaid : Prop := fusePagesUptoRow.holds Try.pinned (OpenSpec.upto fusePagesSpec)

/-- 'lodestarlaw25.FuseJoins', WHERE WHAT IT READS IS OF BULK AT MOST 1048576: true; the input reads as it did. -/
def fuseJoinsUptoRow : OpenClaim := { program := "ytgmjgognpabmdaa", sum := "bd9f82408ea444f612807007bce52f61d8f4f6f5e439ac7d7511d97f82845f6b", func := "lodestar/lodestarlaw25.FuseJoins", spec := "fuseJoins", unfollowed := true, recurses := true, plainKeys := false, apart := false, narrowed := true }
def FuseJoinsUptoSaid : Prop := fuseJoinsUptoRow.holds Try.pinned (OpenSpec.upto fuseJoinsSpec)

/-- 'lodestarlaw25.FuseGroups', WHERE WHAT IT READS IS OF BULK AT MOST 1048576: true; the input reads as it did. -/
def fuseGroupsUptoRow : OpenClaim := { program := "ytgmjgognpabmdaa", sum := "bd9f82408ea444f612807007bce52f61d8f4f6f5e439ac7d7511d97f82845f6b", func := "lodestar/lodestarlaw25.FuseGroups", spec := "fuseGroups", unfollowed := true, recurses := true, plainKeys := false, apart := false, narrowed := true }
def FuseGroupsUptoSaid : Prop := fuseGroupsUptoRow.holds Try.pinned (OpenSpec.upto fuseGroupsSpec)

end Rows
end Go.Proofs.Ytgmjgognpabmdaa
