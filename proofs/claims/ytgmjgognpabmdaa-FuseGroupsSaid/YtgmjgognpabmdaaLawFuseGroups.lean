/- The row of the law FuseGroups: for every input it returns true, and its arguments read behind the call as before; out of the contract of the law's code. -/
import Derived.Test.YtgmjgognpabmdaaRows
import Derived.Test.YtgmjgognpabmdaaFxFuseGroups
import Derived.Test.YtgmjgognpabmdaaFxOpen
import Derived.WalkKit
import Derived.ProofKit
import Derived.OpenShut
import Derived.ShutString
import Derived.ChangeOld
import Derived.Below
import Derived.SizedLaws
namespace Go.Proofs.Ytgmjgognpabmdaa.fuseGroups
open Go.ChangeShapes Go.WideShapes Go.ChangeAt Go.RowKit
open Go.ChangeMaps (open_string shut_string)
open Go.Proofs.Ytgmjgognpabmdaa.Fx
set_option linter.unusedVariables false
theorem own : ownKnob Try.prog.godebug = none := by kernel_rfl
theorem laidOut : laidOutB Try.prog = true := by kernel_rfl
theorem reads0 : Reads Try.prog 25 1 (fun y : List (Int × Int) => [.sl 2 (y.map fun z0 => [.int .i64 z0.1, .int .i64 z0.2])]) (fun y => (y.length * 16 ≤ 140737488351232 ∧ ∀ z0 ∈ y, ((Lit.int .i64 z0.1).wf = true ∧ (Lit.int .i64 z0.2).wf = true))) := (Go.Proofs.Ytgmjgognpabmdaa.Fx.Reads.slice (sz := 2) (B := 16) (by decide) Try.underlying25 (by kernel_rfl) (by kernel_rfl) (Go.Proofs.Ytgmjgognpabmdaa.Fx.Reads.struct (f := id) id (fun _ => rfl) Try.underlying23 (by kernel_rfl) (Go.Proofs.Ytgmjgognpabmdaa.Fx.ReadsFrom.cons rfl (Go.Proofs.Ytgmjgognpabmdaa.Fx.Reads.int Try.underlying3 (by kernel_rfl)) (Go.Proofs.Ytgmjgognpabmdaa.Fx.ReadsFrom.last rfl (Go.Proofs.Ytgmjgognpabmdaa.Fx.Reads.int Try.underlying3 (by kernel_rfl))))))
theorem reads1 : Reads Try.prog 58 1 (fun y : List (Int × Int × ByteArray) => [.sl 3 (y.map fun z0 => [.int .i64 z0.1, .int .i64 z0.2.1, .str z0.2.2])]) (fun y => (y.length * 32 ≤ 140737488351232 ∧ ∀ z0 ∈ y, ((Lit.int .i64 z0.1).wf = true ∧ ((Lit.int .i64 z0.2.1).wf = true ∧ z0.2.2.size ≤ 140737488351232)))) := (Go.Proofs.Ytgmjgognpabmdaa.Fx.Reads.slice (sz := 3) (B := 32) (by decide) Try.underlying58 (by kernel_rfl) (by kernel_rfl) (Go.Proofs.Ytgmjgognpabmdaa.Fx.Reads.struct (f := id) id (fun _ => rfl) Try.underlying93 (by kernel_rfl) (Go.Proofs.Ytgmjgognpabmdaa.Fx.ReadsFrom.cons rfl (Go.Proofs.Ytgmjgognpabmdaa.Fx.Reads.int Try.underlying3 (by kernel_rfl)) (Go.Proofs.Ytgmjgognpabmdaa.Fx.ReadsFrom.cons rfl (Go.Proofs.Ytgmjgognpabmdaa.Fx.Reads.int Try.underlying3 (by kernel_rfl)) (Go.Proofs.Ytgmjgognpabmdaa.Fx.ReadsFrom.last rfl (Go.Proofs.Ytgmjgognpabmdaa.Fx.Reads.str Try.underlying9 (by kernel_rfl)))))))
theorem reads2 : Reads Try.prog 59 1 (fun y : List Bool => [.sl 1 (y.map fun z0 => [.bool z0])]) (fun y => (y.length * 1 ≤ 140737488351232 ∧ ∀ z0 ∈ y, True)) := (Go.Proofs.Ytgmjgognpabmdaa.Fx.Reads.slice (sz := 1) (B := 1) (by decide) Try.underlying59 (by kernel_rfl) (by kernel_rfl) (Go.Proofs.Ytgmjgognpabmdaa.Fx.Reads.bool Try.underlying4 (by kernel_rfl)))
set_option maxRecDepth 100000 in
theorem law_spec (y0 : List (Int × Int)) (h0 : (y0.length * 16 ≤ 140737488351232 ∧ ∀ z0 ∈ y0, ((Lit.int .i64 z0.1).wf = true ∧ (Lit.int .i64 z0.2).wf = true))) (y1 : List (Int × Int × ByteArray)) (h1 : (y1.length * 32 ≤ 140737488351232 ∧ ∀ z0 ∈ y1, ((Lit.int .i64 z0.1).wf = true ∧ ((Lit.int .i64 z0.2.1).wf = true ∧ z0.2.2.size ≤ 140737488351232)))) (y2 : List Bool) (h2 : (y2.length * 1 ≤ 140737488351232 ∧ ∀ z0 ∈ y2, True)) : Go.Proofs.Ytgmjgognpabmdaa.Fx.Spec Try.prog 13 [(.v (.t (.sl 2 (y0.map fun z0 => [.int .i64 z0.1, .int .i64 z0.2])))), (.v (.t (.sl 3 (y1.map fun z0 => [.int .i64 z0.1, .int .i64 z0.2.1, .str z0.2.2])))), (.v (.t (.sl 1 (y2.map fun z0 => [.bool z0]))))] [] [.v (.t (.bool true))] [] := fuseGroups_spec y0 y1 y2 (by have := h0.1; omega) (by have := h1.1; omega) (by have := h2.1; omega)
set_option maxRecDepth 100000 in
theorem lifted (os : Os) (started : os.Started) (H : Type) (enc : TypeId × Value → H) :
    ReturnsInHanded {} Try.checked os 13 .any (Rows.fuseGroupsSpec.pre6 enc Try.prog Try.f13 Rows.fuseGroupsRow.domain false) (Rows.fuseGroupsSpec.post enc Try.prog Try.f13 false true false false) := by
  refine returnsInHanded_of_change_sized (C := Try.checked) own started (by kernel_rfl) Try.func13
    (ChangeSpec.witness6 (enc := enc) (C := Try.checked) false ⟨#[], #[.slice none 0 0, .slice none 0 0, .slice none 0 0], []⟩ 8 (by kernel_rfl) (by kernel_rfl) (by kernel_rfl) (by kernel_rfl)) ?_
  intro W base args ds gs before hval0 hW hcnd hsz0 _
  have hsz : (DataW.weightsEach Try.prog (Try.f13.params.toList ++ Rows.fuseGroupsSpec.plain.varTypes Try.prog) (ds ++ gs)).all (· ≤ reachBytes) = true := hsz0
  have hval : ∀ (j : Nat) t v, Try.f13.params[j]? = some t → args[j]? = some v → Value.okWide Try.prog W .any base t v := hval0
  have hW' := hW
  obtain ⟨p, q, hA0, hV, rfl, hfz, hnd⟩ := hW
  have hA : DataW.TrodAll enc Try.prog W 0 (fun _ => true) true Try.f13.params.toList args.toList ds p := hA0
  rw [Try.params13] at hA hval hsz
  obtain ⟨v0, vs0, d0, ds0, p0, q0, hargs, rfl, rfl, h0, r0⟩ := trodAll_cons hA
  obtain ⟨v1, vs1, d1, ds1, p1, q1, rfl, rfl, rfl, h1, r1⟩ := trodAll_cons r0
  obtain ⟨v2, vs2, d2, ds2, p2, q2, rfl, rfl, rfl, h2, r2⟩ := trodAll_cons r1
  obtain ⟨rfl, rfl, rfl⟩ := trodAll_nil r2
  obtain rfl : args = #[v0, v1, v2] := by cases args; simp_all
  obtain ⟨rfl, rfl⟩ := trodVars_none hV
  have k0 := h0
  have lt0 : ∀ x ∈ p0, x.block < W.heap.size := by obtain ⟨m, hm⟩ := k0; exact DataW.trod_lt m _ _ _ hm
  obtain ⟨A0, len0, c0, rfl⟩ := okWide_slice Try.underlying25 (hval 0 25 v0 rfl rfl)
  obtain ⟨y0, hK0, hg0⟩ := of_trod reads0 h0 (weights_of hsz (j := 0) rfl rfl)
  have k1 := h1
  have lt1 : ∀ x ∈ p1, x.block < W.heap.size := by obtain ⟨m, hm⟩ := k1; exact DataW.trod_lt m _ _ _ hm
  obtain ⟨A1, len1, c1, rfl⟩ := okWide_slice Try.underlying58 (hval 1 58 v1 rfl rfl)
  obtain ⟨y1, hK1, hg1⟩ := of_trod reads1 h1 (weights_of hsz (j := 1) rfl rfl)
  have k2 := h2
  have lt2 : ∀ x ∈ p2, x.block < W.heap.size := by obtain ⟨m, hm⟩ := k2; exact DataW.trod_lt m _ _ _ hm
  obtain ⟨A2, len2, c2, rfl⟩ := okWide_slice Try.underlying59 (hval 2 59 v2 rfl rfl)
  obtain ⟨y2, hK2, hg2⟩ := of_trod reads2 h2 (weights_of hsz (j := 2) rfl rfl)
  clear hA0 hval0 hsz0 hsz
  refine ((law_spec y0 hg0 y1 hg1 y2 hg2).told (W := W) (vals := [_, _, _]) ⟨argSl hK0, argSl hK1, argSl hK2, trivial⟩).mono fun e W' ⟨he, bel⟩ => ?_
  subst he
  exact ⟨_, rfl, _, _, _, [], _, [], hW', trodAll_mk1 (shut_bool Try.underlying4 _), (trodAll_cons_mk (Below.trod laidOut (by kernel_rfl) (of_decide_eq_true (by kernel_rfl)) k0 bel lt0) (trodAll_cons_mk (Below.trod laidOut (by kernel_rfl) (of_decide_eq_true (by kernel_rfl)) k1 bel lt1) (trodAll_cons_mk (Below.trod laidOut (by kernel_rfl) (of_decide_eq_true (by kernel_rfl)) k2 bel lt2) trodAll_mk0))), rfl, bel.frame _, fun h => by cases h⟩
theorem over : Rows.fuseGroupsRow.holds Try.pinned (OpenSpec.ofChange Rows.fuseGroupsSpec) :=
  OpenClaim.holds_of_wide 13 Try.f13 rfl rfl rfl rfl rfl rfl rfl ⟨rfl, rfl, rfl, rfl, rfl⟩ rfl rfl rfl rfl rfl (by kernel_rfl) Try.func13 (by kernel_rfl)
    (of_decide_eq_true (by kernel_rfl)) (by unfold Func.isWrapper; first | (rw [if_pos (by decide +kernel)]; kernel_rfl) | (rw [if_neg (by decide +kernel)]; exact ⟨rfl, rfl⟩))
    (fun os started H enc _ => lifted os started H enc)
theorem proved : Rows.FuseGroupsSaid := over
#print axioms proved
end Go.Proofs.Ytgmjgognpabmdaa.fuseGroups
namespace Go.Proofs.Ytgmjgognpabmdaa
/-- The row, under a short name, for the claim. -/
theorem fuseGroups_holds : Rows.FuseGroupsSaid := fuseGroups.proved
end Go.Proofs.Ytgmjgognpabmdaa
