/- The row of the law PlansChoice: for every input it returns true, and its arguments read behind the call as before; out of the contract of the law's code. -/
import Derived.Test.YteoddaeipckgcaaRows
import Derived.Test.YteoddaeipckgcaaFxPlansLaw
import Derived.Test.YteoddaeipckgcaaFxOpen
import Derived.WalkKit
import Derived.ProofKit
import Derived.OpenShut
import Derived.ShutString
import Derived.ChangeOld
import Derived.Below
import Derived.SizedLaws
namespace Go.Proofs.Yteoddaeipckgcaa.plansChoice
open Go.ChangeShapes Go.WideShapes Go.ChangeAt Go.RowKit
open Go.ChangeMaps (open_string shut_string)
open Go.Proofs.Yteoddaeipckgcaa.Fx
set_option linter.unusedVariables false
theorem own : ownKnob Try.prog.godebug = none := by kernel_rfl
theorem laidOut : laidOutB Try.prog = true := by kernel_rfl
theorem reads0 : Reads Try.prog 25 1 (fun y : List (Int × Int × Int × Int × Bool × Int) => [.sl 6 (y.map fun z0 => [.int .i64 z0.1, .int .i64 z0.2.1, .int .i64 z0.2.2.1, .int .i64 z0.2.2.2.1, .bool z0.2.2.2.2.1, .int .i64 z0.2.2.2.2.2])]) (fun y => (y.length * 48 ≤ 140737488351232 ∧ ∀ z0 ∈ y, ((Lit.int .i64 z0.1).wf = true ∧ ((Lit.int .i64 z0.2.1).wf = true ∧ ((Lit.int .i64 z0.2.2.1).wf = true ∧ ((Lit.int .i64 z0.2.2.2.1).wf = true ∧ (True ∧ (Lit.int .i64 z0.2.2.2.2.2).wf = true))))))) := (Go.Proofs.Yteoddaeipckgcaa.Fx.Reads.slice (sz := 6) (B := 48) (by decide) Try.underlying25 (by kernel_rfl) (by kernel_rfl) (Go.Proofs.Yteoddaeipckgcaa.Fx.Reads.struct (f := id) id (fun _ => rfl) Try.underlying30 (by kernel_rfl) (Go.Proofs.Yteoddaeipckgcaa.Fx.ReadsFrom.cons rfl (Go.Proofs.Yteoddaeipckgcaa.Fx.Reads.int Try.underlying3 (by kernel_rfl)) (Go.Proofs.Yteoddaeipckgcaa.Fx.ReadsFrom.cons rfl (Go.Proofs.Yteoddaeipckgcaa.Fx.Reads.int Try.underlying3 (by kernel_rfl)) (Go.Proofs.Yteoddaeipckgcaa.Fx.ReadsFrom.cons rfl (Go.Proofs.Yteoddaeipckgcaa.Fx.Reads.int Try.underlying3 (by kernel_rfl)) (Go.Proofs.Yteoddaeipckgcaa.Fx.ReadsFrom.cons rfl (Go.Proofs.Yteoddaeipckgcaa.Fx.Reads.int Try.underlying3 (by kernel_rfl)) (Go.Proofs.Yteoddaeipckgcaa.Fx.ReadsFrom.cons rfl (Go.Proofs.Yteoddaeipckgcaa.Fx.Reads.bool Try.underlying4 (by kernel_rfl)) (Go.Proofs.Yteoddaeipckgcaa.Fx.ReadsFrom.last rfl (Go.Proofs.Yteoddaeipckgcaa.Fx.Reads.int Try.underlying3 (by kernel_rfl))))))))))
theorem reads1 : Reads Try.prog 4 1 (fun y : Bool => [.bool y]) (fun y => True) := (Go.Proofs.Yteoddaeipckgcaa.Fx.Reads.bool Try.underlying4 (by kernel_rfl))
theorem reads2 : Reads Try.prog 30 6 (fun y : Int × Int × Int × Int × Bool × Int => [.int .i64 y.1, .int .i64 y.2.1, .int .i64 y.2.2.1, .int .i64 y.2.2.2.1, .bool y.2.2.2.2.1, .int .i64 y.2.2.2.2.2]) (fun y => ((Lit.int .i64 y.1).wf = true ∧ ((Lit.int .i64 y.2.1).wf = true ∧ ((Lit.int .i64 y.2.2.1).wf = true ∧ ((Lit.int .i64 y.2.2.2.1).wf = true ∧ (True ∧ (Lit.int .i64 y.2.2.2.2.2).wf = true)))))) := (Go.Proofs.Yteoddaeipckgcaa.Fx.Reads.struct (f := id) id (fun _ => rfl) Try.underlying30 (by kernel_rfl) (Go.Proofs.Yteoddaeipckgcaa.Fx.ReadsFrom.cons rfl (Go.Proofs.Yteoddaeipckgcaa.Fx.Reads.int Try.underlying3 (by kernel_rfl)) (Go.Proofs.Yteoddaeipckgcaa.Fx.ReadsFrom.cons rfl (Go.Proofs.Yteoddaeipckgcaa.Fx.Reads.int Try.underlying3 (by kernel_rfl)) (Go.Proofs.Yteoddaeipckgcaa.Fx.ReadsFrom.cons rfl (Go.Proofs.Yteoddaeipckgcaa.Fx.Reads.int Try.underlying3 (by kernel_rfl)) (Go.Proofs.Yteoddaeipckgcaa.Fx.ReadsFrom.cons rfl (Go.Proofs.Yteoddaeipckgcaa.Fx.Reads.int Try.underlying3 (by kernel_rfl)) (Go.Proofs.Yteoddaeipckgcaa.Fx.ReadsFrom.cons rfl (Go.Proofs.Yteoddaeipckgcaa.Fx.Reads.bool Try.underlying4 (by kernel_rfl)) (Go.Proofs.Yteoddaeipckgcaa.Fx.ReadsFrom.last rfl (Go.Proofs.Yteoddaeipckgcaa.Fx.Reads.int Try.underlying3 (by kernel_rfl)))))))))
set_option maxRecDepth 100000 in
theorem law_spec (y0 : List (Int × Int × Int × Int × Bool × Int)) (h0 : (y0.length * 48 ≤ 140737488351232 ∧ ∀ z0 ∈ y0, ((Lit.int .i64 z0.1).wf = true ∧ ((Lit.int .i64 z0.2.1).wf = true ∧ ((Lit.int .i64 z0.2.2.1).wf = true ∧ ((Lit.int .i64 z0.2.2.2.1).wf = true ∧ (True ∧ (Lit.int .i64 z0.2.2.2.2.2).wf = true))))))) (y1 : Bool) (h1 : True) (y2 : Int × Int × Int × Int × Bool × Int) (h2 : ((Lit.int .i64 y2.1).wf = true ∧ ((Lit.int .i64 y2.2.1).wf = true ∧ ((Lit.int .i64 y2.2.2.1).wf = true ∧ ((Lit.int .i64 y2.2.2.2.1).wf = true ∧ (True ∧ (Lit.int .i64 y2.2.2.2.2.2).wf = true)))))) : Go.Proofs.Yteoddaeipckgcaa.Fx.Spec Try.prog 4 [(.v (.t (.sl 6 (y0.map fun z0 => [.int .i64 z0.1, .int .i64 z0.2.1, .int .i64 z0.2.2.1, .int .i64 z0.2.2.2.1, .bool z0.2.2.2.2.1, .int .i64 z0.2.2.2.2.2])))), (.v (.t (.bool y1))), (.agg [(.t (.int .i64 y2.1)), (.t (.int .i64 y2.2.1)), (.t (.int .i64 y2.2.2.1)), (.t (.int .i64 y2.2.2.2.1)), (.t (.bool y2.2.2.2.2.1)), (.t (.int .i64 y2.2.2.2.2.2))])] [] [.v (.t (.bool true))] [] := plansChoice_spec y0 y1 y2.1 y2.2.1 y2.2.2.1 y2.2.2.2.1 y2.2.2.2.2.1 y2.2.2.2.2.2 (by omega)
set_option maxRecDepth 100000 in
theorem lifted (os : Os) (started : os.Started) (H : Type) (enc : TypeId × Value → H) :
    ReturnsInHanded {} Try.checked os 4 .any (Rows.plansChoiceSpec.pre6 enc Try.prog Try.f4 Rows.plansChoiceRow.domain false) (Rows.plansChoiceSpec.post enc Try.prog Try.f4 false true false false) := by
  refine returnsInHanded_of_change_sized (C := Try.checked) own started (by kernel_rfl) Try.func4
    (ChangeSpec.witness6 (enc := enc) (C := Try.checked) false ⟨#[], #[.slice none 0 0, .bool false, (.agg #[.int .i64 0, .int .i64 0, .int .i64 0, .int .i64 0, .bool false, .int .i64 0])], []⟩ 8 (by kernel_rfl) (by kernel_rfl) (by kernel_rfl) (by kernel_rfl)) ?_
  intro W base args ds gs before hval0 hW hcnd hsz0 _
  have hsz : (DataW.weightsEach Try.prog (Try.f4.params.toList ++ Rows.plansChoiceSpec.plain.varTypes Try.prog) (ds ++ gs)).all (· ≤ reachBytes) = true := hsz0
  have hval : ∀ (j : Nat) t v, Try.f4.params[j]? = some t → args[j]? = some v → Value.okWide Try.prog W .any base t v := hval0
  have hW' := hW
  obtain ⟨p, q, hA0, hV, rfl, hfz, hnd⟩ := hW
  have hA : DataW.TrodAll enc Try.prog W 0 (fun _ => true) true Try.f4.params.toList args.toList ds p := hA0
  rw [Try.params4] at hA hval hsz
  obtain ⟨v0, vs0, d0, ds0, p0, q0, hargs, rfl, rfl, h0, r0⟩ := trodAll_cons hA
  obtain ⟨v1, vs1, d1, ds1, p1, q1, rfl, rfl, rfl, h1, r1⟩ := trodAll_cons r0
  obtain ⟨v2, vs2, d2, ds2, p2, q2, rfl, rfl, rfl, h2, r2⟩ := trodAll_cons r1
  obtain ⟨rfl, rfl, rfl⟩ := trodAll_nil r2
  obtain rfl : args = #[v0, v1, v2] := by cases args; simp_all
  obtain ⟨rfl, rfl⟩ := trodVars_none hV
  have k0 := h0
  have lt0 : ∀ x ∈ p0, x.block < W.heap.size := by obtain ⟨m, hm⟩ := k0; exact DataW.trod_lt m _ _ _ hm
  obtain ⟨A0, len0, c0, rfl⟩ := okWide_slice Try.underlying25 (hval 0 25 v0 rfl rfl)
  obtain ⟨y0, hK0, hg0⟩ := of_trod reads0 h0 (weights_of hsz (j := 0) rfl rfl)
  have k1 := h1
  have lt1 : ∀ x ∈ p1, x.block < W.heap.size := by obtain ⟨m, hm⟩ := k1; exact DataW.trod_lt m _ _ _ hm
  obtain ⟨a1, rfl, rfl, rfl⟩ := open_bool Try.underlying4 (hval 1 4 v1 rfl rfl) h1
  have k2 := h2
  have lt2 : ∀ x ∈ p2, x.block < W.heap.size := by obtain ⟨m, hm⟩ := k2; exact DataW.trod_lt m _ _ _ hm
  obtain ⟨cs2, rfl, _⟩ := okWide_struct Try.underlying30 (hval 2 30 v2 rfl rfl)
  obtain ⟨y2, hK2, hg2⟩ := of_trod reads2 h2 (weights_of hsz (j := 2) rfl rfl)
  clear hA0 hval0 hsz0 hsz
  refine ((law_spec y0 hg0 a1 trivial y2 hg2).told (W := W) (vals := [_, _, _]) ⟨argSl hK0, argBool a1, (by have h := argAgg (G := (inG W).toMk) hK2; exact h), trivial⟩).mono fun e W' ⟨he, bel⟩ => ?_
  subst he
  exact ⟨_, rfl, _, _, _, [], _, [], hW', trodAll_mk1 (shut_bool Try.underlying4 _), (trodAll_cons_mk (Below.trod laidOut (by kernel_rfl) (of_decide_eq_true (by kernel_rfl)) k0 bel lt0) (trodAll_cons_mk (shut_bool Try.underlying4 _) (trodAll_cons_mk (Below.trod laidOut (by kernel_rfl) (of_decide_eq_true (by kernel_rfl)) k2 bel lt2) trodAll_mk0))), rfl, bel.frame _, fun h => by cases h⟩
theorem over : Rows.plansChoiceRow.holds Try.pinned (OpenSpec.ofChange Rows.plansChoiceSpec) :=
  OpenClaim.holds_of_wide 4 Try.f4 rfl rfl rfl rfl rfl rfl rfl ⟨rfl, rfl, rfl, rfl, rfl⟩ rfl rfl rfl rfl rfl (by kernel_rfl) Try.func4 (by kernel_rfl)
    (of_decide_eq_true (by kernel_rfl)) (by unfold Func.isWrapper; first | (rw [if_pos (by decide +kernel)]; kernel_rfl) | (rw [if_neg (by decide +kernel)]; exact ⟨rfl, rfl⟩))
    (fun os started H enc _ => lifted os started H enc)
theorem proved : Rows.PlansChoiceSaid := over
#print axioms proved
end Go.Proofs.Yteoddaeipckgcaa.plansChoice
namespace Go.Proofs.Yteoddaeipckgcaa
/-- The row, under a short name, for the claim. -/
theorem plansChoice_holds : Rows.PlansChoiceSaid := plansChoice.proved
end Go.Proofs.Yteoddaeipckgcaa
