/- The row of the law TopkNone: for every input it returns true, and its arguments read behind the call as before; out of the contract of the law's code. -/
import Derived.Test.YtgmjgognpabmdaaRows
import Derived.Test.YtgmjgognpabmdaaFxTopkNone
import Derived.Test.YtgmjgognpabmdaaFxOpen
import Derived.WalkKit
import Derived.ProofKit
import Derived.OpenShut
import Derived.ShutString
import Derived.ChangeOld
import Derived.Below
import Derived.SizedLaws
namespace Go.Proofs.Ytgmjgognpabmdaa.topkNone
open Go.ChangeShapes Go.WideShapes Go.ChangeAt Go.RowKit
open Go.ChangeMaps (open_string shut_string)
open Go.Proofs.Ytgmjgognpabmdaa.Fx
set_option linter.unusedVariables false
theorem own : ownKnob Try.prog.godebug = none := by kernel_rfl
theorem laidOut : laidOutB Try.prog = true := by kernel_rfl
theorem reads0 : Reads Try.prog 23 2 (fun y : Int × Int => [.int .i64 y.1, .int .i64 y.2]) (fun y => ((Lit.int .i64 y.1).wf = true ∧ (Lit.int .i64 y.2).wf = true)) := (Go.Proofs.Ytgmjgognpabmdaa.Fx.Reads.struct (f := id) id (fun _ => rfl) Try.underlying23 (by kernel_rfl) (Go.Proofs.Ytgmjgognpabmdaa.Fx.ReadsFrom.cons rfl (Go.Proofs.Ytgmjgognpabmdaa.Fx.Reads.int Try.underlying3 (by kernel_rfl)) (Go.Proofs.Ytgmjgognpabmdaa.Fx.ReadsFrom.last rfl (Go.Proofs.Ytgmjgognpabmdaa.Fx.Reads.int Try.underlying3 (by kernel_rfl)))))
set_option maxRecDepth 100000 in
theorem law_spec (y0 : Int × Int) (h0 : ((Lit.int .i64 y0.1).wf = true ∧ (Lit.int .i64 y0.2).wf = true)) : Go.Proofs.Ytgmjgognpabmdaa.Fx.Spec Try.prog 7 [(.agg [(.t (.int .i64 y0.1)), (.t (.int .i64 y0.2))])] [] [.v (.t (.bool true))] [] := topkNone_spec y0.1 y0.2
set_option maxRecDepth 100000 in
theorem lifted (os : Os) (started : os.Started) (H : Type) (enc : TypeId × Value → H) :
    ReturnsInHanded {} Try.checked os 7 .any (Rows.topkNoneSpec.pre6 enc Try.prog Try.f7 Rows.topkNoneRow.domain false) (Rows.topkNoneSpec.post enc Try.prog Try.f7 false true false false) := by
  refine returnsInHanded_of_change_sized (C := Try.checked) own started (by kernel_rfl) Try.func7
    (ChangeSpec.witness6 (enc := enc) (C := Try.checked) false ⟨#[], #[(.agg #[.int .i64 0, .int .i64 0])], []⟩ 8 (by kernel_rfl) (by kernel_rfl) (by kernel_rfl) (by kernel_rfl)) ?_
  intro W base args ds gs before hval0 hW hcnd hsz0 _
  have hsz : (DataW.weightsEach Try.prog (Try.f7.params.toList ++ Rows.topkNoneSpec.plain.varTypes Try.prog) (ds ++ gs)).all (· ≤ reachBytes) = true := hsz0
  have hval : ∀ (j : Nat) t v, Try.f7.params[j]? = some t → args[j]? = some v → Value.okWide Try.prog W .any base t v := hval0
  have hW' := hW
  obtain ⟨p, q, hA0, hV, rfl, hfz, hnd⟩ := hW
  have hA : DataW.TrodAll enc Try.prog W 0 (fun _ => true) true Try.f7.params.toList args.toList ds p := hA0
  rw [Try.params7] at hA hval hsz
  obtain ⟨v0, vs0, d0, ds0, p0, q0, hargs, rfl, rfl, h0, r0⟩ := trodAll_cons hA
  obtain ⟨rfl, rfl, rfl⟩ := trodAll_nil r0
  obtain rfl : args = #[v0] := by cases args; simp_all
  obtain ⟨rfl, rfl⟩ := trodVars_none hV
  have k0 := h0
  have lt0 : ∀ x ∈ p0, x.block < W.heap.size := by obtain ⟨m, hm⟩ := k0; exact DataW.trod_lt m _ _ _ hm
  obtain ⟨cs0, rfl, _⟩ := okWide_struct Try.underlying23 (hval 0 23 v0 rfl rfl)
  obtain ⟨y0, hK0, hg0⟩ := of_trod reads0 h0 (weights_of hsz (j := 0) rfl rfl)
  clear hA0 hval0 hsz0 hsz
  refine ((law_spec y0 hg0).told (W := W) (vals := [_]) ⟨(by have h := argAgg (G := (inG W).toMk) hK0; exact h), trivial⟩).mono fun e W' ⟨he, bel⟩ => ?_
  subst he
  exact ⟨_, rfl, _, _, _, [], _, [], hW', trodAll_mk1 (shut_bool Try.underlying4 _), (trodAll_cons_mk (Below.trod laidOut (by kernel_rfl) (of_decide_eq_true (by kernel_rfl)) k0 bel lt0) trodAll_mk0), rfl, bel.frame _, fun h => by cases h⟩
theorem over : Rows.topkNoneRow.holds Try.pinned (OpenSpec.ofChange Rows.topkNoneSpec) :=
  OpenClaim.holds_of_wide 7 Try.f7 rfl rfl rfl rfl rfl rfl rfl ⟨rfl, rfl, rfl, rfl, rfl⟩ rfl rfl rfl rfl rfl (by kernel_rfl) Try.func7 (by kernel_rfl)
    (of_decide_eq_true (by kernel_rfl)) (by unfold Func.isWrapper; first | (rw [if_pos (by decide +kernel)]; kernel_rfl) | (rw [if_neg (by decide +kernel)]; exact ⟨rfl, rfl⟩))
    (fun os started H enc _ => lifted os started H enc)
theorem proved : Rows.TopkNoneSaid := over
#print axioms proved
end Go.Proofs.Ytgmjgognpabmdaa.topkNone
namespace Go.Proofs.Ytgmjgognpabmdaa
/-- The row, under a short name, for the claim. -/
theorem topkNone_holds : Rows.TopkNoneSaid := topkNone.proved
end Go.Proofs.Ytgmjgognpabmdaa
