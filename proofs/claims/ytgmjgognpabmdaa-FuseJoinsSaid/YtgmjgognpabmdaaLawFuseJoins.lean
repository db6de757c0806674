/- The row of the law FuseJoins: for every input it returns true, and its arguments read behind the call as before; out of the contract of the law's code. -/
import Derived.Test.YtgmjgognpabmdaaRows
import Derived.Test.YtgmjgognpabmdaaFxFuseJoins
import Derived.Test.YtgmjgognpabmdaaFxOpen
import Derived.WalkKit
import Derived.ProofKit
import Derived.OpenShut
import Derived.ShutString
import Derived.ChangeOld
import Derived.Below
import Derived.SizedLaws
namespace Go.Proofs.Ytgmjgognpabmdaa.fuseJoins
open Go.ChangeShapes Go.WideShapes Go.ChangeAt Go.RowKit
open Go.ChangeMaps (open_string shut_string)
open Go.Proofs.Ytgmjgognpabmdaa.Fx
set_option linter.unusedVariables false
theorem own : ownKnob Try.prog.godebug = none := by kernel_rfl
theorem laidOut : laidOutB Try.prog = true := by kernel_rfl
theorem reads0 : Reads Try.prog 25 1 (fun y : List (Int × Int) => [.sl 2 (y.map fun z0 => [.int .i64 z0.1, .int .i64 z0.2])]) (fun y => (y.length * 16 ≤ 140737488351232 ∧ ∀ z0 ∈ y, ((Lit.int .i64 z0.1).wf = true ∧ (Lit.int .i64 z0.2).wf = true))) := (Go.Proofs.Ytgmjgognpabmdaa.Fx.Reads.slice (sz := 2) (B := 16) (by decide) Try.underlying25 (by kernel_rfl) (by kernel_rfl) (Go.Proofs.Ytgmjgognpabmdaa.Fx.Reads.struct (f := id) id (fun _ => rfl) Try.underlying23 (by kernel_rfl) (Go.Proofs.Ytgmjgognpabmdaa.Fx.ReadsFrom.cons rfl (Go.Proofs.Ytgmjgognpabmdaa.Fx.Reads.int Try.underlying3 (by kernel_rfl)) (Go.Proofs.Ytgmjgognpabmdaa.Fx.ReadsFrom.last rfl (Go.Proofs.Ytgmjgognpabmdaa.Fx.Reads.int Try.underlying3 (by kernel_rfl))))))
theorem reads1 : Reads Try.prog 3 1 (fun y : Int => [.int .i64 y]) (fun y => (Lit.int .i64 y).wf = true) := (Go.Proofs.Ytgmjgognpabmdaa.Fx.Reads.int Try.underlying3 (by kernel_rfl))
set_option maxRecDepth 100000 in
theorem law_spec (y0 : List (Int × Int)) (h0 : (y0.length * 16 ≤ 140737488351232 ∧ ∀ z0 ∈ y0, ((Lit.int .i64 z0.1).wf = true ∧ (Lit.int .i64 z0.2).wf = true))) (y1 : Int) (h1 : (Lit.int .i64 y1).wf = true) : Go.Proofs.Ytgmjgognpabmdaa.Fx.Spec Try.prog 12 [(.v (.t (.sl 2 (y0.map fun z0 => [.int .i64 z0.1, .int .i64 z0.2])))), (.v (.t (.int .i64 y1)))] [] [.v (.t (.bool true))] [] := fuseJoins_spec y0 y1 (wf64 h1).2 (by have := h0.1; omega)
set_option maxRecDepth 100000 in
theorem lifted (os : Os) (started : os.Started) (H : Type) (enc : TypeId × Value → H) :
    ReturnsInHanded {} Try.checked os 12 .any (Rows.fuseJoinsSpec.pre6 enc Try.prog Try.f12 Rows.fuseJoinsRow.domain false) (Rows.fuseJoinsSpec.post enc Try.prog Try.f12 false true false false) := by
  refine returnsInHanded_of_change_sized (C := Try.checked) own started (by kernel_rfl) Try.func12
    (ChangeSpec.witness6 (enc := enc) (C := Try.checked) false ⟨#[], #[.slice none 0 0, .int .i64 0], []⟩ 8 (by kernel_rfl) (by kernel_rfl) (by kernel_rfl) (by kernel_rfl)) ?_
  intro W base args ds gs before hval0 hW hcnd hsz0 _
  have hsz : (DataW.weightsEach Try.prog (Try.f12.params.toList ++ Rows.fuseJoinsSpec.plain.varTypes Try.prog) (ds ++ gs)).all (· ≤ reachBytes) = true := hsz0
  have hval : ∀ (j : Nat) t v, Try.f12.params[j]? = some t → args[j]? = some v → Value.okWide Try.prog W .any base t v := hval0
  have hW' := hW
  obtain ⟨p, q, hA0, hV, rfl, hfz, hnd⟩ := hW
  have hA : DataW.TrodAll enc Try.prog W 0 (fun _ => true) true Try.f12.params.toList args.toList ds p := hA0
  rw [Try.params12] at hA hval hsz
  obtain ⟨v0, vs0, d0, ds0, p0, q0, hargs, rfl, rfl, h0, r0⟩ := trodAll_cons hA
  obtain ⟨v1, vs1, d1, ds1, p1, q1, rfl, rfl, rfl, h1, r1⟩ := trodAll_cons r0
  obtain ⟨rfl, rfl, rfl⟩ := trodAll_nil r1
  obtain rfl : args = #[v0, v1] := by cases args; simp_all
  obtain ⟨rfl, rfl⟩ := trodVars_none hV
  have k0 := h0
  have lt0 : ∀ x ∈ p0, x.block < W.heap.size := by obtain ⟨m, hm⟩ := k0; exact DataW.trod_lt m _ _ _ hm
  obtain ⟨A0, len0, c0, rfl⟩ := okWide_slice Try.underlying25 (hval 0 25 v0 rfl rfl)
  obtain ⟨y0, hK0, hg0⟩ := of_trod reads0 h0 (weights_of hsz (j := 0) rfl rfl)
  have k1 := h1
  have lt1 : ∀ x ∈ p1, x.block < W.heap.size := by obtain ⟨m, hm⟩ := k1; exact DataW.trod_lt m _ _ _ hm
  obtain ⟨a1, rfl, rfl, rfl, w1⟩ := open_int Try.underlying3 (hval 1 3 v1 rfl rfl) h1
  clear hA0 hval0 hsz0 hsz
  refine ((law_spec y0 hg0 a1 w1).told (W := W) (vals := [_, _]) ⟨argSl hK0, argInt a1, trivial⟩).mono fun e W' ⟨he, bel⟩ => ?_
  subst he
  exact ⟨_, rfl, _, _, _, [], _, [], hW', trodAll_mk1 (shut_bool Try.underlying4 _), (trodAll_cons_mk (Below.trod laidOut (by kernel_rfl) (of_decide_eq_true (by kernel_rfl)) k0 bel lt0) (trodAll_cons_mk (shut_int Try.underlying3 w1) trodAll_mk0)), rfl, bel.frame _, fun h => by cases h⟩
theorem over : Rows.fuseJoinsRow.holds Try.pinned (OpenSpec.ofChange Rows.fuseJoinsSpec) :=
  OpenClaim.holds_of_wide 12 Try.f12 rfl rfl rfl rfl rfl rfl rfl ⟨rfl, rfl, rfl, rfl, rfl⟩ rfl rfl rfl rfl rfl (by kernel_rfl) Try.func12 (by kernel_rfl)
    (of_decide_eq_true (by kernel_rfl)) (by unfold Func.isWrapper; first | (rw [if_pos (by decide +kernel)]; kernel_rfl) | (rw [if_neg (by decide +kernel)]; exact ⟨rfl, rfl⟩))
    (fun os started H enc _ => lifted os started H enc)
theorem proved : Rows.FuseJoinsSaid := over
#print axioms proved
end Go.Proofs.Ytgmjgognpabmdaa.fuseJoins
namespace Go.Proofs.Ytgmjgognpabmdaa
/-- The row, under a short name, for the claim. -/
theorem fuseJoins_holds : Rows.FuseJoinsSaid := fuseJoins.proved
end Go.Proofs.Ytgmjgognpabmdaa
