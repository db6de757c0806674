/- The row of the law FuseRanks: for every input it returns true, and its arguments read behind the call as before; out of the contract of the law's code. -/
import Derived.Test.YtgmjgognpabmdaaRows
import Derived.Test.YtgmjgognpabmdaaFxFuseRanks
import Derived.Test.YtgmjgognpabmdaaFxOpenU
import Derived.WalkKit
import Derived.ProofKit
import Derived.OpenShut
import Derived.ShutString
import Derived.ChangeOld
import Derived.Below
import Derived.SizedLaws
import Derived.JoinedCond
namespace Go.Proofs.Ytgmjgognpabmdaa.fuseRanksUpto
open Go.ChangeShapes Go.WideShapes Go.ChangeAt Go.RowKit
open Go.ChangeMaps (open_string shut_string)
open Go.Proofs.Ytgmjgognpabmdaa.Fx
set_option linter.unusedVariables false
theorem own : ownKnob Try.prog.godebug = none := by kernel_rfl
theorem laidOut : laidOutB Try.prog = true := by kernel_rfl
theorem reads0 : ReadsU Try.prog 44 1 (fun y : List (List (Int × Int)) => [.sl 1 (y.map fun z0 => [.sl 2 (z0.map fun z1 => [.int .i64 z1.1, .int .i64 z1.2])])]) (fun y => (y.length ≤ 1048576 ∧ ∀ z0 ∈ y, (z0.length ≤ 1048576 ∧ ∀ z1 ∈ z0, ((Lit.int .i64 z1.1).wf = true ∧ (Lit.int .i64 z1.2).wf = true)))) := (Go.Proofs.Ytgmjgognpabmdaa.Fx.ReadsU.slice (sz := 1) (by decide) Try.underlying44 (by kernel_rfl) (Go.Proofs.Ytgmjgognpabmdaa.Fx.ReadsU.slice (sz := 2) (by decide) Try.underlying25 (by kernel_rfl) (Go.Proofs.Ytgmjgognpabmdaa.Fx.ReadsU.struct (f := id) id (fun _ => rfl) Try.underlying23 (by kernel_rfl) (Go.Proofs.Ytgmjgognpabmdaa.Fx.ReadsFromU.cons rfl (Go.Proofs.Ytgmjgognpabmdaa.Fx.ReadsU.int Try.underlying3 (by kernel_rfl)) (Go.Proofs.Ytgmjgognpabmdaa.Fx.ReadsFromU.last rfl (Go.Proofs.Ytgmjgognpabmdaa.Fx.ReadsU.int Try.underlying3 (by kernel_rfl)))))))
set_option maxRecDepth 100000 in
theorem law_spec (y0 : List (List (Int × Int))) (h0 : (y0.length ≤ 1048576 ∧ ∀ z0 ∈ y0, (z0.length ≤ 1048576 ∧ ∀ z1 ∈ z0, ((Lit.int .i64 z1.1).wf = true ∧ (Lit.int .i64 z1.2).wf = true)))) : Go.Proofs.Ytgmjgognpabmdaa.Fx.Spec Try.prog 8 [(.v (.t (.sl 1 (y0.map fun z0 => [.sl 2 (z0.map fun z1 => [.int .i64 z1.1, .int .i64 z1.2])]))))] [] [.v (.t (.bool true))] [] := fuseRanks_spec y0 (tot_small4 h0.1 fun z hz => (h0.2 z hz).1) (by have := h0.1; omega)
set_option maxRecDepth 100000 in
theorem lifted (os : Os) (started : os.Started) (H : Type) (enc : TypeId × Value → H) (F : Stop.Interp) :
    ReturnsInHanded {} Try.checked os 8 .any ((Rows.OpenSpec.upto Rows.fuseRanksSpec).pre6 enc Try.prog Try.f8 Rows.fuseRanksUptoRow.domain false) (((Rows.OpenSpec.upto Rows.fuseRanksSpec).at F).post enc Try.prog Try.f8 false true false false) := by
  refine returnsInHanded_of_cond (C := Try.checked) (s := (Rows.OpenSpec.upto Rows.fuseRanksSpec)) (k := Rows.uptoSmall) rfl own started (by kernel_rfl) Try.func8
    (OpenSpec.witness (enc := enc) (C := Try.checked) (s := (Rows.OpenSpec.upto Rows.fuseRanksSpec)) (k := Rows.uptoSmall) rfl false ⟨#[], #[.slice none 0 0], []⟩ 8 (by kernel_rfl) (by kernel_rfl) (by kernel_rfl) (x := ([.nil], [], [])) (by kernel_rfl) rfl (by kernel_rfl)) ?_
  intro W base args ds gs before hval0 hW hcnd hkk _
  have hval : ∀ (j : Nat) t v, Try.f8.params[j]? = some t → args[j]? = some v → Value.okWide Try.prog W .any base t v := hval0
  have hW' := hW
  obtain ⟨p, q, hA0, hV, rfl, hfz, hnd⟩ := hW
  have hA : DataW.TrodAll enc Try.prog W 0 (fun _ => true) true Try.f8.params.toList args.toList ds p := hA0
  rw [Try.params8] at hA hval
  obtain ⟨v0, vs0, d0, ds0, p0, q0, hargs, rfl, rfl, h0, r0⟩ := trodAll_cons hA
  obtain ⟨rfl, rfl, rfl⟩ := trodAll_nil r0
  obtain rfl : args = #[v0] := by cases args; simp_all
  obtain ⟨rfl, rfl⟩ := trodVars_none hV
  have k0 := h0
  have lt0 : ∀ x ∈ p0, x.block < W.heap.size := by obtain ⟨m, hm⟩ := k0; exact DataW.trod_lt m _ _ _ hm
  obtain ⟨A0, len0, c0, rfl⟩ := okWide_slice Try.underlying44 (hval 0 44 v0 rfl rfl)
  obtain ⟨y0, hK0, hg0⟩ := of_trodU reads0 h0 (bulk_of hkk (List.mem_append_left _ (by simp)))
  clear hA0 hval0
  refine ((law_spec y0 hg0).told (W := W) (vals := [_]) ⟨argSl hK0, trivial⟩).mono fun e W' ⟨he, bel⟩ => ?_
  subst he
  exact ⟨_, rfl, _, _, _, [], _, [], hW', trodAll_mk1 (shut_bool Try.underlying4 _), (trodAll_cons_mk (Below.trod laidOut (by kernel_rfl) (of_decide_eq_true (by kernel_rfl)) k0 bel lt0) trodAll_mk0), rfl, bel.frame _, fun h => by cases h⟩
theorem over : Rows.fuseRanksUptoRow.holds Try.pinned (Rows.OpenSpec.upto Rows.fuseRanksSpec) :=
  OpenClaim.holds_of_cond 8 Try.f8 rfl rfl rfl rfl rfl rfl rfl ⟨rfl, rfl, rfl, rfl, rfl⟩ rfl rfl rfl rfl rfl (by kernel_rfl) Try.func8 (by kernel_rfl)
    (of_decide_eq_true (by kernel_rfl)) (by unfold Func.isWrapper; first | (rw [if_pos (by decide +kernel)]; kernel_rfl) | (rw [if_neg (by decide +kernel)]; exact ⟨rfl, rfl⟩))
    (fun os started H enc _ F => lifted os started H enc F)
theorem proved : Rows.FuseRanksUptoSaid := over
#print axioms proved
end Go.Proofs.Ytgmjgognpabmdaa.fuseRanksUpto
namespace Go.Proofs.Ytgmjgognpabmdaa
/-- The row, under a short name, for the claim. -/
theorem fuseRanksUpto_holds : Rows.FuseRanksUptoSaid := fuseRanksUpto.proved
end Go.Proofs.Ytgmjgognpabmdaa
