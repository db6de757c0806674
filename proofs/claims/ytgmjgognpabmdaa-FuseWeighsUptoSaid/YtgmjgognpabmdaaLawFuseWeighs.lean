/- The row of the law FuseWeighs: for every input it returns true, and its arguments read behind the call as before; out of the contract of the law's code. -/
import Derived.Test.YtgmjgognpabmdaaRows
import Derived.Test.YtgmjgognpabmdaaFxFuseWeighs
import Derived.Test.YtgmjgognpabmdaaFxOpenU
import Derived.WalkKit
import Derived.ProofKit
import Derived.OpenShut
import Derived.ShutString
import Derived.ChangeOld
import Derived.Below
import Derived.SizedLaws
import Derived.JoinedCond
namespace Go.Proofs.Ytgmjgognpabmdaa.fuseWeighsUpto
open Go.ChangeShapes Go.WideShapes Go.ChangeAt Go.RowKit
open Go.ChangeMaps (open_string shut_string)
open Go.Proofs.Ytgmjgognpabmdaa.Fx
set_option linter.unusedVariables false
theorem own : ownKnob Try.prog.godebug = none := by kernel_rfl
theorem laidOut : laidOutB Try.prog = true := by kernel_rfl
theorem reads0 : ReadsU Try.prog 44 1 (fun y : List (List (Int × Int)) => [.sl 1 (y.map fun z0 => [.sl 2 (z0.map fun z1 => [.int .i64 z1.1, .int .i64 z1.2])])]) (fun y => (y.length ≤ 1048576 ∧ ∀ z0 ∈ y, (z0.length ≤ 1048576 ∧ ∀ z1 ∈ z0, ((Lit.int .i64 z1.1).wf = true ∧ (Lit.int .i64 z1.2).wf = true)))) := (Go.Proofs.Ytgmjgognpabmdaa.Fx.ReadsU.slice (sz := 1) (by decide) Try.underlying44 (by kernel_rfl) (Go.Proofs.Ytgmjgognpabmdaa.Fx.ReadsU.slice (sz := 2) (by decide) Try.underlying25 (by kernel_rfl) (Go.Proofs.Ytgmjgognpabmdaa.Fx.ReadsU.struct (f := id) id (fun _ => rfl) Try.underlying23 (by kernel_rfl) (Go.Proofs.Ytgmjgognpabmdaa.Fx.ReadsFromU.cons rfl (Go.Proofs.Ytgmjgognpabmdaa.Fx.ReadsU.int Try.underlying3 (by kernel_rfl)) (Go.Proofs.Ytgmjgognpabmdaa.Fx.ReadsFromU.last rfl (Go.Proofs.Ytgmjgognpabmdaa.Fx.ReadsU.int Try.underlying3 (by kernel_rfl)))))))
theorem reads1 : ReadsU Try.prog 48 1 (fun y : List Int => [.sl 1 (y.map fun z0 => [.int .i64 z0])]) (fun y => (y.length ≤ 1048576 ∧ ∀ z0 ∈ y, (Lit.int .i64 z0).wf = true)) := (Go.Proofs.Ytgmjgognpabmdaa.Fx.ReadsU.slice (sz := 1) (by decide) Try.underlying48 (by kernel_rfl) (Go.Proofs.Ytgmjgognpabmdaa.Fx.ReadsU.int Try.underlying3 (by kernel_rfl)))
theorem reads2 : ReadsU Try.prog 48 1 (fun y : List Int => [.sl 1 (y.map fun z0 => [.int .i64 z0])]) (fun y => (y.length ≤ 1048576 ∧ ∀ z0 ∈ y, (Lit.int .i64 z0).wf = true)) := (Go.Proofs.Ytgmjgognpabmdaa.Fx.ReadsU.slice (sz := 1) (by decide) Try.underlying48 (by kernel_rfl) (Go.Proofs.Ytgmjgognpabmdaa.Fx.ReadsU.int Try.underlying3 (by kernel_rfl)))
set_option maxRecDepth 100000 in
theorem law_spec (y0 : List (List (Int × Int))) (h0 : (y0.length ≤ 1048576 ∧ ∀ z0 ∈ y0, (z0.length ≤ 1048576 ∧ ∀ z1 ∈ z0, ((Lit.int .i64 z1.1).wf = true ∧ (Lit.int .i64 z1.2).wf = true)))) (y1 : List Int) (h1 : (y1.length ≤ 1048576 ∧ ∀ z0 ∈ y1, (Lit.int .i64 z0).wf = true)) (y2 : List Int) (h2 : (y2.length ≤ 1048576 ∧ ∀ z0 ∈ y2, (Lit.int .i64 z0).wf = true)) : Go.Proofs.Ytgmjgognpabmdaa.Fx.Spec Try.prog 9 [(.v (.t (.sl 1 (y0.map fun z0 => [.sl 2 (z0.map fun z1 => [.int .i64 z1.1, .int .i64 z1.2])])))), (.v (.t (.sl 1 (y1.map fun z0 => [.int .i64 z0])))), (.v (.t (.sl 1 (y2.map fun z0 => [.int .i64 z0]))))] [] [.v (.t (.bool true))] [] := fuseWeighs_spec y0 y1 y2 (tot_small4 h0.1 fun z hz => (h0.2 z hz).1) (by have := h0.1; omega) (by have := h1.1; omega) (fun w hw => wf64 (h2.2 w hw)) (fun l hl z hz => wf64 ((h0.2 l hl).2 z hz).2)
set_option maxRecDepth 100000 in
theorem lifted (os : Os) (started : os.Started) (H : Type) (enc : TypeId × Value → H) (F : Stop.Interp) :
    ReturnsInHanded {} Try.checked os 9 .any ((Rows.OpenSpec.upto Rows.fuseWeighsSpec).pre6 enc Try.prog Try.f9 Rows.fuseWeighsUptoRow.domain false) (((Rows.OpenSpec.upto Rows.fuseWeighsSpec).at F).post enc Try.prog Try.f9 false true false false) := by
  refine returnsInHanded_of_cond (C := Try.checked) (s := (Rows.OpenSpec.upto Rows.fuseWeighsSpec)) (k := Rows.uptoSmall) rfl own started (by kernel_rfl) Try.func9
    (OpenSpec.witness (enc := enc) (C := Try.checked) (s := (Rows.OpenSpec.upto Rows.fuseWeighsSpec)) (k := Rows.uptoSmall) rfl false ⟨#[], #[.slice none 0 0, .slice none 0 0, .slice none 0 0], []⟩ 8 (by kernel_rfl) (by kernel_rfl) (by kernel_rfl) (x := ([.nil, .nil, .nil], [], [])) (by kernel_rfl) rfl (by kernel_rfl)) ?_
  intro W base args ds gs before hval0 hW hcnd hkk _
  have hval : ∀ (j : Nat) t v, Try.f9.params[j]? = some t → args[j]? = some v → Value.okWide Try.prog W .any base t v := hval0
  have hW' := hW
  obtain ⟨p, q, hA0, hV, rfl, hfz, hnd⟩ := hW
  have hA : DataW.TrodAll enc Try.prog W 0 (fun _ => true) true Try.f9.params.toList args.toList ds p := hA0
  rw [Try.params9] at hA hval
  obtain ⟨v0, vs0, d0, ds0, p0, q0, hargs, rfl, rfl, h0, r0⟩ := trodAll_cons hA
  obtain ⟨v1, vs1, d1, ds1, p1, q1, rfl, rfl, rfl, h1, r1⟩ := trodAll_cons r0
  obtain ⟨v2, vs2, d2, ds2, p2, q2, rfl, rfl, rfl, h2, r2⟩ := trodAll_cons r1
  obtain ⟨rfl, rfl, rfl⟩ := trodAll_nil r2
  obtain rfl : args = #[v0, v1, v2] := by cases args; simp_all
  obtain ⟨rfl, rfl⟩ := trodVars_none hV
  have k0 := h0
  have lt0 : ∀ x ∈ p0, x.block < W.heap.size := by obtain ⟨m, hm⟩ := k0; exact DataW.trod_lt m _ _ _ hm
  obtain ⟨A0, len0, c0, rfl⟩ := okWide_slice Try.underlying44 (hval 0 44 v0 rfl rfl)
  obtain ⟨y0, hK0, hg0⟩ := of_trodU reads0 h0 (bulk_of hkk (List.mem_append_left _ (by simp)))
  have k1 := h1
  have lt1 : ∀ x ∈ p1, x.block < W.heap.size := by obtain ⟨m, hm⟩ := k1; exact DataW.trod_lt m _ _ _ hm
  obtain ⟨A1, len1, c1, rfl⟩ := okWide_slice Try.underlying48 (hval 1 48 v1 rfl rfl)
  obtain ⟨y1, hK1, hg1⟩ := of_trodU reads1 h1 (bulk_of hkk (List.mem_append_left _ (by simp)))
  have k2 := h2
  have lt2 : ∀ x ∈ p2, x.block < W.heap.size := by obtain ⟨m, hm⟩ := k2; exact DataW.trod_lt m _ _ _ hm
  obtain ⟨A2, len2, c2, rfl⟩ := okWide_slice Try.underlying48 (hval 2 48 v2 rfl rfl)
  obtain ⟨y2, hK2, hg2⟩ := of_trodU reads2 h2 (bulk_of hkk (List.mem_append_left _ (by simp)))
  clear hA0 hval0
  refine ((law_spec y0 hg0 y1 hg1 y2 hg2).told (W := W) (vals := [_, _, _]) ⟨argSl hK0, argSl hK1, argSl hK2, trivial⟩).mono fun e W' ⟨he, bel⟩ => ?_
  subst he
  exact ⟨_, rfl, _, _, _, [], _, [], hW', trodAll_mk1 (shut_bool Try.underlying4 _), (trodAll_cons_mk (Below.trod laidOut (by kernel_rfl) (of_decide_eq_true (by kernel_rfl)) k0 bel lt0) (trodAll_cons_mk (Below.trod laidOut (by kernel_rfl) (of_decide_eq_true (by kernel_rfl)) k1 bel lt1) (trodAll_cons_mk (Below.trod laidOut (by kernel_rfl) (of_decide_eq_true (by kernel_rfl)) k2 bel lt2) trodAll_mk0))), rfl, bel.frame _, fun h => by cases h⟩
theorem over : Rows.fuseWeighsUptoRow.holds Try.pinned (Rows.OpenSpec.upto Rows.fuseWeighsSpec) :=
  OpenClaim.holds_of_cond 9 Try.f9 rfl rfl rfl rfl rfl rfl rfl ⟨rfl, rfl, rfl, rfl, rfl⟩ rfl rfl rfl rfl rfl (by kernel_rfl) Try.func9 (by kernel_rfl)
    (of_decide_eq_true (by kernel_rfl)) (by unfold Func.isWrapper; first | (rw [if_pos (by decide +kernel)]; kernel_rfl) | (rw [if_neg (by decide +kernel)]; exact ⟨rfl, rfl⟩))
    (fun os started H enc _ F => lifted os started H enc F)
theorem proved : Rows.FuseWeighsUptoSaid := over
#print axioms proved
end Go.Proofs.Ytgmjgognpabmdaa.fuseWeighsUpto
namespace Go.Proofs.Ytgmjgognpabmdaa
/-- The row, under a short name, for the claim. -/
theorem fuseWeighsUpto_holds : Rows.FuseWeighsUptoSaid := fuseWeighsUpto.proved
end Go.Proofs.Ytgmjgognpabmdaa
