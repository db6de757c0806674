/- The row of the law TopkBest: for every input it returns true, and its arguments read behind the call as before; out of the contract of the law's code. -/
import Derived.Test.YtgmjgognpabmdaaRows
import Derived.Test.YtgmjgognpabmdaaFxTopkBest
import Derived.Test.YtgmjgognpabmdaaFxOpen
import Derived.WalkKit
import Derived.ProofKit
import Derived.OpenShut
import Derived.ShutString
import Derived.ChangeOld
import Derived.Below
import Derived.SizedLaws
namespace Go.Proofs.Ytgmjgognpabmdaa.topkBest
open Go.ChangeShapes Go.WideShapes Go.ChangeAt Go.RowKit
open Go.ChangeMaps (open_string shut_string)
open Go.Proofs.Ytgmjgognpabmdaa.Fx
set_option linter.unusedVariables false
theorem own : ownKnob Try.prog.godebug = none := by kernel_rfl
theorem laidOut : laidOutB Try.prog = true := by kernel_rfl
theorem reads0 : Reads Try.prog 3 1 (fun y : Int => [.int .i64 y]) (fun y => (Lit.int .i64 y).wf = true) := (Go.Proofs.Ytgmjgognpabmdaa.Fx.Reads.int Try.underlying3 (by kernel_rfl))
theorem reads1 : Reads Try.prog 3 1 (fun y : Int => [.int .i64 y]) (fun y => (Lit.int .i64 y).wf = true) := (Go.Proofs.Ytgmjgognpabmdaa.Fx.Reads.int Try.underlying3 (by kernel_rfl))
theorem reads2 : Reads Try.prog 25 1 (fun y : List (Int × Int) => [.sl 2 (y.map fun z0 => [.int .i64 z0.1, .int .i64 z0.2])]) (fun y => (y.length * 16 ≤ 140737488351232 ∧ ∀ z0 ∈ y, ((Lit.int .i64 z0.1).wf = true ∧ (Lit.int .i64 z0.2).wf = true))) := (Go.Proofs.Ytgmjgognpabmdaa.Fx.Reads.slice (sz := 2) (B := 16) (by decide) Try.underlying25 (by kernel_rfl) (by kernel_rfl) (Go.Proofs.Ytgmjgognpabmdaa.Fx.Reads.struct (f := id) id (fun _ => rfl) Try.underlying23 (by kernel_rfl) (Go.Proofs.Ytgmjgognpabmdaa.Fx.ReadsFrom.cons rfl (Go.Proofs.Ytgmjgognpabmdaa.Fx.Reads.int Try.underlying3 (by kernel_rfl)) (Go.Proofs.Ytgmjgognpabmdaa.Fx.ReadsFrom.last rfl (Go.Proofs.Ytgmjgognpabmdaa.Fx.Reads.int Try.underlying3 (by kernel_rfl))))))
set_option maxRecDepth 100000 in
theorem law_spec (y0 : Int) (h0 : (Lit.int .i64 y0).wf = true) (y1 : Int) (h1 : (Lit.int .i64 y1).wf = true) (y2 : List (Int × Int)) (h2 : (y2.length * 16 ≤ 140737488351232 ∧ ∀ z0 ∈ y2, ((Lit.int .i64 z0.1).wf = true ∧ (Lit.int .i64 z0.2).wf = true))) : Go.Proofs.Ytgmjgognpabmdaa.Fx.Spec Try.prog 4 [(.v (.t (.int .i64 y0))), (.v (.t (.int .i64 y1))), (.v (.t (.sl 2 (y2.map fun z0 => [.int .i64 z0.1, .int .i64 z0.2]))))] [] [.v (.t (.bool true))] [] := topkBest_spec y0 y1 y2 (wf64 h1).2 (by have := h2.1; omega)
set_option maxRecDepth 100000 in
theorem lifted (os : Os) (started : os.Started) (H : Type) (enc : TypeId × Value → H) :
    ReturnsInHanded {} Try.checked os 4 .any (Rows.topkBestSpec.pre6 enc Try.prog Try.f4 Rows.topkBestRow.domain false) (Rows.topkBestSpec.post enc Try.prog Try.f4 false true false false) := by
  refine returnsInHanded_of_change_sized (C := Try.checked) own started (by kernel_rfl) Try.func4
    (ChangeSpec.witness6 (enc := enc) (C := Try.checked) false ⟨#[], #[.int .i64 0, .int .i64 0, .slice none 0 0], []⟩ 8 (by kernel_rfl) (by kernel_rfl) (by kernel_rfl) (by kernel_rfl)) ?_
  intro W base args ds gs before hval0 hW hcnd hsz0 _
  have hsz : (DataW.weightsEach Try.prog (Try.f4.params.toList ++ Rows.topkBestSpec.plain.varTypes Try.prog) (ds ++ gs)).all (· ≤ reachBytes) = true := hsz0
  have hval : ∀ (j : Nat) t v, Try.f4.params[j]? = some t → args[j]? = some v → Value.okWide Try.prog W .any base t v := hval0
  have hW' := hW
  obtain ⟨p, q, hA0, hV, rfl, hfz, hnd⟩ := hW
  have hA : DataW.TrodAll enc Try.prog W 0 (fun _ => true) true Try.f4.params.toList args.toList ds p := hA0
  rw [Try.params4] at hA hval hsz
  obtain ⟨v0, vs0, d0, ds0, p0, q0, hargs, rfl, rfl, h0, r0⟩ := trodAll_cons hA
  obtain ⟨v1, vs1, d1, ds1, p1, q1, rfl, rfl, rfl, h1, r1⟩ := trodAll_cons r0
  obtain ⟨v2, vs2, d2, ds2, p2, q2, rfl, rfl, rfl, h2, r2⟩ := trodAll_cons r1
  obtain ⟨rfl, rfl, rfl⟩ := trodAll_nil r2
  obtain rfl : args = #[v0, v1, v2] := by cases args; simp_all
  obtain ⟨rfl, rfl⟩ := trodVars_none hV
  have k0 := h0
  have lt0 : ∀ x ∈ p0, x.block < W.heap.size := by obtain ⟨m, hm⟩ := k0; exact DataW.trod_lt m _ _ _ hm
  obtain ⟨a0, rfl, rfl, rfl, w0⟩ := open_int Try.underlying3 (hval 0 3 v0 rfl rfl) h0
  have k1 := h1
  have lt1 : ∀ x ∈ p1, x.block < W.heap.size := by obtain ⟨m, hm⟩ := k1; exact DataW.trod_lt m _ _ _ hm
  obtain ⟨a1, rfl, rfl, rfl, w1⟩ := open_int Try.underlying3 (hval 1 3 v1 rfl rfl) h1
  have k2 := h2
  have lt2 : ∀ x ∈ p2, x.block < W.heap.size := by obtain ⟨m, hm⟩ := k2; exact DataW.trod_lt m _ _ _ hm
  obtain ⟨A2, len2, c2, rfl⟩ := okWide_slice Try.underlying25 (hval 2 25 v2 rfl rfl)
  obtain ⟨y2, hK2, hg2⟩ := of_trod reads2 h2 (weights_of hsz (j := 2) rfl rfl)
  clear hA0 hval0 hsz0 hsz
  refine ((law_spec a0 w0 a1 w1 y2 hg2).told (W := W) (vals := [_, _, _]) ⟨argInt a0, argInt a1, argSl hK2, trivial⟩).mono fun e W' ⟨he, bel⟩ => ?_
  subst he
  exact ⟨_, rfl, _, _, _, [], _, [], hW', trodAll_mk1 (shut_bool Try.underlying4 _), (trodAll_cons_mk (shut_int Try.underlying3 w0) (trodAll_cons_mk (shut_int Try.underlying3 w1) (trodAll_cons_mk (Below.trod laidOut (by kernel_rfl) (of_decide_eq_true (by kernel_rfl)) k2 bel lt2) trodAll_mk0))), rfl, bel.frame _, fun h => by cases h⟩
theorem over : Rows.topkBestRow.holds Try.pinned (OpenSpec.ofChange Rows.topkBestSpec) :=
  OpenClaim.holds_of_wide 4 Try.f4 rfl rfl rfl rfl rfl rfl rfl ⟨rfl, rfl, rfl, rfl, rfl⟩ rfl rfl rfl rfl rfl (by kernel_rfl) Try.func4 (by kernel_rfl)
    (of_decide_eq_true (by kernel_rfl)) (by unfold Func.isWrapper; first | (rw [if_pos (by decide +kernel)]; kernel_rfl) | (rw [if_neg (by decide +kernel)]; exact ⟨rfl, rfl⟩))
    (fun os started H enc _ => lifted os started H enc)
theorem proved : Rows.TopkBestSaid := over
#print axioms proved
end Go.Proofs.Ytgmjgognpabmdaa.topkBest
namespace Go.Proofs.Ytgmjgognpabmdaa
/-- The row, under a short name, for the claim. -/
theorem topkBest_holds : Rows.TopkBestSaid := topkBest.proved
end Go.Proofs.Ytgmjgognpabmdaa
