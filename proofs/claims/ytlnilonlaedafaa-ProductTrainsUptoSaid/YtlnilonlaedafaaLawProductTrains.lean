/- The row of the law ProductTrains: for every input it returns true, and its arguments read behind the call as before; out of the contract of the law's code. -/
import Derived.Test.YtlnilonlaedafaaRows
import Derived.Test.YtlnilonlaedafaaFxProductTrains
import Derived.Test.YtlnilonlaedafaaFxOpenU
import Derived.WalkKit
import Derived.ProofKit
import Derived.OpenShut
import Derived.ShutString
import Derived.ChangeOld
import Derived.Below
import Derived.SizedLaws
import Derived.JoinedCond
namespace Go.Proofs.Ytlnilonlaedafaa.productTrainsUpto
open Go.ChangeShapes Go.WideShapes Go.ChangeAt Go.RowKit
open Go.ChangeMaps (open_string shut_string)
open Go.Proofs.Ytlnilonlaedafaa.Fx
set_option linter.unusedVariables false
theorem own : ownKnob Try.prog.godebug = none := by kernel_rfl
theorem laidOut : laidOutB Try.prog = true := by kernel_rfl
theorem reads0 : ReadsU Try.prog 22 1 (fun y : List (List Int) => [.sl 1 (y.map fun z0 => [.sl 1 (z0.map fun z1 => [.int .i64 z1])])]) (fun y => (y.length ≤ 1048576 ∧ ∀ z0 ∈ y, (z0.length ≤ 1048576 ∧ ∀ z1 ∈ z0, (Lit.int .i64 z1).wf = true))) := (Go.Proofs.Ytlnilonlaedafaa.Fx.ReadsU.slice (sz := 1) (by decide) Try.underlying22 (by kernel_rfl) (Go.Proofs.Ytlnilonlaedafaa.Fx.ReadsU.slice (sz := 1) (by decide) Try.underlying23 (by kernel_rfl) (Go.Proofs.Ytlnilonlaedafaa.Fx.ReadsU.int Try.underlying3 (by kernel_rfl))))
theorem reads1 : ReadsU Try.prog 56 3 (fun y : Int × Int × Int => [.int .i64 y.1, .int .i64 y.2.1, .int .i64 y.2.2]) (fun y => ((Lit.int .i64 y.1).wf = true ∧ ((Lit.int .i64 y.2.1).wf = true ∧ (Lit.int .i64 y.2.2).wf = true))) := (Go.Proofs.Ytlnilonlaedafaa.Fx.ReadsU.array Try.underlying56 (by kernel_rfl) (by decide) (Go.Proofs.Ytlnilonlaedafaa.Fx.ReadsRepU.cons (Go.Proofs.Ytlnilonlaedafaa.Fx.ReadsU.int Try.underlying3 (by kernel_rfl)) (Go.Proofs.Ytlnilonlaedafaa.Fx.ReadsRepU.cons (Go.Proofs.Ytlnilonlaedafaa.Fx.ReadsU.int Try.underlying3 (by kernel_rfl)) (Go.Proofs.Ytlnilonlaedafaa.Fx.ReadsRepU.last (Go.Proofs.Ytlnilonlaedafaa.Fx.ReadsU.int Try.underlying3 (by kernel_rfl))))))
theorem reads2 : ReadsU Try.prog 32 1 (fun y : Int => [.int .u64 y]) (fun y => (Lit.int .u64 y).wf = true) := (Go.Proofs.Ytlnilonlaedafaa.Fx.ReadsU.int Try.underlying32 (by kernel_rfl))
set_option maxRecDepth 100000 in
theorem law_spec (y0 : List (List Int)) (h0 : (y0.length ≤ 1048576 ∧ ∀ z0 ∈ y0, (z0.length ≤ 1048576 ∧ ∀ z1 ∈ z0, (Lit.int .i64 z1).wf = true))) (y1 : Int × Int × Int) (h1 : ((Lit.int .i64 y1.1).wf = true ∧ ((Lit.int .i64 y1.2.1).wf = true ∧ (Lit.int .i64 y1.2.2).wf = true))) (y2 : Int) (h2 : (Lit.int .u64 y2).wf = true) : Go.Proofs.Ytlnilonlaedafaa.Fx.Spec Try.prog 12 [(.v (.t (.sl 1 (y0.map fun z0 => [.sl 1 (z0.map fun z1 => [.int .i64 z1])])))), (.agg [(.t (.int .i64 y1.1)), (.t (.int .i64 y1.2.1)), (.t (.int .i64 y1.2.2))]), (.v (.t (.int .u64 y2)))] [] [.v (.t (.bool true))] [] := productTrains_spec y0 y1.1 y1.2.1 y1.2.2 y2 ⟨by omega, fun v hv => by have := (h0.2 v hv).1; omega⟩ (by have := h0.1; omega) (wf64 h1.2.2)
set_option maxRecDepth 100000 in
theorem lifted (os : Os) (started : os.Started) (H : Type) (enc : TypeId × Value → H) (F : Stop.Interp) :
    ReturnsInHanded {} Try.checked os 12 .any ((Rows.OpenSpec.upto Rows.productTrainsSpec).pre6 enc Try.prog Try.f12 Rows.productTrainsUptoRow.domain false) (((Rows.OpenSpec.upto Rows.productTrainsSpec).at F).post enc Try.prog Try.f12 false true false false) := by
  refine returnsInHanded_of_cond (C := Try.checked) (s := (Rows.OpenSpec.upto Rows.productTrainsSpec)) (k := Rows.uptoSmall) rfl own started (by kernel_rfl) Try.func12
    (OpenSpec.witness (enc := enc) (C := Try.checked) (s := (Rows.OpenSpec.upto Rows.productTrainsSpec)) (k := Rows.uptoSmall) rfl false ⟨#[], #[.slice none 0 0, (.agg #[.int .i64 0, .int .i64 0, .int .i64 0]), .int .u64 0], []⟩ 8 (by kernel_rfl) (by kernel_rfl) (by kernel_rfl) (x := ([.nil, (.agg [.lit (.int .i64 0), .lit (.int .i64 0), .lit (.int .i64 0)]), .lit (.int .u64 0)], [], [])) (by kernel_rfl) rfl (by kernel_rfl)) ?_
  intro W base args ds gs before hval0 hW hcnd hkk _
  have hval : ∀ (j : Nat) t v, Try.f12.params[j]? = some t → args[j]? = some v → Value.okWide Try.prog W .any base t v := hval0
  have hW' := hW
  obtain ⟨p, q, hA0, hV, rfl, hfz, hnd⟩ := hW
  have hA : DataW.TrodAll enc Try.prog W 0 (fun _ => true) true Try.f12.params.toList args.toList ds p := hA0
  rw [Try.params12] at hA hval
  obtain ⟨v0, vs0, d0, ds0, p0, q0, hargs, rfl, rfl, h0, r0⟩ := trodAll_cons hA
  obtain ⟨v1, vs1, d1, ds1, p1, q1, rfl, rfl, rfl, h1, r1⟩ := trodAll_cons r0
  obtain ⟨v2, vs2, d2, ds2, p2, q2, rfl, rfl, rfl, h2, r2⟩ := trodAll_cons r1
  obtain ⟨rfl, rfl, rfl⟩ := trodAll_nil r2
  obtain rfl : args = #[v0, v1, v2] := by cases args; simp_all
  obtain ⟨rfl, rfl⟩ := trodVars_none hV
  have k0 := h0
  have lt0 : ∀ x ∈ p0, x.block < W.heap.size := by obtain ⟨m, hm⟩ := k0; exact DataW.trod_lt m _ _ _ hm
  obtain ⟨A0, len0, c0, rfl⟩ := okWide_slice Try.underlying22 (hval 0 22 v0 rfl rfl)
  obtain ⟨y0, hK0, hg0⟩ := of_trodU reads0 h0 (bulk_of hkk (List.mem_append_left _ (by simp)))
  have k1 := h1
  have lt1 : ∀ x ∈ p1, x.block < W.heap.size := by obtain ⟨m, hm⟩ := k1; exact DataW.trod_lt m _ _ _ hm
  obtain ⟨cs1, rfl, _⟩ := okWide_array Try.underlying56 (hval 1 56 v1 rfl rfl)
  obtain ⟨y1, hK1, hg1⟩ := of_trodU reads1 h1 (bulk_of hkk (List.mem_append_left _ (by simp)))
  have k2 := h2
  have lt2 : ∀ x ∈ p2, x.block < W.heap.size := by obtain ⟨m, hm⟩ := k2; exact DataW.trod_lt m _ _ _ hm
  obtain ⟨a2, rfl, rfl, rfl, w2⟩ := open_int Try.underlying32 (hval 2 32 v2 rfl rfl) h2
  clear hA0 hval0
  refine ((law_spec y0 hg0 y1 hg1 a2 w2).told (W := W) (vals := [_, _, _]) ⟨argSl hK0, (by have h := argAgg (G := (inG W).toMk) hK1; exact h), argInt a2, trivial⟩).mono fun e W' ⟨he, bel⟩ => ?_
  subst he
  exact ⟨_, rfl, _, _, _, [], _, [], hW', trodAll_mk1 (shut_bool Try.underlying4 _), (trodAll_cons_mk (Below.trod laidOut (by kernel_rfl) (of_decide_eq_true (by kernel_rfl)) k0 bel lt0) (trodAll_cons_mk (Below.trod laidOut (by kernel_rfl) (of_decide_eq_true (by kernel_rfl)) k1 bel lt1) (trodAll_cons_mk (shut_int Try.underlying32 w2) trodAll_mk0))), rfl, bel.frame _, fun h => by cases h⟩
theorem over : Rows.productTrainsUptoRow.holds Try.pinned (Rows.OpenSpec.upto Rows.productTrainsSpec) :=
  OpenClaim.holds_of_cond 12 Try.f12 rfl rfl rfl rfl rfl rfl rfl ⟨rfl, rfl, rfl, rfl, rfl⟩ rfl rfl rfl rfl rfl (by kernel_rfl) Try.func12 (by kernel_rfl)
    (of_decide_eq_true (by kernel_rfl)) (by unfold Func.isWrapper; first | (rw [if_pos (by decide +kernel)]; kernel_rfl) | (rw [if_neg (by decide +kernel)]; exact ⟨rfl, rfl⟩))
    (fun os started H enc _ F => lifted os started H enc F)
theorem proved : Rows.ProductTrainsUptoSaid := over
#print axioms proved
end Go.Proofs.Ytlnilonlaedafaa.productTrainsUpto
namespace Go.Proofs.Ytlnilonlaedafaa
/-- The row, under a short name, for the claim. -/
theorem productTrainsUpto_holds : Rows.ProductTrainsUptoSaid := productTrainsUpto.proved
end Go.Proofs.Ytlnilonlaedafaa
