-- Written by hp.py, a program of this seat, which calls the kit's printer; contracts proved by hand stand among the printed ones. Lean checks it.
import Derived.Test.YtlnilonlaedafaaRows
import Derived.Test.YtlnilonlaedafaaPx19
import Derived.Test.YtlnilonlaedafaaPureProductNearest
import Derived.Test.YtlnilonlaedafaaQOpen
import Derived.Test.YtlnilonlaedafaaPx0
import Derived.WalkKit
import Derived.ProofKit
import Derived.OpenShut
import Derived.ShutString
import Derived.ChangeOld
import Derived.Below
import Derived.SizedLaws
namespace Go.Proofs.Ytlnilonlaedafaa.productNearest
open Go.ChangeShapes Go.WideShapes Go.ChangeAt Go.RowKit
open Go.ChangeMaps (open_string shut_string)
open Go.Proofs.Ytlnilonlaedafaa.P Go.Proofs.YtlnilonlaedafaaW.PrintWords
set_option linter.unusedVariables false
theorem own : ownKnob Try.prog.godebug = none := by kernel_rfl
theorem laidOut : laidOutB Try.prog = true := by kernel_rfl
theorem reads0 : Go.Proofs.Ytlnilonlaedafaa.Op.Reads Try.prog 45 k45 (fun x => (x.f0.length * 24 ≤ 140737488351232 ∧ ∀ y0_ ∈ x.f0, (y0_.length * 24 ≤ 140737488351232 ∧ ∀ y1_ ∈ y0_, (y1_.length * 8 ≤ 140737488351232 ∧ ∀ y2_ ∈ y1_, (Lit.int .i64 y2_).wf = true)))) := (Go.Proofs.Ytlnilonlaedafaa.Op.Reads.struct (fun p => (⟨p⟩ : S45)) (fun _ => rfl) Try.underlying45 (by kernel_rfl) (Go.Proofs.Ytlnilonlaedafaa.Op.ReadsFrom.last rfl (Go.Proofs.Ytlnilonlaedafaa.Op.Reads.slice (B := 24) Try.underlying43 (by kernel_rfl) (by kernel_rfl) (Go.Proofs.Ytlnilonlaedafaa.Op.Reads.slice (B := 24) Try.underlying22 (by kernel_rfl) (by kernel_rfl) (Go.Proofs.Ytlnilonlaedafaa.Op.Reads.slice (B := 8) Try.underlying23 (by kernel_rfl) (by kernel_rfl) (Go.Proofs.Ytlnilonlaedafaa.Op.Reads.int Try.underlying3 (by kernel_rfl)))))))
theorem reads1 : Go.Proofs.Ytlnilonlaedafaa.Op.Reads Try.prog 23 (Kd.slice 3 (Kd.int .i64)) (fun x => (x.length * 8 ≤ 140737488351232 ∧ ∀ y0_ ∈ x, (Lit.int .i64 y0_).wf = true)) := (Go.Proofs.Ytlnilonlaedafaa.Op.Reads.slice (B := 8) Try.underlying23 (by kernel_rfl) (by kernel_rfl) (Go.Proofs.Ytlnilonlaedafaa.Op.Reads.int Try.underlying3 (by kernel_rfl)))
theorem reads2 : Go.Proofs.Ytlnilonlaedafaa.Op.Reads Try.prog 23 (Kd.slice 3 (Kd.int .i64)) (fun x => (x.length * 8 ≤ 140737488351232 ∧ ∀ y0_ ∈ x, (Lit.int .i64 y0_).wf = true)) := (Go.Proofs.Ytlnilonlaedafaa.Op.Reads.slice (B := 8) Try.underlying23 (by kernel_rfl) (by kernel_rfl) (Go.Proofs.Ytlnilonlaedafaa.Op.Reads.int Try.underlying3 (by kernel_rfl)))
set_option maxRecDepth 100000 in
theorem lifted (os : Os) (started : os.Started) (H : Type) (enc : TypeId × Value → H) :
    ReturnsInHanded {} Try.checked os 11 .any (Rows.productNearestSpec.pre6 enc Try.prog Try.f11 Rows.productNearestRow.domain false) (Rows.productNearestSpec.post enc Try.prog Try.f11 false true false false) := by
  refine returnsInHanded_of_change_sized (C := Try.checked) own started (by kernel_rfl) Try.func11
    (ChangeSpec.witness6 (enc := enc) (C := Try.checked) false ⟨#[], #[(.agg #[(.slice none 0 0)]), .slice none 0 0, .slice none 0 0], []⟩ 8 (by kernel_rfl) (by kernel_rfl) (by kernel_rfl) (by kernel_rfl)) ?_
  intro W base args ds gs before hval0 hW hcnd hsz0 _
  have hsz : (DataW.weightsEach Try.prog (Try.f11.params.toList ++ Rows.productNearestSpec.plain.varTypes Try.prog) (ds ++ gs)).all (· ≤ reachBytes) = true := hsz0
  have hval : ∀ (j : Nat) t v, Try.f11.params[j]? = some t → args[j]? = some v → Value.okWide Try.prog W .any base t v := hval0
  have hW' := hW
  obtain ⟨p, q, hA0, hV, rfl, hfz, hnd⟩ := hW
  have hA : DataW.TrodAll enc Try.prog W 0 (fun _ => true) true Try.f11.params.toList args.toList ds p := hA0
  rw [Try.params11] at hA hval hsz
  obtain ⟨v0, vs0, d0, ds0, p0, q0, hargs, rfl, rfl, h0, r0⟩ := trodAll_cons hA
  obtain ⟨v1, vs1, d1, ds1, p1, q1, rfl, rfl, rfl, h1, r1⟩ := trodAll_cons r0
  obtain ⟨v2, vs2, d2, ds2, p2, q2, rfl, rfl, rfl, h2, r2⟩ := trodAll_cons r1
  obtain ⟨rfl, rfl, rfl⟩ := trodAll_nil r2
  obtain rfl : args = #[v0, v1, v2] := by cases args; simp_all
  obtain ⟨rfl, rfl⟩ := trodVars_none hV
  have k0 := h0
  have lt0 : ∀ x ∈ p0, x.block < W.heap.size := by obtain ⟨m, hm⟩ := k0; exact DataW.trod_lt m _ _ _ hm
  obtain ⟨cs0, rfl, _⟩ := okWide_struct Try.underlying45 (hval 0 45 v0 rfl rfl)
  obtain ⟨y0, hK0, hg0⟩ := Go.Proofs.Ytlnilonlaedafaa.Op.of_trod reads0 h0 (Go.Proofs.Ytlnilonlaedafaa.Op.weights_of hsz (j := 0) rfl rfl)
  obtain ⟨A0_0, c0_0, hcs0, hc0_0, hr0_0⟩ := k45_open hK0
  obtain rfl : cs0 = #[.slice A0_0 y0.f0.length c0_0] := by simpa [Value.cells] using congrArg List.toArray hcs0
  have k1 := h1
  have lt1 : ∀ x ∈ p1, x.block < W.heap.size := by obtain ⟨m, hm⟩ := k1; exact DataW.trod_lt m _ _ _ hm
  obtain ⟨A1, len1, c1, rfl⟩ := okWide_slice Try.underlying23 (hval 1 23 v1 rfl rfl)
  obtain ⟨l1, rfl, hc1, hr1, hg1⟩ := Go.Proofs.Ytlnilonlaedafaa.Op.slice_arg reads1 h1 (Go.Proofs.Ytlnilonlaedafaa.Op.weights_of hsz (j := 1) rfl rfl)
  have k2 := h2
  have lt2 : ∀ x ∈ p2, x.block < W.heap.size := by obtain ⟨m, hm⟩ := k2; exact DataW.trod_lt m _ _ _ hm
  obtain ⟨A2, len2, c2, rfl⟩ := okWide_slice Try.underlying23 (hval 2 23 v2 rfl rfl)
  obtain ⟨l2, rfl, hc2, hr2, hg2⟩ := Go.Proofs.Ytlnilonlaedafaa.Op.slice_arg reads2 h2 (Go.Proofs.Ytlnilonlaedafaa.Op.weights_of hsz (j := 2) rfl rfl)
  clear hA0 hval0 hsz0 hsz
  refine (P.lodestarlaw19_ProductNearest.walk Pure.ProductNearest A0_0 c0_0 y0.f0 A1 c1 l1 A2 c2 l2 W hr0_0 hc0_0 hg0 hr1 hc1 hg1 hr2 hc2 hg2).mono fun e W' ⟨he, bel⟩ => ?_
  subst he
  exact ⟨_, rfl, _, _, _, [], _, [], hW', trodAll_mk1 (shut_bool Try.underlying4 _), (trodAll_cons_mk (Below.trod laidOut (by kernel_rfl) (of_decide_eq_true (by kernel_rfl)) k0 bel lt0) (trodAll_cons_mk (Below.trod laidOut (by kernel_rfl) (of_decide_eq_true (by kernel_rfl)) k1 bel lt1) (trodAll_cons_mk (Below.trod laidOut (by kernel_rfl) (of_decide_eq_true (by kernel_rfl)) k2 bel lt2) trodAll_mk0))), rfl, bel.frame _, fun h => by cases h⟩
theorem over : Rows.productNearestRow.holds Try.pinned (OpenSpec.ofChange Rows.productNearestSpec) :=
  OpenClaim.holds_of_wide 11 Try.f11 rfl rfl rfl rfl rfl rfl rfl ⟨rfl, rfl, rfl, rfl, rfl⟩ rfl rfl rfl rfl rfl (by kernel_rfl) Try.func11 (by kernel_rfl)
    (of_decide_eq_true (by kernel_rfl)) (by unfold Func.isWrapper; first | (rw [if_pos (by decide +kernel)]; kernel_rfl) | (rw [if_neg (by decide +kernel)]; exact ⟨rfl, rfl⟩))
    (fun os started H enc _ => lifted os started H enc)
theorem proved : Rows.ProductNearestSaid := over
#print axioms proved
end Go.Proofs.Ytlnilonlaedafaa.productNearest
namespace Go.Proofs.Ytlnilonlaedafaa
/-- The row, under a short name, for the claim. -/
theorem productNearest_holds : Rows.ProductNearestSaid := productNearest.proved
end Go.Proofs.Ytlnilonlaedafaa
