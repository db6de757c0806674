/- A call that answers with a new name: taken under the slot's own number. -/
import Derived.Test.YtgmjgognpabmdaaFxFold
namespace Go.Proofs.Ytgmjgognpabmdaa.Fx
open Go Go.RowKit
set_option linter.unusedSimpArgs false
set_option linter.unusedVariables false
/-- A call without names that answers with one: under the number of the call's slot. -/
theorem m_call1 {E : Env} {T : TypeId → Option TI} {n d : Nat} {cal : Callee} {args : List Operand} {types : List TypeId} {K : St → Prop} {l : List (Nat × SV)} {hs : List (Nat × Blk)} {f : FuncId} {vs res : List AV} {nm sz : Nat} {rows : List (List CV)}
    (hE : E f vs [] res [(nm, .cells sz rows)]) (hcal : calleeOf T (mk l hs) cal = some (f, [], [])) (hargs : argsRaw T (mk l hs) args types = some vs) (hv : vs.map (AV.ren (sw nm d)) = vs)
    (hp : ∀ k, hasRows k rows = false) (hres : ∀ k, hasA k res = true → k = nm) (hd : d < n) (hf : freshL none d hs = true)
    (hx : K (mk (ins d (resSV (res.map (AV.ren (sw nm d)))) (mapV (SV.kill d) l)) (ins d (.cells sz rows) hs))) : callM E T n (some d) cal args types K (mk l hs) := by
  unfold callM
  rw [hcal, hargs]
  refine ⟨sw nm d, vs, [], res, [(nm, .cells sz rows)], hE, by simpa using hv, ⟨trivial, fun a _ b _ h => sw_inj h, ?_, ?_⟩, ?_⟩
  · intro p hp' _
    rw [List.mem_singleton] at hp'
    subst hp'
    simp only [sw_left]
    refine ⟨hd, fun k blk _ h2 h3 => ?_⟩
    have hfr := fresh_mk l hs d hf
    refine hfr k blk ?_ h3
    rintro rfl
    simp [sw_left] at h2
  · rintro k (h | ⟨p, h1, h2⟩)
    · simp [hres k h]
    · rw [List.mem_singleton] at h1
      subst h1
      simp only [Blk.has, hp] at h2
      cases h2
  · rw [called_name hp, mk_name]
    simp only [putK, hd, if_true]
    rw [mk_put]
    exact hx
theorem avren_v (ρ : Nat → Nat) (x : CV) : (AV.v x).ren ρ = .v (x.ren ρ) := rfl
theorem avren_a (ρ : Nat → Nat) (cs : List CV) : (AV.agg cs).ren ρ = .agg (renL ρ cs) := rfl
attribute [go_sem] sw_left avren_v avren_a CV.ren
/-- The same within a drawn region. -/
theorem m_callT {E : Env} {T : TypeId → Option TI} {n d : Nat} {cal : Callee} {args : List Operand} {types : List TypeId} {K : St → Prop} {l : List (Nat × SV)} {hs : List (Nat × Blk)} {f : FuncId} {vs : List AV} {nm sz len : Nat} {rows : List (List CV)}
    (hE : E f vs [] [.v (.mr nm 0 len)] [(nm, .cells sz rows)]) (hcal : calleeOf T (mk l hs) cal = some (f, [], [])) (hargs : argsRaw T (mk l hs) args types = some vs) (hv : ∀ k, hasA k vs = false)
    (hp : ∀ k, hasRows k rows = false) (hd : d < n) (hf : freshL none d hs = true)
    (hx : K (mk (ins d (.c (.mr d 0 len)) (mapV (SV.kill d) l)) (ins d (.cells sz rows) hs))) : callN E T cal args types (runE n (some d) K (mk l hs)) (mk l hs) := by
  unfold callN
  rw [hcal, hargs]
  refine ⟨hv, nm, sz, rows, len, hE, hp, ?_⟩
  simp only [runE, nameK]
  rw [if_pos hd]
  refine ⟨fresh_mk l hs d hf, hp d, ?_⟩
  rw [mk_name, mk_put]
  exact hx
theorem one_name {nm lo n k : Nat} (h : hasA k [.v (.mr nm lo n)] = true) : k = nm := by
  simp only [hasA, AV.has, CV.has, Bool.or_false, beq_iff_eq] at h
  exact h.symm
end Go.Proofs.Ytgmjgognpabmdaa.Fx
