/- Two names changed for each other: a name is a mark and no more. -/
import Derived.Test.YtgmjgognpabmdaaFxCall
namespace Go.Proofs.Ytgmjgognpabmdaa.Fx
open Go Go.RowKit
set_option linter.unusedSimpArgs false
set_option linter.unusedVariables false
variable {cx : Cx} {G : Gh} {st : St} {a : Act} {n : Nat} {w : World}
def SV.ren (ρ : Nat → Nat) : SV → SV
  | .undef => .undef
  | .c v => .c (v.ren ρ)
  | .agg cs => .agg (renL ρ cs)
  | .tup vs => .tup (vs.map (AV.ren ρ))
  | .fp cells => .fp cells
def St.ren (ρ : Nat → Nat) (st : St) : St := { slots := fun t => (st.slots t).ren ρ, heap := fun k => (st.heap (ρ k)).map (Blk.ren ρ) }
theorem renA_all2 {M M' : Mk} {ρ : Nat → Nat} (ht : ∀ v y, TVR M.hw w v y → TVR M'.hw w v y) (hp : ∀ nm, M'.ph (ρ nm) = M.ph nm) : ∀ {vs : List AV} {us : List Value}, All2 (AVR M w) vs us → All2 (AVR M' w) (vs.map (AV.ren ρ)) us
  | [], [], _ => trivial
  | v :: vs, u :: us, h => ⟨h.1.ren ht fun nm _ => hp nm, renA_all2 ht hp h.2⟩
  | [], _ :: _, h => h.elim
  | _ :: _, [], h => h.elim
theorem renC_all2 {M M' : Mk} {ρ : Nat → Nat} {S : Nat → Prop} (ht : ∀ v y, TVR M.hw w v y → TVR M'.hw w v y) (hp : ∀ nm, M'.ph (ρ nm) = M.ph nm) : ∀ {vs : List CV} {us : List Value}, All2 (CVR M w S) vs us → All2 (CVR M' w S) (renL ρ vs) us
  | [], [], _ => trivial
  | v :: vs, u :: us, h => ⟨CVR.ren h.1 ht fun nm _ => hp nm, renC_all2 ht hp h.2⟩
  | [], _ :: _, h => h.elim
  | _ :: _, [], h => h.elim
theorem SVR.ren {M M' : Mk} {ρ : Nat → Nat} {sv : SV} {x : Value} (h : SVR M w sv x) (hw : M'.hw = M.hw) (hp : ∀ nm, M'.ph (ρ nm) = M.ph nm) : SVR M' w (sv.ren ρ) x := by
  have ht : ∀ v y, TVR M.hw w v y → TVR M'.hw w v y := fun v y h => by rw [hw]; exact h
  cases sv with
  | undef => trivial
  | c v => exact CVR.ren h ht fun nm _ => hp nm
  | agg cs => obtain ⟨us, rfl, h1⟩ := h; exact ⟨us, rfl, renC_all2 ht hp h1⟩
  | tup vs => obtain ⟨us, rfl, h1⟩ := h; exact ⟨us, rfl, renA_all2 ht hp h1⟩
  | fp cells =>
    obtain ⟨b, o, rfl, h1, h2⟩ := h
    exact ⟨b, o, rfl, by rw [hw]; exact h1, fun j v hj => by
      obtain ⟨u, q1, q2⟩ := h2 j v hj
      exact ⟨u, q1, ht _ _ q2⟩⟩
theorem R.ren (hR : R cx G st a w) {ρ : Nat → Nat} (h2 : ∀ k, ρ (ρ k) = k) (hn : ∀ k, cx.n ≤ k → ρ k = k) : ∃ G', R cx G' (st.ren ρ) a w := by
  refine ⟨⟨⟨G.hw, fun k => G.ph (ρ k)⟩, fun k b => G.reg (ρ k) b⟩, ?_⟩
  have hp : ∀ nm, (fun k => G.ph (ρ k)) (ρ nm) = G.ph nm := fun nm => by simp only [h2]
  have hb : ∀ nm blk, (st.ren ρ).heap nm = some blk → ∃ b0, st.heap (ρ nm) = some b0 ∧ blk = b0.ren ρ := by
    intro nm blk h
    simp only [St.ren] at h
    cases e : st.heap (ρ nm) with
    | none => rw [e] at h; cases h
    | some b0 => rw [e] at h; exact ⟨b0, rfl, (Option.some.inj h).symm⟩
  refine ⟨hR.kept, hR.hwOld, hR.hwNew, hR.tmps, hR.defers, fun t => SVR.ren (M := G.toMk) (hR.slots t) rfl hp, fun nm blk h => ?_, fun nm blk k h hr => ?_, fun nm nm' blk blk' k h h' hr hr' => ?_, fun nm h => ?_⟩
  · obtain ⟨b0, q1, rfl⟩ := hb nm blk h
    have := BlkR.ren (ρ := ρ) (G' := ⟨⟨G.hw, fun k => G.ph (ρ k)⟩, fun k b => G.reg (ρ k) b⟩) (hR.heap _ _ q1) (hp _) (fun k => by simp only [h2]) (fun v y h => h) (fun k _ => hp k)
    rw [h2] at this; exact this
  · obtain ⟨b0, q1, rfl⟩ := hb nm blk h
    exact hR.reg _ _ k q1 hr
  · obtain ⟨b0, q1, _⟩ := hb nm blk h
    obtain ⟨b1, q2, _⟩ := hb nm' blk' h'
    have := hR.disj _ _ _ _ k q1 q2 hr hr'
    rw [← h2 nm, this, h2]
  · show G.ph (ρ nm) = _
    rw [hn nm h]; exact hR.old nm h
theorem gho_ren {a b : Nat} (ha : a < n) (hb : b < n) : Gho n st (st.ren (sw a b)) := fun cx G act w hc hR => hR.ren (sw_sw a b) fun k hk => sw_other (by omega) (by omega)
/-- Some names' blocks under other names, in their order. -/
def renS (ρ : Nat → Nat) : List (Nat × Blk) → List (Nat × Blk)
  | [] => []
  | (k, b) :: r => ins (ρ k) (b.ren ρ) (renS ρ r)
theorem hL_renS {ρ : Nat → Nat} (h2 : ∀ k, ρ (ρ k) = k) : ∀ (h : List (Nat × Blk)) (k : Nat), hL (renS ρ h) k = (hL h (ρ k)).map (Blk.ren ρ)
  | [], k => rfl
  | (j, b) :: r, k => by
    simp only [renS, hL_ins, hL]
    by_cases e : k = ρ j
    · subst e; simp [h2]
    · have : ¬ ρ k = j := fun h => e (by rw [← h, h2])
      rw [if_neg e, if_neg this, hL_renS h2 r k]
theorem mk_ren (a b : Nat) (l : List (Nat × SV)) (h : List (Nat × Blk)) : (mk l h).ren (sw a b) = mk (mapV (SV.ren (sw a b)) l) (renS (sw a b) h) := by
  simp only [mk, St.ren, St.mk.injEq]
  refine ⟨?_, ?_⟩
  · funext t; rw [ofL_map _ rfl]
  · funext k; rw [hL_renS (sw_sw a b)]
end Go.Proofs.Ytgmjgognpabmdaa.Fx
