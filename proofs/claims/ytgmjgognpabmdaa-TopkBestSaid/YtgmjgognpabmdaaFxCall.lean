/- A call that answers with a new name: taken under the slot's own number. -/
import Derived.Test.YtgmjgognpabmdaaFxFold
namespace Go.Proofs.Ytgmjgognpabmdaa.Fx
open Go Go.RowKit
set_option linter.unusedSimpArgs false
set_option linter.unusedVariables false
/-- Two names, one for the other. -/
def sw (a b : Nat) : Nat → Nat := fun k => if k = a then b else if k = b then a else k
theorem sw_left (a b : Nat) : sw a b a = b := by simp [sw]
theorem sw_right (a b : Nat) : sw a b b = a := by unfold sw; split <;> simp_all
theorem sw_sw (a b k : Nat) : sw a b (sw a b k) = k := by unfold sw; grind
theorem sw_inj {a b x y : Nat} (h : sw a b x = sw a b y) : x = y := by rw [← sw_sw a b x, h, sw_sw]
theorem sw_other {a b k : Nat} (h1 : k ≠ a) (h2 : k ≠ b) : sw a b k = k := by simp [sw, h1, h2]
mutual
theorem ren_none (ρ : Nat → Nat) : ∀ c : CV, (∀ k, c.has k = false) → c.ren ρ = c
  | .t _, _ => rfl
  | .own sz rows, h => by simp only [CV.ren, CV.has] at *; rw [renRows_none ρ rows h]
  | .mr k _ _, h => by have := h k; simp [CV.has] at this
  | .mp k _ _, h => by have := h k; simp [CV.has] at this
  | .mm k, h => by have := h k; simp [CV.has] at this
  | .fnc f a b, h => by
    simp only [CV.ren, CV.has, Bool.or_eq_false_iff] at *
    rw [renL_none ρ a fun k => (h k).1, renL_none ρ b fun k => (h k).2]
  | .ifc _ _ cs, h => by simp only [CV.ren, CV.has] at *; rw [renL_none ρ cs h]
  | .dead, _ => rfl
theorem renL_none (ρ : Nat → Nat) : ∀ l : List CV, (∀ k, hasL k l = false) → renL ρ l = l
  | [], _ => rfl
  | c :: r, h => by
    simp only [renL, hasL, Bool.or_eq_false_iff] at *
    rw [ren_none ρ c fun k => (h k).1, renL_none ρ r fun k => (h k).2]
theorem renRows_none (ρ : Nat → Nat) : ∀ l : List (List CV), (∀ k, hasRows k l = false) → renRows ρ l = l
  | [], _ => rfl
  | c :: r, h => by
    simp only [renRows, hasRows, Bool.or_eq_false_iff] at *
    rw [renL_none ρ c fun k => (h k).1, renRows_none ρ r fun k => (h k).2]
end
theorem called_name {st : St} {nm d : Nat} {sz : Nat} {rows : List (List CV)} (hp : ∀ k, hasRows k rows = false) : st.called (sw nm d) [] [(nm, .cells sz rows)] = st.name d (.cells sz rows) := by
  unfold St.called St.name
  congr 1
  · funext t
    simp only [List.any_cons, List.any_nil, List.map_nil, List.contains_nil, Bool.not_false, Bool.true_and, Bool.or_false, sw_left, SV.kill]
  · funext k
    simp only [hRen, hGet, sw_left, Blk.ren, renRows_none _ rows hp, List.map_nil, List.contains_nil, Bool.false_eq_true, if_false]
    by_cases e : k = d
    · subst e; simp
    · simp [Ne.symm e, e]
/-- A call without names that answers with one: under the number of the call's slot. -/
theorem m_call1 {E : Env} {T : TypeId → Option TI} {n d : Nat} {cal : Callee} {args : List Operand} {types : List TypeId} {K : St → Prop} {l : List (Nat × SV)} {hs : List (Nat × Blk)} {f : FuncId} {vs res : List AV} {nm sz : Nat} {rows : List (List CV)}
    (hE : E f vs [] res [(nm, .cells sz rows)]) (hcal : calleeOf T (mk l hs) cal = some (f, [], [])) (hargs : argsRaw T (mk l hs) args types = some vs) (hv : vs.map (AV.ren (sw nm d)) = vs)
    (hp : ∀ k, hasRows k rows = false) (hres : ∀ k, hasA k res = true → k = nm) (hd : d < n) (hf : freshL none d hs = true)
    (hx : K (mk (ins d (resSV (res.map (AV.ren (sw nm d)))) (mapV (SV.kill d) l)) (ins d (.cells sz rows) hs))) : callM E T n (some d) cal args types K (mk l hs) := by
  unfold callM
  rw [hcal, hargs]
  refine ⟨sw nm d, vs, [], res, [(nm, .cells sz rows)], hE, by simpa using hv, ⟨trivial, fun a _ b _ h => sw_inj h, ?_, ?_⟩, ?_⟩
  · intro p hp' _
    rw [List.mem_singleton] at hp'
    subst hp'
    simp only [sw_left]
    refine ⟨hd, fun k blk _ h2 h3 => ?_⟩
    have hfr := fresh_mk l hs d hf
    refine hfr k blk ?_ h3
    rintro rfl
    simp [sw_left] at h2
  · rintro k (h | ⟨p, h1, h2⟩)
    · simp [hres k h]
    · rw [List.mem_singleton] at h1
      subst h1
      simp only [Blk.has, hp] at h2
      cases h2
  · rw [called_name hp, mk_name]
    simp only [putK, hd, if_true]
    rw [mk_put]
    exact hx
attribute [go_sem] sw_left AV.ren CV.ren
theorem one_name {nm lo n k : Nat} (h : hasA k [.v (.mr nm lo n)] = true) : k = nm := by
  simp only [hasA, AV.has, CV.has, Bool.or_false, beq_iff_eq] at h
  exact h.symm
end Go.Proofs.Ytgmjgognpabmdaa.Fx
