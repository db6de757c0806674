/- Maps within calls with names. -/
import Derived.Test.YtgmjgognpabmdaaFxCallN
namespace Go.Proofs.Ytgmjgognpabmdaa.Fx
open Go Go.RowKit
theorem ren_map {κ ν : Type} (g : κ → TV) (f : ν → TV) (ρ : Nat → Nat) (c : Nat) (m : List (κ × ν × Nat)) : (Blk.map c (upM g f m)).ren ρ = .map c (upM g f m) := by
  simp only [Blk.ren]
  rw [ren_up]
attribute [go_sem] ren_up
/-! Where ways meet: what is known there is told once. -/
section
variable {E : Env} {T : TypeId → Option TI} {n : Nat} {Q : Exit → St → Prop} {st : St}
def KJoin (n : Nat) (I : St → Prop) (Q : Exit → St → Prop) : Exit → St → Prop := fun e st => match e with | .normal => ∃ st2, Gho n st st2 ∧ I st2 | e => Q e st
theorem s_seqJ {x y : Code} (I : St → Prop) (hx : wpCode E T n x (KJoin n I Q) st) (hy : ∀ st, I st → wpCode E T n y Q st) : wpCode E T n (.seq x y) Q st := by
  refine wpCode_mono2 x (fun e s h => ?_) hx
  cases e with
  | normal =>
    obtain ⟨s2, h1, h2⟩ := h
    exact ⟨s2, h1, hy s2 h2⟩
  | _ => exact h
theorem n_join {I : St → Prop} (ts ns : List Nat) (hi : I (st.keep ts ns)) : KJoin n I Q .normal st := ⟨_, gho_keep ts ns, hi⟩
theorem n_joinG {I : St → Prop} (st1 : St) (hg : Gho n st st1) (hi : KJoin n I Q .normal st1) : KJoin n I Q .normal st := by
  obtain ⟨s2, h1, h2⟩ := hi
  exact ⟨s2, hg.trans h1, h2⟩
theorem e_join {I : St → Prop} {id : Nat} (hq : Q (.exit id) st) : KJoin n I Q (.exit id) st := hq
theorem r_join {I : St → Prop} (hq : Q .ret st) : KJoin n I Q .ret st := hq
/-- The names are new. -/
theorem callM_new {l : List (Nat × SV)} {hs : List (Nat × Blk)} {dst : Option Nat} {cal : Callee} {args : List Operand} {types : List TypeId} {K : St → Prop} (ds : List Nat) (_ : (ds.all fun d => (hL hs d).isNone) = true) (h : callM E T n dst cal args types K (mk l hs)) : callM E T n dst cal args types K (mk l hs) := h
end
end Go.Proofs.Ytgmjgognpabmdaa.Fx
