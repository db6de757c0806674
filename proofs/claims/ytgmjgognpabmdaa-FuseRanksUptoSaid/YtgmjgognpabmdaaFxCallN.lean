/- A call with names: those of the contract stand for some of the walk's. -/
import Derived.Test.YtgmjgognpabmdaaFxRen
namespace Go.Proofs.Ytgmjgognpabmdaa.Fx
open Go Go.RowKit
set_option linter.unusedSimpArgs false
set_option linter.unusedVariables false
/-- What a contract's name stands for. -/
def tbl : List (Nat × Nat) → Nat → Nat
  | [], k => k + 1000000
  | (a, b) :: r, k => if k = a then b else tbl r k
def insAll : List (Nat × Blk) → List (Nat × Blk) → List (Nat × Blk)
  | [], hs => hs
  | p :: r, hs => ins p.1 p.2 (insAll r hs)
def delAll : List Nat → List (Nat × Blk) → List (Nat × Blk)
  | [], hs => hs
  | k :: r, hs => del k (delAll r hs)
theorem hL_insAll : ∀ (l hs : List (Nat × Blk)) (k : Nat), hL (insAll l hs) k = match hGet l k with | some b => some b | none => hL hs k
  | [], hs, k => rfl
  | p :: r, hs, k => by
    obtain ⟨a, b⟩ := p
    simp only [insAll, hL_ins, hL_insAll r hs k, hGet]
    by_cases e : k = a
    · subst e; simp
    · rw [if_neg e, if_neg e]
theorem hL_delAll : ∀ (l : List Nat) (hs : List (Nat × Blk)) (k : Nat), hL (delAll l hs) k = if l.contains k then none else hL hs k
  | [], hs, k => by simp [delAll]
  | a :: r, hs, k => by
    simp only [delAll, hL_del, hL_delAll r hs k, List.contains_cons]
    by_cases e : k = a
    · subst e; simp
    · have : (k == a) = false := by simpa using e
      rw [if_neg e, this, Bool.false_or]
def killS (ds : List Nat) (v : SV) : SV := if (ds.any fun d => v.has d) = true then .undef else v
def news (al : List (Nat × Nat)) (N1 N2 : List Nat) : List Nat := (N2.filter fun a => !N1.contains a).map (tbl al)
def okNames (al : List (Nat × Nat)) (n : Nat) (N1 N2 : List Nat) : Bool :=
  ((N1 ++ N2).all fun a => (N1 ++ N2).all fun b => tbl al a != tbl al b || a == b) && N2.all fun a => N1.contains a || decide (tbl al a < n)
theorem called_mk (al : List (Nat × Nat)) (l : List (Nat × SV)) (hs h h' : List (Nat × Blk)) :
    (mk l hs).called (tbl al) h h' = mk (mapV (killS (news al (h.map (·.1)) (h'.map (·.1)))) l) (insAll (hRen (tbl al) h') (delAll ((h.map (·.1)).map (tbl al)) hs)) := by
  simp only [mk, St.called, St.mk.injEq]
  refine ⟨?_, ?_⟩
  · funext t
    rw [ofL_map _ (by simp [killS])]
    unfold killS news
    congr 1
    rw [List.any_map, List.any_filter, List.any_map]
    rfl
  · funext k
    rw [hL_insAll, hL_delAll]
    simp only [List.map_map]
    rfl
theorem hL_mem' : ∀ {l : List (Nat × Blk)} {k : Nat} {b : Blk}, hL l k = some b → (k, b) ∈ l
  | (a, c) :: r, k, b, h => by
    simp only [hL] at h
    split at h
    · rename_i e; subst e; obtain rfl := Option.some.inj h; simp
    · exact List.mem_cons_of_mem _ (hL_mem' h)
theorem m_callN {E : Env} {T : TypeId → Option TI} {n : Nat} {dst : Option Nat} {cal : Callee} {args : List Operand} {types : List TypeId} {K : St → Prop} {l : List (Nat × SV)} {hs : List (Nat × Blk)} {f : FuncId} {first caps : List CV} {vs cargs res : List AV} {h h' : List (Nat × Blk)}
    (al : List (Nat × Nat)) (N1 N2 ds dl : List Nat) (hE : E f cargs h res h') (hcal : calleeOf T (mk l hs) cal = some (f, first, caps)) (hargs : argsRaw T (mk l hs) args types = some vs) (hv : cargs.map (AV.ren (tbl al)) = first.map .v ++ vs ++ caps.map .v)
    (h1 : h.map (·.1) = N1) (h2 : h'.map (·.1) = N2) (hds : news al N1 N2 = ds) (hdl : N1.map (tbl al) = dl) (hok : okNames al n N1 N2 = true) (hthere : hAll (mk l hs) (hRen (tbl al) h))
    (hfr : ∀ d ∈ ds, ∀ p ∈ hs, dl.contains p.1 = false → (N2.map (tbl al)).contains p.1 = false → p.2.has d = false)
    (hclean : ∀ k, (hasA k res = true ∨ ∃ p ∈ h', p.2.has k = true) → k ∈ N2)
    (hx : putK n dst (resSV (res.map (AV.ren (tbl al)))) K (mk (mapV (killS ds) l) (insAll (hRen (tbl al) h') (delAll dl hs)))) : callM E T n dst cal args types K (mk l hs) := by
  subst h1 h2 hds hdl
  unfold okNames at hok
  simp only [Bool.and_eq_true, List.all_eq_true] at hok
  obtain ⟨hinj, hlt⟩ := hok
  unfold callM
  rw [hcal, hargs]
  refine ⟨tbl al, cargs, h, res, h', hE, hv, ⟨hthere, fun a ha b hb e => ?_, ?_, hclean⟩, ?_⟩
  · have := hinj a ha b hb
    simp only [bne_iff_ne, Bool.or_eq_true, beq_iff_eq] at this
    rcases this with h | h
    · exact absurd e h
    · exact h
  · intro p hp hnew
    have hm : p.1 ∈ h'.map (·.1) := List.mem_map.2 ⟨p, hp, rfl⟩
    have := hlt p.1 hm
    rw [hnew, Bool.false_or, decide_eq_true_eq] at this
    refine ⟨this, fun k blk q1 q2 q3 => ?_⟩
    have hk : (k, blk) ∈ hs := hL_mem' (show hL hs k = some blk from q3)
    refine hfr (tbl al p.1) (List.mem_map.2 ⟨p.1, List.mem_filter.2 ⟨hm, by rw [hnew]; rfl⟩, rfl⟩) (k, blk) hk ?_ ?_
    · rw [List.map_map]; exact q1
    · rw [List.map_map]; exact q2
  · rw [called_mk]; exact hx
attribute [go_sem] tbl insAll delAll killS hRen Blk.ren renRows_up renRows renL
/-- A call within a drawn region that hands its names back as they were. -/
theorem m_callQ {E : Env} {T : TypeId → Option TI} {cal : Callee} {args ops : List Operand} {types : List TypeId} {R : Ef → Prop} {l : List (Nat × SV)} {hs : List (Nat × Blk)} {f : FuncId} {first caps : List CV} {vs cargs res : List AV} {h : List (Nat × Blk)}
    (al : List (Nat × Nat)) (hE : E f cargs h res h) (hcal : calleeOf T (mk l hs) cal = some (f, first, caps)) (hargs : argsRaw T (mk l hs) args types = some vs) (hv : cargs.map (AV.ren (tbl al)) = first.map .v ++ vs ++ caps.map .v)
    (hthere : hAll (mk l hs) (hRen (tbl al) h)) (hinj : ∀ a ∈ h.map (·.1), ∀ b ∈ h.map (·.1), tbl al a = tbl al b → a = b) (hres : ∀ k, hasA k res = false) (hclean : ∀ p ∈ h, ∀ k, p.2.has k = true → k ∈ h.map (·.1))
    (hreach : ∀ k ∈ h.map (·.1), ∃ x ∈ ops, ∃ t, (rd T (mk l hs) t x).has (tbl al k) = true) (hx : R (.put (resSV res))) : callQ E T cal args types ops R (mk l hs) := by
  unfold callQ
  rw [hcal, hargs]
  exact ⟨tbl al, cargs, h, res, hE, hv, hthere, hinj, hres, hclean, hreach, hx⟩
end Go.Proofs.Ytgmjgognpabmdaa.Fx
