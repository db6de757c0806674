/- The evaluator's second make: states told slot by slot, and the walk's steps. -/
import Derived.Test.YtgmjgognpabmdaaFx12
namespace Go.Proofs.Ytgmjgognpabmdaa.Fx
open Go Go.RowKit
set_option linter.unusedSimpArgs false
set_option linter.unusedVariables false

def ofL : List (Nat × SV) → Nat → SV
  | [], _ => .undef
  | (k, v) :: r, t => if t = k then v else ofL r t

def hL : List (Nat × Blk) → Nat → Option Blk
  | [], _ => none
  | (k, v) :: r, t => if t = k then some v else hL r t

/-- A state, slot by slot and name by name. -/
def mk (l : List (Nat × SV)) (h : List (Nat × Blk)) : St := ⟨ofL l, hL h⟩

def ins {α : Type} (d : Nat) (v : α) : List (Nat × α) → List (Nat × α)
  | [] => [(d, v)]
  | (k, u) :: r => if d = k then (d, v) :: r else if d < k then (d, v) :: (k, u) :: r else (k, u) :: ins d v r

def del {α : Type} (d : Nat) : List (Nat × α) → List (Nat × α)
  | [] => []
  | (k, u) :: r => if d = k then del d r else (k, u) :: del d r

theorem ofL_ins (d : Nat) (v : SV) : ∀ (l : List (Nat × SV)) (t : Nat), ofL (ins d v l) t = if t = d then v else ofL l t
  | [], t => rfl
  | (k, u) :: r, t => by
    simp only [ins]
    by_cases h1 : d = k
    · subst h1; simp only [if_pos, ofL]; split <;> simp_all
    · by_cases h2 : d < k
      · simp only [if_neg h1, if_pos h2, ofL]
      · simp only [if_neg h1, if_neg h2, ofL, ofL_ins d v r t]
        by_cases h3 : t = k
        · simp only [h3, if_pos]; rw [if_neg (fun e => h1 e.symm)]
        · simp only [if_neg h3]

theorem hL_ins (d : Nat) (v : Blk) : ∀ (l : List (Nat × Blk)) (t : Nat), hL (ins d v l) t = if t = d then some v else hL l t
  | [], t => rfl
  | (k, u) :: r, t => by
    simp only [ins]
    by_cases h1 : d = k
    · subst h1; simp only [if_pos, hL]; split <;> simp_all
    · by_cases h2 : d < k
      · simp only [if_neg h1, if_pos h2, hL]
      · simp only [if_neg h1, if_neg h2, hL, hL_ins d v r t]
        by_cases h3 : t = k
        · simp only [h3, if_pos]; rw [if_neg (fun e => h1 e.symm)]
        · simp only [if_neg h3]

theorem hL_del (d : Nat) : ∀ (l : List (Nat × Blk)) (t : Nat), hL (del d l) t = if t = d then none else hL l t
  | [], t => by simp [del, hL]
  | (k, u) :: r, t => by
    simp only [del]
    by_cases h1 : d = k
    · subst h1
      rw [if_pos rfl, hL_del d r t]
      simp only [hL]
      by_cases h2 : t = d
      · simp [h2]
      · simp [h2]
    · rw [if_neg h1]
      simp only [hL, hL_del d r t]
      by_cases h2 : t = k
      · subst h2; rw [if_pos rfl, if_pos rfl, if_neg (fun e => h1 e.symm)]
      · simp only [if_neg h2]

theorem mk_put (l : List (Nat × SV)) (h : List (Nat × Blk)) (d : Nat) (v : SV) : (mk l h).put d v = mk (ins d v l) h := by
  simp only [mk, St.put, St.mk.injEq, and_true]
  funext t; exact (ofL_ins d v l t).symm

theorem mk_upd (l : List (Nat × SV)) (h : List (Nat × Blk)) (nm : Nat) (b : Blk) : (mk l h).upd nm b = mk l (ins nm b h) := by
  simp only [mk, St.upd, St.mk.injEq, true_and]
  funext t; exact (hL_ins nm b h t).symm

theorem mk_slots (l : List (Nat × SV)) (h : List (Nat × Blk)) : (mk l h).slots = ofL l := rfl
theorem mk_heap (l : List (Nat × SV)) (h : List (Nat × Blk)) : (mk l h).heap = hL h := rfl

def mapV (f : SV → SV) : List (Nat × SV) → List (Nat × SV)
  | [] => []
  | (k, v) :: r => (k, f v) :: mapV f r

theorem ofL_map (f : SV → SV) (hf : f .undef = .undef) : ∀ (l : List (Nat × SV)) (t : Nat), ofL (mapV f l) t = f (ofL l t)
  | [], t => hf.symm
  | (k, u) :: r, t => by
    simp only [mapV, ofL, ofL_map f hf r t]
    split
    · rfl
    · rfl

theorem kill_undef (nm : Nat) : SV.kill nm .undef = .undef := rfl

theorem mk_name (l : List (Nat × SV)) (h : List (Nat × Blk)) (nm : Nat) (b : Blk) : (mk l h).name nm b = mk (mapV (SV.kill nm) l) (ins nm b h) := by
  simp only [mk, St.name, St.mk.injEq]
  refine ⟨?_, ?_⟩
  · funext t; rw [ofL_map _ (kill_undef nm)]
  · funext t; exact (hL_ins nm b h t).symm

def delO (nm : Option Nat) (h : List (Nat × Blk)) : List (Nat × Blk) :=
  match nm with
  | some k => del k h
  | none => h

theorem mk_give (l : List (Nat × SV)) (h : List (Nat × Blk)) (nm : Option Nat) (d : Nat) (b : Blk) : (mk l h).give nm d b = mk (mapV (SV.kill d) l) (ins d b (delO nm h)) := by
  simp only [mk, St.give, St.mk.injEq]
  refine ⟨?_, ?_⟩
  · funext t; rw [ofL_map _ (kill_undef d)]
  · funext t
    rw [hL_ins]
    cases nm with
    | none => simp [delO]
    | some k =>
      simp only [delO, hL_del, Option.some.injEq]
      split
      · rfl
      · split
        · rename_i e; rw [if_pos e.symm]
        · rename_i e; rw [if_neg (fun h => e h.symm)]

theorem frz_undef (nm sz : Nat) (rows : List (List TV)) : SV.frz nm sz rows .undef = .undef := rfl

theorem mk_freeze (l : List (Nat × SV)) (h : List (Nat × Blk)) (nm sz : Nat) (rows : List (List TV)) : (mk l h).freeze nm sz rows = mk (mapV (SV.frz nm sz rows) l) (del nm h) := by
  simp only [mk, St.freeze, St.mk.injEq]
  refine ⟨?_, ?_⟩
  · funext t; rw [ofL_map _ (frz_undef nm sz rows)]
  · funext t; rw [hL_del]

theorem mk_nilName (l : List (Nat × SV)) (h : List (Nat × Blk)) (s d sz : Nat) : (mk l h).nilName s d sz = mk (ins s (.c (.mr d 0 0)) (mapV (SV.kill d) l)) (ins d (.cells sz []) h) := by
  simp only [mk, St.nilName, St.mk.injEq]
  refine ⟨?_, ?_⟩
  · funext t; rw [ofL_ins, ofL_map _ (kill_undef d)]
  · funext t; rw [hL_ins]

theorem mk_fold (l : List (Nat × SV)) (h : List (Nat × Blk)) (k i j nm sz : Nat) (rows : List (List CV)) (c : CV) : (mk l h).fold k i j nm sz rows c = mk l (ins k (.cells sz (rows.modify i (·.set j c))) (del nm h)) := by
  simp only [mk, St.fold, St.mk.injEq, true_and]
  funext t; rw [hL_ins, hL_del]

theorem mk_unfold (l : List (Nat × SV)) (h : List (Nat × Blk)) (k i j nm sz : Nat) (rows : List (List CV)) (sz' : Nat) (rows' : List (List CV)) :
    (mk l h).unfold k i j nm sz rows sz' rows' = mk (mapV (SV.kill nm) l) (ins nm (.cells sz' rows') (ins k (.cells sz (rows.modify i (·.set j (.mr nm 0 rows'.length)))) h)) := by
  simp only [mk, St.unfold, St.mk.injEq]
  refine ⟨?_, ?_⟩
  · funext t; rw [ofL_map _ (kill_undef nm)]
  · funext t; rw [hL_ins, hL_ins]

def keepL {α : Type} (ts : List Nat) : List (Nat × α) → List (Nat × α)
  | [] => []
  | (k, v) :: r => if k ∈ ts then (k, v) :: keepL ts r else keepL ts r

theorem ofL_keep (ts : List Nat) : ∀ (l : List (Nat × SV)) (t : Nat), ofL (keepL ts l) t = if t ∈ ts then ofL l t else .undef
  | [], t => by simp [keepL, ofL]
  | (k, u) :: r, t => by
    simp only [keepL]
    by_cases h1 : k ∈ ts
    · simp only [if_pos h1, ofL, ofL_keep ts r t]
      by_cases h2 : t = k
      · subst h2; simp [h1]
      · simp [h2]
    · simp only [if_neg h1, ofL, ofL_keep ts r t]
      by_cases h2 : t = k
      · subst h2; simp [h1]
      · simp [h2]

theorem hL_keep (ts : List Nat) : ∀ (l : List (Nat × Blk)) (t : Nat), hL (keepL ts l) t = if t ∈ ts then hL l t else none
  | [], t => by simp [keepL, hL]
  | (k, u) :: r, t => by
    simp only [keepL]
    by_cases h1 : k ∈ ts
    · simp only [if_pos h1, hL, hL_keep ts r t]
      by_cases h2 : t = k
      · subst h2; simp [h1]
      · simp [h2]
    · simp only [if_neg h1, hL, hL_keep ts r t]
      by_cases h2 : t = k
      · subst h2; simp [h1]
      · simp [h2]

theorem mk_keep (l : List (Nat × SV)) (h : List (Nat × Blk)) (ts ns : List Nat) : (mk l h).keep ts ns = mk (keepL ts l) (keepL ns h) := by
  simp only [mk, St.keep, St.mk.injEq]
  exact ⟨funext fun t => (ofL_keep ts l t).symm, funext fun t => (hL_keep ns h t).symm⟩

def initL (k : Nat) : List AV → List (Nat × SV)
  | [] => []
  | v :: r => (k, v.sv) :: initL (k + 1) r

theorem ofL_init : ∀ (args : List AV) (k t : Nat), ofL (initL k args) (k + t) = match args[t]? with | some v => v.sv | none => .undef
  | [], k, t => rfl
  | v :: r, k, 0 => by simp [initL, ofL]
  | v :: r, k, t + 1 => by
    have := ofL_init r (k + 1) t
    simp only [initL, ofL]
    rw [if_neg (by omega), show k + (t + 1) = k + 1 + t by omega, this]
    simp

theorem hGet_hL : ∀ (h : List (Nat × Blk)), hGet h = hL h
  | [] => rfl
  | (k, v) :: r => by funext t; simp only [hGet, hL, hGet_hL r]

theorem initSt_mk (args : List AV) (h : List (Nat × Blk)) : initSt args h = mk (initL 0 args) h := by
  simp only [mk, initSt, St.mk.injEq]
  exact ⟨funext fun t => by have := ofL_init args 0 t; rw [Nat.zero_add] at this; exact this.symm, hGet_hL h⟩

/-! Names that nothing leads to. -/
def freshL (nm : Option Nat) (d : Nat) : List (Nat × Blk) → Bool
  | [] => true
  | (k, b) :: r => (k == d || nm == some k || !b.has d) && freshL nm d r
theorem fresh2_mk (l : List (Nat × SV)) : ∀ (h : List (Nat × Blk)) (nm : Option Nat) (d : Nat), freshL nm d h = true → Fresh2 (mk l h) nm d := by
  intro h nm d hl k blk h1 h2 hb
  rw [mk_heap] at hb
  induction h with
  | nil => cases hb
  | cons p r ih =>
    obtain ⟨k', b⟩ := p
    simp only [freshL, Bool.and_eq_true, Bool.or_eq_true, beq_iff_eq, Bool.not_eq_true'] at hl
    simp only [hL] at hb
    split at hb
    · rename_i e
      subst e
      obtain rfl := Option.some.inj hb
      rcases hl.1 with (h3 | h3) | h3
      · exact absurd h3 h1
      · exact absurd h3 h2
      · exact h3
    · exact ih hl.2 hb
theorem fresh_mk (l : List (Nat × SV)) (h : List (Nat × Blk)) (d : Nat) (hl : freshL none d h = true) : Fresh (mk l h) d := fun k blk h1 h2 => fresh2_mk l h none d hl k blk h1 (by simp) h2
theorem fresh2_t (l : List (Nat × SV)) (h : List (Nat × Blk)) (nm : Option Nat) (d : Nat) (hl : freshL nm d h = true) : Fresh2 (mk l h) nm d = True := eq_true (fresh2_mk l h nm d hl)
theorem fresh_t (l : List (Nat × SV)) (h : List (Nat × Blk)) (d : Nat) (hl : freshL none d h = true) : Fresh (mk l h) d = True := eq_true (fresh_mk l h d hl)

/-! A list of trees, as cells. -/
theorem up_nil : up [] = [] := rfl
theorem up_cons (r : List TV) (rs : List (List TV)) : up (r :: rs) = r.map CV.t :: up rs := rfl
theorem up_append (a b : List (List TV)) : up (a ++ b) = up a ++ up b := by simp [up]
theorem up_length (a : List (List TV)) : (up a).length = a.length := by simp [up]
theorem up_drop (a : List (List TV)) (n : Nat) : (up a).drop n = up (a.drop n) := by simp [up]
theorem up_take (a : List (List TV)) (n : Nat) : (up a).take n = up (a.take n) := by simp [up]
theorem up_get? (a : List (List TV)) (n : Nat) : (up a)[n]? = (a[n]?).map (·.map CV.t) := by simp [up]
theorem up_set (a : List (List TV)) (n : Nat) (r : List TV) : (up a).set n (r.map CV.t) = up (a.set n r) := by simp [up, List.map_set]
theorem up_replicate (n : Nat) (r : List TV) : List.replicate n (r.map CV.t) = up (List.replicate n r) := by simp [up]

section
variable {E : Env} {T : TypeId → Option TI} {n : Nat} {Q : Exit → St → Prop} {st : St}

def KSeq (E : Env) (T : TypeId → Option TI) (n : Nat) (y : Code) (Q : Exit → St → Prop) : Exit → St → Prop := fun e st => match e with | .normal => ∃ st2, Gho n st st2 ∧ wpCode E T n y Q st2 | e => Q e st
def KBlock (id : Nat) (Q : Exit → St → Prop) : Exit → St → Prop := fun e st => match e with | .exit id' => if id' = id then Q .normal st else Q (.exit id') st | e => Q e st
/-- What is asked where a loop's round ends. -/
def KLoop (n : Nat) {σ : Type} (I : σ → St → Prop) (μ : σ → Nat) (m : Nat) (Q : Exit → St → Prop) : Exit → St → Prop := fun e st => match e with | .normal => ∃ s' st2, Gho n st st2 ∧ I s' st2 ∧ μ s' < m | e => Q e st

theorem c_cond (c : Operand) (x y : Code) : wpCode E T n (.cond c x y) Q st = match rd T st 0 c with
    | .c (.t (.bool b)) => (b = true → wpCode E T n x Q st) ∧ (b = false → wpCode E T n y Q st)
    | _ => False := rfl

/-! The walk's steps: a region's operations are walked with what follows behind a letter. -/
theorem s_seq {x y : Code} (hx : wpCode E T n x (KSeq E T n y Q) st) : wpCode E T n (.seq x y) Q st := hx
theorem s_block {id : Nat} {x : Code} (hx : wpCode E T n x (KBlock id Q) st) : wpCode E T n (.block id x) Q st := hx
theorem s_region {id : Nat} {l : List Oper} (hx : ∀ K : St → Prop, (∀ st, Q .normal st → K st) → wpS E T n [] l K st) : wpCode E T n (.region id (List.toArray l) false) Q st := hx _ (fun _ h => h)
theorem s_nil {ds : List (Option Nat)} {K : St → Prop} (hk : K st) : wpS E T n ds [] K st := hk
theorem s_op {K : St → Prop} {ds : List (Option Nat)} {o : Oper} {l : List Oper}
    (hx : ∀ K' : St → Prop, (∀ st, wpS E T n (ds ++ [o.dst]) l K st → K' st) → match guardD ds st o with | some c => if c = true then wpOp E T n o K' st else putK n o.dst (.tup []) K' st | none => False) : wpS E T n ds (o :: l) K st := ⟨st, Gho.refl n st, hx _ (fun _ h => h)⟩
/-- What is known turned, ahead of an operation. -/
theorem s_ghost {K : St → Prop} {ds : List (Option Nat)} {o : Oper} {l : List Oper} (st1 : St) (hg : Gho n st st1) (hx : wpS E T n ds (o :: l) K st1) : wpS E T n ds (o :: l) K st := by
  obtain ⟨st2, h1, h2⟩ := hx
  exact ⟨st2, hg.trans h1, h2⟩
theorem s_cond {c : Operand} {x y : Code} (hx : ∀ KT KF : St → Prop, (∀ st, wpCode E T n x Q st → KT st) → (∀ st, wpCode E T n y Q st → KF st) → match rd T st 0 c with | .c (.t (.bool b)) => (b = true → KT st) ∧ (b = false → KF st) | _ => False) : wpCode E T n (.cond c x y) Q st := hx _ _ (fun _ h => h) (fun _ h => h)
theorem s_skip (hq : Q .normal st) : wpCode E T n .skip Q st := hq
theorem s_exit {id : Nat} (hq : Q (.exit id) st) : wpCode E T n (.exit id) Q st := hq
theorem s_ret (hq : Q .ret st) : wpCode E T n .ret Q st := hq
theorem n_seq {y : Code} (hq : wpCode E T n y Q st) : KSeq E T n y Q .normal st := ⟨st, Gho.refl n st, hq⟩
theorem n_seqK {y : Code} (ts ns : List Nat) (hq : wpCode E T n y Q (st.keep ts ns)) : KSeq E T n y Q .normal st := ⟨_, gho_keep ts ns, hq⟩
theorem n_seqG {y : Code} (st1 : St) (hg : Gho n st st1) (hq : KSeq E T n y Q .normal st1) : KSeq E T n y Q .normal st := by
  obtain ⟨st2, h1, h2⟩ := hq
  exact ⟨st2, hg.trans h1, h2⟩
theorem e_seq {y : Code} {id : Nat} (hq : Q (.exit id) st) : KSeq E T n y Q (.exit id) st := hq
theorem r_seq {y : Code} (hq : Q .ret st) : KSeq E T n y Q .ret st := hq
theorem n_block {id : Nat} (hq : Q .normal st) : KBlock id Q .normal st := hq
theorem e_block {id : Nat} (hq : Q .normal st) : KBlock id Q (.exit id) st := by simp only [KBlock, if_true]; exact hq
theorem f_block {id id' : Nat} (hq : Q (.exit id') st) (he : id' ≠ id) : KBlock id Q (.exit id') st := by simp only [KBlock, if_neg he]; exact hq
theorem r_block {id : Nat} (hq : Q .ret st) : KBlock id Q .ret st := hq
theorem n_loop {σ : Type} {I : σ → St → Prop} {μ : σ → Nat} {m : Nat} (s' : σ) (ts ns : List Nat) (hi : I s' (st.keep ts ns)) (hm : μ s' < m) : KLoop n I μ m Q .normal st := ⟨s', _, gho_keep ts ns, hi, hm⟩
theorem n_loopG {σ : Type} {I : σ → St → Prop} {μ : σ → Nat} {m : Nat} (st1 : St) (hg : Gho n st st1) (hi : KLoop n I μ m Q .normal st1) : KLoop n I μ m Q .normal st := by
  obtain ⟨s', st2, h1, h2, h3⟩ := hi
  exact ⟨s', st2, hg.trans h1, h2, h3⟩
theorem e_loop {σ : Type} {I : σ → St → Prop} {μ : σ → Nat} {m id : Nat} (hq : Q (.exit id) st) : KLoop n I μ m Q (.exit id) st := hq
theorem r_loop {σ : Type} {I : σ → St → Prop} {μ : σ → Nat} {m : Nat} (hq : Q .ret st) : KLoop n I μ m Q .ret st := hq
theorem n_res {rs : List ResultVar} {res : List AV} {h' : List (Nat × Blk)} (hq : resOf T (h'.map (·.1)) st rs = some res ∧ hAll st h') : KRes T rs res h' .normal st := hq
theorem r_res {rs : List ResultVar} {res : List AV} {h' : List (Nat × Blk)} (hq : resOf T (h'.map (·.1)) st rs = some res ∧ hAll st h') : KRes T rs res h' .ret st := hq

/-- THE LOOP'S RULE. -/
theorem w_loop {x : Code} (ts ns : List Nat) {σ : Type} (I : σ → St → Prop) (μ : σ → Nat) (s : σ) (h0 : I s (st.keep ts ns)) (hr : ∀ s st', I s st' → wpCode E T n x (KLoop n I μ (μ s) Q) st') : wpCode E T n (.loop x) Q st :=
  ⟨σ, I, μ, ⟨s, _, gho_keep ts ns, h0⟩, hr⟩
theorem w_loopG {x : Code} (st1 : St) (hg : Gho n st st1) (hx : wpCode E T n (.loop x) Q st1) : wpCode E T n (.loop x) Q st := by
  obtain ⟨σ, I, μ, ⟨s, st0, h1, h2⟩, hr⟩ := hx
  exact ⟨σ, I, μ, ⟨s, st0, hg.trans h1, h2⟩, hr⟩

/-! Rounds, one by one. -/
def wpRounds (E : Env) (T : TypeId → Option TI) (n : Nat) (x : Code) (Q : Exit → St → Prop) : Nat → St → Prop
  | 0, _ => False
  | k + 1, st => wpCode E T n x (fun e st' => match e with | .normal => ∃ st2, Gho n st' st2 ∧ wpRounds E T n x Q k st2 | e => Q e st') st
end
end Go.Proofs.Ytgmjgognpabmdaa.Fx
