import Derived.Test.YteoddaeipckgcaaEv16
import Derived.Test.YteoddaeipckgcaaEvM
namespace Go.Proofs.Yteoddaeipckgcaa.Ev
open Go Go.RowKit
set_option linter.unusedSimpArgs false
set_option linter.unusedVariables false

def ofL : List (Nat × SV) → Nat → SV
  | [], _ => .undef
  | (k, v) :: r, t => if t = k then v else ofL r t

def hL : List (Nat × Blk) → Nat → Option Blk
  | [], _ => none
  | (k, v) :: r, t => if t = k then some v else hL r t

/-- A state, slot by slot and name by name. -/
def mk (l : List (Nat × SV)) (h : List (Nat × Blk)) : St := ⟨ofL l, hL h⟩

def ins {α : Type} (d : Nat) (v : α) : List (Nat × α) → List (Nat × α)
  | [] => [(d, v)]
  | (k, u) :: r => if d = k then (d, v) :: r else if d < k then (d, v) :: (k, u) :: r else (k, u) :: ins d v r

theorem ofL_ins (d : Nat) (v : SV) : ∀ (l : List (Nat × SV)) (t : Nat), ofL (ins d v l) t = if t = d then v else ofL l t
  | [], t => rfl
  | (k, u) :: r, t => by
    simp only [ins]
    by_cases h1 : d = k
    · subst h1; simp only [if_pos, ofL]; split <;> simp_all
    · by_cases h2 : d < k
      · simp only [if_neg h1, if_pos h2, ofL]
      · simp only [if_neg h1, if_neg h2, ofL, ofL_ins d v r t]
        by_cases h3 : t = k
        · simp only [h3, if_pos]; rw [if_neg (fun e => h1 e.symm)]
        · simp only [if_neg h3]

theorem hL_ins (d : Nat) (v : Blk) : ∀ (l : List (Nat × Blk)) (t : Nat), hL (ins d v l) t = if t = d then some v else hL l t
  | [], t => rfl
  | (k, u) :: r, t => by
    simp only [ins]
    by_cases h1 : d = k
    · subst h1; simp only [if_pos, hL]; split <;> simp_all
    · by_cases h2 : d < k
      · simp only [if_neg h1, if_pos h2, hL]
      · simp only [if_neg h1, if_neg h2, hL, hL_ins d v r t]
        by_cases h3 : t = k
        · simp only [h3, if_pos]; rw [if_neg (fun e => h1 e.symm)]
        · simp only [if_neg h3]

theorem mk_put (l : List (Nat × SV)) (h : List (Nat × Blk)) (d : Nat) (v : SV) : (mk l h).put d v = mk (ins d v l) h := by
  simp only [mk, St.put, St.mk.injEq, and_true]
  funext t; exact (ofL_ins d v l t).symm

theorem mk_upd (l : List (Nat × SV)) (h : List (Nat × Blk)) (nm : Nat) (b : Blk) : (mk l h).upd nm b = mk l (ins nm b h) := by
  simp only [mk, St.upd, St.mk.injEq, true_and]
  funext t; exact (hL_ins nm b h t).symm

theorem mk_slots (l : List (Nat × SV)) (h : List (Nat × Blk)) : (mk l h).slots = ofL l := rfl
theorem mk_heap (l : List (Nat × SV)) (h : List (Nat × Blk)) : (mk l h).heap = hL h := rfl

def mapV (f : Nat → SV → SV) : List (Nat × SV) → List (Nat × SV)
  | [] => []
  | (k, v) :: r => (k, f k v) :: mapV f r

theorem ofL_map (f : Nat → SV → SV) (hf : ∀ k, f k .undef = .undef) : ∀ (l : List (Nat × SV)) (t : Nat), ofL (mapV f l) t = f t (ofL l t)
  | [], t => (hf t).symm
  | (k, u) :: r, t => by
    simp only [mapV, ofL, ofL_map f hf r t]
    split
    · rename_i h; rw [h]
    · rfl

theorem mk_name (l : List (Nat × SV)) (h : List (Nat × Blk)) (nm : Nat) (b : Blk) : (mk l h).name nm b = mk (mapV (fun _ v => v.kill nm) l) (ins nm b h) := by
  simp only [mk, St.name, St.mk.injEq]
  refine ⟨?_, ?_⟩
  · funext t; rw [ofL_map _ (fun _ => rfl)]
  · funext t; exact (hL_ins nm b h t).symm

theorem mk_dropSlot (l : List (Nat × SV)) (h : List (Nat × Blk)) (s : Nat) : (mk l h).dropSlot s = mk (mapV (fun k v => if k = s then v.drop else v) l) h := by
  simp only [mk, St.dropSlot, St.mk.injEq, and_true]
  funext t
  rw [ofL_map _ (fun k => by split <;> rfl)]

def keepL {α : Type} (ts : List Nat) : List (Nat × α) → List (Nat × α)
  | [] => []
  | (k, v) :: r => if k ∈ ts then (k, v) :: keepL ts r else keepL ts r

theorem ofL_keep (ts : List Nat) : ∀ (l : List (Nat × SV)) (t : Nat), ofL (keepL ts l) t = if t ∈ ts then ofL l t else .undef
  | [], t => by simp [keepL, ofL]
  | (k, u) :: r, t => by
    simp only [keepL]
    by_cases h1 : k ∈ ts
    · simp only [if_pos h1, ofL, ofL_keep ts r t]
      by_cases h2 : t = k
      · subst h2; simp [h1]
      · simp [h2]
    · simp only [if_neg h1, ofL, ofL_keep ts r t]
      by_cases h2 : t = k
      · subst h2; simp [h1]
      · simp [h2]

theorem hL_keep (ts : List Nat) : ∀ (l : List (Nat × Blk)) (t : Nat), hL (keepL ts l) t = if t ∈ ts then hL l t else none
  | [], t => by simp [keepL, hL]
  | (k, u) :: r, t => by
    simp only [keepL]
    by_cases h1 : k ∈ ts
    · simp only [if_pos h1, hL, hL_keep ts r t]
      by_cases h2 : t = k
      · subst h2; simp [h1]
      · simp [h2]
    · simp only [if_neg h1, hL, hL_keep ts r t]
      by_cases h2 : t = k
      · subst h2; simp [h1]
      · simp [h2]

theorem mk_keep (l : List (Nat × SV)) (h : List (Nat × Blk)) (ts ns : List Nat) : (mk l h).keep ts ns = mk (keepL ts l) (keepL ns h) := by
  simp only [mk, St.keep, St.mk.injEq]
  exact ⟨funext fun t => (ofL_keep ts l t).symm, funext fun t => (hL_keep ns h t).symm⟩

def initL (k : Nat) : List AV → List (Nat × SV)
  | [] => []
  | v :: r => (k, v.sv) :: initL (k + 1) r

theorem ofL_init : ∀ (args : List AV) (k t : Nat), ofL (initL k args) (k + t) = match args[t]? with | some v => v.sv | none => .undef
  | [], k, t => rfl
  | v :: r, k, 0 => by simp [initL, ofL]
  | v :: r, k, t + 1 => by
    have := ofL_init r (k + 1) t
    simp only [initL, ofL]
    rw [if_neg (by omega), show k + (t + 1) = k + 1 + t by omega, this]
    simp

theorem initSt_mk (args : List AV) : initSt args = mk (initL 0 args) [] := by
  simp only [mk, initSt, St.mk.injEq]
  exact ⟨funext fun t => by have := ofL_init args 0 t; rw [Nat.zero_add] at this; exact this.symm, rfl⟩

section
variable {E : Env} {T : TypeId → Option TI} {h : Hint} {Q : Exit → St → Prop} {st : St}

def KSeq (E : Env) (T : TypeId → Option TI) (h : Hint) (y : Code) (Q : Exit → St → Prop) : Exit → St → Prop := fun e st => match e with | .normal => ∃ k, wpCode E T h y Q (st.keepO k) | e => Q e st
def KBlock (id : Nat) (Q : Exit → St → Prop) : Exit → St → Prop := fun e st => match e with | .exit id' => if id' = id then Q .normal st else Q (.exit id') st | e => Q e st
/-- What is asked where a loop's round ends. -/
def KLoop (ts ns : List Nat) {σ : Type} (I : σ → St → Prop) (μ : σ → Nat) (m : Nat) (Q : Exit → St → Prop) : Exit → St → Prop := fun e st => match e with | .normal => ∃ s', I s' (st.keep ts ns) ∧ μ s' < m | e => Q e st

theorem c_seq (x y : Code) : wpCode E T h (.seq x y) Q st = wpCode E T h x (KSeq E T h y Q) st := rfl
theorem c_block (id : Nat) (x : Code) : wpCode E T h (.block id x) Q st = wpCode E T h x (KBlock id Q) st := rfl
theorem c_region (id : Nat) (ops : Array Oper) : wpCode E T h (.region id ops false) Q st = wpS E T h [] ops.toList (Q .normal) st := rfl
theorem c_skip : wpCode E T h .skip Q st = Q .normal st := rfl
theorem c_exit (id : Nat) : wpCode E T h (.exit id) Q st = Q (.exit id) st := rfl
theorem c_ret : wpCode E T h .ret Q st = Q .ret st := rfl
theorem c_cond (c : Operand) (x y : Code) : wpCode E T h (.cond c x y) Q st = match rd T st 0 c with
    | .c (.t (.bool b)) => if b = true then wpCode E T h x Q st else wpCode E T h y Q st
    | _ => False := rfl
theorem k_seq_e (y : Code) (id : Nat) : KSeq E T h y Q (.exit id) st = Q (.exit id) st := rfl
theorem k_seq_r (y : Code) : KSeq E T h y Q .ret st = Q .ret st := rfl
theorem k_block_n (id : Nat) : KBlock id Q .normal st = Q .normal st := rfl
theorem k_block_e (id id' : Nat) : KBlock id Q (.exit id') st = if id' = id then Q .normal st else Q (.exit id') st := rfl
theorem k_block_r (id : Nat) : KBlock id Q .ret st = Q .ret st := rfl
theorem k_res_n (rs : List ResultVar) (res : List AV) : KRes T rs res .normal st = (resOf T st rs = some res) := rfl
theorem k_res_r (rs : List ResultVar) (res : List AV) : KRes T rs res .ret st = (resOf T st rs = some res) := rfl

/-! The walk's steps: a region's operations are walked with what follows behind a letter. -/
theorem s_seq {x y : Code} (hx : wpCode E T h x (KSeq E T h y Q) st) : wpCode E T h (.seq x y) Q st := hx
theorem s_block {id : Nat} {x : Code} (hx : wpCode E T h x (KBlock id Q) st) : wpCode E T h (.block id x) Q st := hx
theorem s_region {id : Nat} {l : List Oper} (hx : ∀ K : St → Prop, (∀ st, Q .normal st → K st) → wpS E T h [] l K st) : wpCode E T h (.region id (List.toArray l) false) Q st := hx _ (fun _ h => h)
theorem s_nil {ds : List (Option Nat)} {K : St → Prop} (hk : K st) : wpS E T h ds [] K st := hk
theorem s_op {K : St → Prop} {ds : List (Option Nat)} {o : Oper} {l : List Oper}
    (hx : ∀ K' : St → Prop, (∀ st, wpS E T h (ds ++ [o.dst]) l K st → K' st) → match guardD ds st o with | some c => if c = true then wpOp E T h o K' st else putK h.n o.dst (.tup []) K' st | none => False) : wpS E T h ds (o :: l) K st := hx _ (fun _ h => h)
theorem s_cond {c : Operand} {x y : Code} (hx : ∀ KT KF : St → Prop, (∀ st, wpCode E T h x Q st → KT st) → (∀ st, wpCode E T h y Q st → KF st) → match rd T st 0 c with | .c (.t (.bool b)) => if b = true then KT st else KF st | _ => False) : wpCode E T h (.cond c x y) Q st := hx _ _ (fun _ h => h) (fun _ h => h)
theorem s_skip (hq : Q .normal st) : wpCode E T h .skip Q st := hq
theorem s_exit {id : Nat} (hq : Q (.exit id) st) : wpCode E T h (.exit id) Q st := hq
theorem s_ret (hq : Q .ret st) : wpCode E T h .ret Q st := hq
theorem n_seq {y : Code} (hq : wpCode E T h y Q st) : KSeq E T h y Q .normal st := ⟨none, hq⟩
theorem n_seqK {y : Code} (ts ns : List Nat) (hq : wpCode E T h y Q (st.keep ts ns)) : KSeq E T h y Q .normal st := ⟨some (ts, ns), hq⟩
theorem e_seq {y : Code} {id : Nat} (hq : Q (.exit id) st) : KSeq E T h y Q (.exit id) st := hq
theorem r_seq {y : Code} (hq : Q .ret st) : KSeq E T h y Q .ret st := hq
theorem n_block {id : Nat} (hq : Q .normal st) : KBlock id Q .normal st := hq
theorem e_block {id : Nat} (hq : Q .normal st) : KBlock id Q (.exit id) st := by simp only [KBlock, if_true]; exact hq
theorem f_block {id id' : Nat} (hq : Q (.exit id') st) (he : id' ≠ id) : KBlock id Q (.exit id') st := by simp only [KBlock, if_neg he]; exact hq
theorem r_block {id : Nat} (hq : Q .ret st) : KBlock id Q .ret st := hq
theorem n_loop {ts ns : List Nat} {σ : Type} {I : σ → St → Prop} {μ : σ → Nat} {m : Nat} (s' : σ) (hi : I s' (st.keep ts ns)) (hm : μ s' < m) : KLoop ts ns I μ m Q .normal st := ⟨s', hi, hm⟩
theorem e_loop {ts ns : List Nat} {σ : Type} {I : σ → St → Prop} {μ : σ → Nat} {m id : Nat} (hq : Q (.exit id) st) : KLoop ts ns I μ m Q (.exit id) st := hq
theorem r_loop {ts ns : List Nat} {σ : Type} {I : σ → St → Prop} {μ : σ → Nat} {m : Nat} (hq : Q .ret st) : KLoop ts ns I μ m Q .ret st := hq
theorem n_res {rs : List ResultVar} {res : List AV} (hq : resOf T st rs = some res) : KRes T rs res .normal st := hq
theorem r_res {rs : List ResultVar} {res : List AV} (hq : resOf T st rs = some res) : KRes T rs res .ret st := hq

/-! A region whose order is drawn: each order. -/
def AllN : List Nat → (Nat → Prop) → Prop
  | [], _ => True
  | i :: l, p => p i ∧ AllN l p
theorem AllN.mem : ∀ {l : List Nat} {p : Nat → Prop}, AllN l p → ∀ i ∈ l, p i
  | _ :: _, _, h, _, .head _ => h.1
  | _ :: _, _, h, i, .tail _ hi => AllN.mem h.2 i hi
theorem s_draw {id : Nat} {ops : Array Oper} (hx : ∀ K : St → Prop, (∀ st, Q .normal st → K st) → wpAnyL E T h ops ops.size (Array.replicate ops.size false) K st) : wpCode E T h (.region id ops true) Q st := hx _ (fun _ h => h)
theorem s_any {K : St → Prop} {ops : Array Oper} {f n : Nat} {listed : Array Bool} (l : List Nat) (hn : n = f + 1) (hr : Region.ready .any ops listed = l) (h0 : l ≠ []) (hx : AllN l fun i => wpI E T h ops i (wpAnyL E T h ops f (listed.setIfInBounds i true) K) st) : wpAnyL E T h ops n listed K st := by
  subst hn
  refine ⟨fun he => absurd (hr.symm.trans he) h0, fun i hi => ?_⟩
  rw [hr] at hi
  exact hx.mem i hi
theorem s_done {K : St → Prop} {ops : Array Oper} {n : Nat} {listed : Array Bool} (hn : n = 0) (hr : Region.ready .any ops listed = []) (hk : K st) : wpAnyL E T h ops n listed K st := by
  subst hn; exact ⟨hr, hk⟩
theorem s_i {Kc : St → Prop} {ops : Array Oper} {i : Nat} {o : Oper} (ho : ops[i]? = some o) (hx : ∀ K' : St → Prop, (∀ st, Kc st → K' st) → match guardOf ops st o with | some c => if c = true then wpOp E T h o K' st else putK h.n o.dst (.tup []) K' st | none => False) : wpI E T h ops i Kc st := by
  have := hx _ (fun _ h => h)
  simp only [wpI, ho]; exact this

/-- THE LOOP'S RULE. -/
theorem w_loop {x : Code} (ts ns : List Nat) {σ : Type} (I : σ → St → Prop) (μ : σ → Nat) (s : σ) (h0 : I s (st.keep ts ns)) (hr : ∀ s st', I s st' → wpCode E T h x (KLoop ts ns I μ (μ s) Q) st') : wpCode E T h (.loop x) Q st :=
  ⟨ts, ns, σ, I, μ, ⟨s, h0⟩, hr⟩

/-- A loop's rounds, one by one: n of them at most. -/
def wpRounds (E : Env) (T : TypeId → Option TI) (h : Hint) (x : Code) (ts ns : List Nat) (Q : Exit → St → Prop) : Nat → St → Prop
  | 0, _ => False
  | n + 1, st => wpCode E T h x (fun e st' => match e with | .normal => wpRounds E T h x ts ns Q n (st'.keep ts ns) | e => Q e st') st
theorem w_unroll {x : Code} (ts ns : List Nat) (n : Nat) (hr : wpRounds E T h x ts ns Q n (st.keep ts ns)) : wpCode E T h (.loop x) Q st := by
  refine ⟨ts, ns, Nat, fun k st => wpRounds E T h x ts ns Q k st, id, ⟨n, hr⟩, fun k st' hk => ?_⟩
  cases k with
  | zero => exact hk.elim
  | succ k =>
    refine wpCode_mono x (fun e st hq => ?_) hk
    cases e with
    | normal => exact ⟨k, hq, Nat.lt_succ_self k⟩
    | _ => exact hq
/-- What is asked behind a round that is told one by one. -/
def KRounds (E : Env) (T : TypeId → Option TI) (h : Hint) (x : Code) (ts ns : List Nat) (Q : Exit → St → Prop) (n : Nat) : Exit → St → Prop := fun e st => match e with | .normal => wpRounds E T h x ts ns Q n (st.keep ts ns) | e => Q e st
theorem s_round {x : Code} {ts ns : List Nat} {n : Nat} (hr : wpCode E T h x (KRounds E T h x ts ns Q n) st) : wpRounds E T h x ts ns Q (n + 1) st := hr
theorem n_round {x : Code} {ts ns : List Nat} {n : Nat} (hr : wpRounds E T h x ts ns Q n (st.keep ts ns)) : KRounds E T h x ts ns Q n .normal st := hr
theorem e_round {x : Code} {ts ns : List Nat} {n id : Nat} (hr : Q (.exit id) st) : KRounds E T h x ts ns Q n (.exit id) st := hr
theorem r_round {x : Code} {ts ns : List Nat} {n : Nat} (hr : Q .ret st) : KRounds E T h x ts ns Q n .ret st := hr
end

def noRefL (d : Nat) : List (Nat × SV) → Bool
  | [] => true
  | (k, v) :: r => (k == d || !v.refs d) && noRefL d r
theorem noRef_mk (l : List (Nat × SV)) (h : List (Nat × Blk)) (d : Nat) (hl : noRefL d l = true) : ∀ t, t ≠ d → ((mk l h).slots t).refs d = false := by
  intro t ht
  rw [mk_slots]
  induction l with
  | nil => rfl
  | cons p r ih =>
    obtain ⟨k, v⟩ := p
    simp only [noRefL, Bool.and_eq_true, Bool.or_eq_true, beq_iff_eq, Bool.not_eq_true'] at hl
    simp only [ofL]
    split
    · rename_i hk
      rcases hl.1 with h1 | h1
      · exact absurd (hk.trans h1) ht
      · exact h1
    · exact ih hl.2
theorem noRef_iff (l : List (Nat × SV)) (h : List (Nat × Blk)) (d : Nat) (hl : noRefL d l = true) : (∀ t, t ≠ d → (ofL l t).refs d = false) = True := eq_true (noRef_mk l h d hl)
end Go.Proofs.Yteoddaeipckgcaa.Ev
