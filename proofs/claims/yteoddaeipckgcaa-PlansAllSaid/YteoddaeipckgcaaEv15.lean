import Derived.Test.YteoddaeipckgcaaEv14
namespace Go.Proofs.Yteoddaeipckgcaa.Ev
open Go Go.RowKit
set_option linter.unusedSimpArgs false
set_option linter.unusedVariables false
variable {P : Program} {T : TypeId → Option TI}

/-- Is the operation wanted? (Its guard, by what the guard's slot holds.) -/
def guardOf (all : Array Oper) (st : St) (o : Oper) : Option Bool :=
  match o.guard with
  | none => some true
  | some (j, want) => match (all[j]?).bind (·.dst) with
    | some d => match st.slots d with
      | .c (.t (.bool b)) => some (b == want)
      | .tup [] => some false
      | _ => none
    | none => none

def wpI (E : Env) (T : TypeId → Option TI) (h : Hint) (all : Array Oper) (i : Nat) (K : St → Prop) (st : St) : Prop :=
  match all[i]? with
  | none => K st
  | some o => match guardOf all st o with
    | some c => if c = true then wpOp E T h o K st else putK h.n o.dst (.tup []) K st
    | none => False

def wpL (E : Env) (T : TypeId → Option TI) (h : Hint) (all : Array Oper) : List Nat → (St → Prop) → St → Prop
  | [], K, st => K st
  | i :: l, K, st => wpI E T h all i (wpL E T h all l K) st

/-- The guard, by the slots that the operations ahead have written. -/
def guardD (ds : List (Option Nat)) (st : St) (o : Oper) : Option Bool :=
  match o.guard with
  | none => some true
  | some (j, want) => match ds[j]? with
    | some (some d) => match st.slots d with
      | .c (.t (.bool b)) => some (b == want)
      | .tup [] => some false
      | _ => none
    | _ => none

/-- A region's operations in their order. -/
def wpS (E : Env) (T : TypeId → Option TI) (h : Hint) : List (Option Nat) → List Oper → (St → Prop) → St → Prop
  | _, [], K, st => K st
  | ds, o :: l, K, st => match guardD ds st o with
    | some c => if c = true then wpOp E T h o (wpS E T h (ds ++ [o.dst]) l K) st else putK h.n o.dst (.tup []) (wpS E T h (ds ++ [o.dst]) l K) st
    | none => False

def wpAnyL (E : Env) (T : TypeId → Option TI) (h : Hint) (all : Array Oper) : Nat → Array Bool → (St → Prop) → St → Prop
  | 0, listed, K, st => Region.ready .any all listed = [] ∧ K st
  | f + 1, listed, K, st => (Region.ready .any all listed = [] → K st) ∧ ∀ i ∈ Region.ready .any all listed, wpI E T h all i (wpAnyL E T h all f (listed.setIfInBounds i true) K) st

/-- Only some slots and names kept. -/
def St.keep (st : St) (ts ns : List Nat) : St := { slots := fun t => if t ∈ ts then st.slots t else .undef, heap := fun k => if k ∈ ns then st.heap k else none }

def St.keepO (st : St) : Option (List Nat × List Nat) → St
  | none => st
  | some (ts, ns) => st.keep ts ns

def wpCode (E : Env) (T : TypeId → Option TI) (h : Hint) : Code → (Exit → St → Prop) → St → Prop
  | .skip, Q, st => Q .normal st
  | .region _ ops draw, Q, st => if draw then wpAnyL E T h ops ops.size (Array.replicate ops.size false) (Q .normal) st else wpS E T h [] ops.toList (Q .normal) st
  | .seq x y, Q, st => wpCode E T h x (fun e st' => match e with | .normal => ∃ k, wpCode E T h y Q (st'.keepO k) | e => Q e st') st
  | .cond c x y, Q, st => match rd T st 0 c with
    | .c (.t (.bool b)) => if b = true then wpCode E T h x Q st else wpCode E T h y Q st
    | _ => False
  | .block id x, Q, st => wpCode E T h x (fun e st' => match e with | .exit id' => if id' = id then Q .normal st' else Q (.exit id') st' | e => Q e st') st
  | .loop x, Q, st => ∃ (ts ns : List Nat) (σ : Type) (I : σ → St → Prop) (μ : σ → Nat), (∃ s, I s (st.keep ts ns)) ∧ ∀ s st', I s st' → wpCode E T h x (fun e st'' => match e with | .normal => ∃ s', I s' (st''.keep ts ns) ∧ μ s' < μ s | e => Q e st'') st'
  | .exit id, Q, st => Q (.exit id) st
  | .ret, Q, st => Q .ret st
  | _, _, _ => False

section
variable {n : Nat} {w0 : World} {hw0 : Nat → Nat} {G : Gh} {st : St} {a : Act} {w : World} {E : Env}

theorem skipped_q {base : Nat} {heap : Nat → Option Blk} : Q G w base heap (.tup []) undef := fun _ => ⟨[], rfl, trivial⟩

theorem guard_ok (hR : R n w0 hw0 G st a w) {all : Array Oper} {o : Oper} {c : Bool} (h : guardOf all st o = some c) : Region.wanted o (yielded all a.tmps) = c := by
  unfold guardOf at h
  unfold Region.wanted
  split at h
  · rename_i hg; rw [hg]; exact Option.some.inj h
  · rename_i j want hg
    rw [hg]
    split at h
    · rename_i d hd
      split at h
      · rename_i b hb
        obtain rfl := Option.some.inj h
        have hs := hR.slots d
        rw [hb] at hs
        have hv := tvr_bool (show TVR G.hw w (.bool b) _ from hs)
        have ht : a.tmps[d]? = some (.bool b) := by
          rw [Array.getD_eq_getD_getElem?] at hv
          cases h9 : a.tmps[d]? with
          | none => rw [h9] at hv; cases hv
          | some x => rw [h9] at hv; simp only [Option.getD_some] at hv; rw [hv]
        simp only [yielded, hd, Option.bind_some, ht]
        cases b <;> cases want <;> rfl
      · rename_i hb
        obtain rfl := Option.some.inj h
        have hs := hR.slots d
        rw [hb] at hs
        obtain ⟨vs, hv, h2⟩ := (show ∃ vs : List Value, _ = Value.tuple vs.toArray ∧ All2 _ [] vs from hs)
        have hv0 : a.tmps.getD d undef = undef := by
          rw [hv]
          cases vs with
          | nil => rfl
          | cons _ _ => exact h2.elim
        have hy : yielded all a.tmps j = none := by
          rw [Array.getD_eq_getD_getElem?] at hv0
          simp only [yielded, hd, Option.bind_some]
          cases h9 : a.tmps[d]? with
          | none => rfl
          | some x => rw [h9] at hv0; simp only [Option.getD_some] at hv0; rw [hv0]; rfl
        simp only [hy]; rfl
      · cases h
    · cases h

theorem wpI_ok (hE : EnvOk P E) (hT : TOk P T) {h : Hint} (hR : R h.n w0 hw0 G st a w) {all : Array Oper} {i : Nat} {K : St → Prop} {X : Exit → Act → World → Prop} (hw : wpI E T h all i K st) : Go.wpOp P all X i (Post h.n w0 hw0 K) a w := by
  unfold wpI at hw
  unfold Go.wpOp
  cases hi : all[i]? with
  | none => rw [hi] at hw; exact ⟨G, st, hR, hw⟩
  | some o =>
    rw [hi] at hw
    simp only at hw ⊢
    split at hw
    · rename_i c hc
      rw [guard_ok hR hc]
      cases c with
      | true => exact .inl (wpOp_ok hE hT hR hw)
      | false => exact putK_ok hR skipped_q hw
    · exact hw.elim

theorem wpL_ok (hE : EnvOk P E) (hT : TOk P T) {h : Hint} {all : Array Oper} {K : St → Prop} {X : Exit → Act → World → Prop} (hX : ∀ a w, Post h.n w0 hw0 K a w → X .normal a w) : ∀ (l : List Nat) {st a w G}, R h.n w0 hw0 G st a w → wpL E T h all l K st → wpOps P all X l a w
  | [], st, a, w, G, hR, hw => hX a w ⟨G, st, hR, hw⟩
  | i :: l, st, a, w, G, hR, hw => by
    rw [wpOps_cons]
    exact wpOp_mono (fun a' w' ⟨G', st', hR', hK'⟩ => wpL_ok hE hT hX l hR' hK') (wpI_ok hE hT hR hw)

theorem guardD_eq {all : Array Oper} {st : St} {o : Oper} {c : Bool} {k : Nat} (h : guardD ((all.toList.take k).map (·.dst)) st o = some c) : guardOf all st o = some c := by
  unfold guardD at h
  unfold guardOf
  split at h
  · exact h
  · rename_i j want hg
    split at h
    · rename_i d hd
      rw [List.getElem?_map] at hd
      cases ho : (all.toList.take k)[j]? with
      | none => simp [ho] at hd
      | some o' =>
        simp only [ho, Option.map_some, Option.some.injEq] at hd
        have hj : j < k := by
          have := (List.getElem?_eq_some_iff.1 ho).1
          simp at this; omega
        rw [List.getElem?_take_of_lt hj] at ho
        have ho' : all[j]? = some o' := by simpa using ho
        simp only [ho', Option.bind_some, hd]
        exact h
    · cases h

theorem wpS_ok (hE : EnvOk P E) (hT : TOk P T) {h : Hint} {all : Array Oper} {K : St → Prop} {X : Exit → Act → World → Prop} (hX : ∀ a w, Post h.n w0 hw0 K a w → X .normal a w) : ∀ (l : List Oper) (k : Nat) {st a w G}, all.toList.drop k = l → R h.n w0 hw0 G st a w →
    wpS E T h ((all.toList.take k).map (·.dst)) l K st → wpOps P all X (List.range' k l.length) a w
  | [], k, st, a, w, G, _, hR, hw => hX a w ⟨G, st, hR, hw⟩
  | o :: l, k, st, a, w, G, hl, hR, hw => by
    have hk : k < all.toList.length := by
      rcases Nat.lt_or_ge k all.toList.length with h | h
      · exact h
      · rw [List.drop_of_length_le h] at hl; cases hl
    have ho : all[k]? = some o := by
      have : (all.toList.drop k)[0]? = some o := by rw [hl]; rfl
      rw [List.getElem?_drop] at this
      simpa using this
    have hl2 : all.toList.drop (k + 1) = l := by rw [← List.drop_drop, hl]; rfl
    have ht2 : (all.toList.take (k + 1)).map (·.dst) = (all.toList.take k).map (·.dst) ++ [o.dst] := by
      rw [List.take_add_one, List.map_append]
      have : all.toList[k]? = some o := by simpa using ho
      rw [this]; rfl
    rw [List.length_cons, List.range'_succ, wpOps_cons]
    simp only [wpS] at hw
    split at hw
    · rename_i c hc
      rw [← ht2] at hw
      have hnext : ∀ a' w', Post h.n w0 hw0 (wpS E T h ((all.toList.take (k + 1)).map (·.dst)) l K) a' w' → wpOps P all X (List.range' (k + 1) l.length) a' w' := fun a' w' ⟨G', st', hR', hK'⟩ => wpS_ok hE hT hX l (k + 1) hl2 hR' hK'
      refine wpOp_mono hnext ?_
      unfold Go.wpOp
      rw [ho]
      simp only
      rw [guard_ok hR (guardD_eq hc)]
      cases c with
      | true => exact .inl (wpOp_ok hE hT hR hw)
      | false => exact putK_ok hR skipped_q hw
    · exact hw.elim

theorem wpAnyL_ok (hE : EnvOk P E) (hT : TOk P T) {h : Hint} {all : Array Oper} {K : St → Prop} {X : Exit → Act → World → Prop} (hX : ∀ a w, Post h.n w0 hw0 K a w → X .normal a w) : ∀ (f : Nat) (listed : Array Bool) {st a w G}, R h.n w0 hw0 G st a w → wpAnyL E T h all f listed K st → wpAny P .any all X f listed a w
  | 0, listed, st, a, w, G, hR, hw => ⟨hw.1, hX a w ⟨G, st, hR, hw.2⟩⟩
  | f + 1, listed, st, a, w, G, hR, hw => ⟨fun he => hX a w ⟨G, st, hR, hw.1 he⟩, fun i hi => wpOp_mono (fun a' w' ⟨G', st', hR', hK'⟩ => wpAnyL_ok hE hT hX f _ hR' hK') (wpI_ok hE hT hR (hw.2 i hi))⟩

theorem R.drew (hR : R n w0 hw0 G st a w) : R n w0 hw0 G st a w.drew :=
  hR.grow ⟨(Below.refl _ _).drew, fun _ _ => rfl, hR.hwNew, fun _ _ _ => rfl, fun _ _ => rfl⟩

theorem R.keep (hR : R n w0 hw0 G st a w) (ts ns : List Nat) : R n w0 hw0 G (st.keep ts ns) a w := by
  refine { hR with slots := ?_, heap := ?_, inj := ?_ }
  · intro t
    simp only [St.keep]
    split
    · have h := hR.slots t
      cases hs : st.slots t with
      | mr nm lo len =>
        rw [hs] at h
        intro blk hb
        simp only at hb
        split at hb
        · exact h blk hb
        · cases hb
      | mp nm i o =>
        rw [hs] at h
        intro blk hb
        simp only at hb
        split at hb
        · exact h blk hb
        · cases hb
      | _ => rw [hs] at h; exact h
    · trivial
  · intro nm blk hb
    simp only [St.keep] at hb
    split at hb
    · exact hR.heap nm blk hb
    · cases hb
  · intro nm nm' bl bl' h1 h2 he
    simp only [St.keep] at h1 h2
    split at h1
    · split at h2
      · exact hR.inj nm nm' bl bl' h1 h2 he
      · cases h2
    · cases h1

theorem R.keepO (hR : R n w0 hw0 G st a w) : ∀ k, R n w0 hw0 G (st.keepO k) a w
  | none => hR
  | some (ts, ns) => hR.keep ts ns

/-- A loop, by what holds at its head of something beside the frame, that each round lessens. -/
theorem wp_loop_of {σ : Type} {c : Code} {X : Exit → Act → World → Prop} (I : σ → Act → World → Prop) (μ : σ → Nat) (round : ∀ s a w, I s a w → c.wp P (Exit.then (fun a' w' => ∃ s', I s' a' w' ∧ μ s' < μ s) X) a w) :
    ∀ s a w, I s a w → (Code.loop c).wp P X a w := by
  intro s a w h0 b k cs
  have key : ∀ m s a w, μ s = m → I s a w → ∃ e a' w', X e a' w' ∧ Arrives P (lone (b.at a (.code c :: .inLoop c :: k)) cs w) b k cs e a' w' := by
    intro m
    induction m using Nat.strongRecOn with
    | _ m ih =>
      intro s a w hm hI
      obtain ⟨e, a1, w1, hq, harr⟩ := round s a w hI b (.inLoop c :: k) cs
      cases e with
      | normal =>
        obtain ⟨s1, hI1, hlt⟩ := hq
        obtain ⟨e2, a2, w2, hq2, harr2⟩ := ih (μ s1) (hm ▸ hlt) s1 a1 w1 rfl hI1
        exact ⟨e2, a2, w2, hq2, .of_steps (Steps.trans harr (.one step_inLoop)) harr2⟩
      | outgrown => exact ⟨.outgrown, a1, w1, hq, harr⟩
      | ret => exact ⟨.ret, a1, w1, hq, harr⟩
      | panic ch => exact ⟨.panic ch, a1, w1, hq, harr⟩
      | exit id => exact ⟨.exit id, a1, w1, hq, .pass (x := .inLoop c) rfl (fun _ _ => .inl (by simp)) harr⟩
      | goto l => exact ⟨.goto l, a1, w1, hq, .pass (x := .inLoop c) rfl (fun _ _ => .inl (by simp)) harr⟩
  obtain ⟨e, a', w', hq, harr⟩ := key _ s a w rfl h0
  exact ⟨e, a', w', hq, .of_steps (.one step_loop) harr⟩

theorem wpCode_ok (hm : P.follows .mixedOrders = true) (hE : EnvOk P E) (hT : TOk P T) {h : Hint} : ∀ (c : Code) {Q : Exit → St → Prop} {X : Exit → Act → World → Prop} {st a w G}, (∀ e a w G st, R h.n w0 hw0 G st a w → Q e st → X e a w) → R h.n w0 hw0 G st a w → wpCode E T h c Q st → c.wp P X a w
  | .skip, Q, X, st, a, w, G, hX, hR, hw => wp_skip (hX _ _ _ _ _ hR hw)
  | .region id ops draw, Q, X, st, a, w, G, hX, hR, hw => by
    have hX' : ∀ a w, Post h.n w0 hw0 (Q .normal) a w → X .normal a w := fun a w ⟨G, st, hR, hq⟩ => hX _ _ _ _ _ hR hq
    cases draw with
    | true => exact wp_region_any hm (wpAnyL_ok hE hT hX' _ _ hR.drew hw)
    | false => exact wp_region (by have := wpS_ok hE hT hX' ops.toList 0 (all := ops) (by simp) hR hw; rw [List.range_eq_range']; simpa using this)
  | .seq x y, Q, X, st, a, w, G, hX, hR, hw => by
    refine wp_seq (wpCode_ok hm hE hT x (fun e a w G st hR hq => ?_) hR hw)
    cases e with
    | normal => obtain ⟨k, hq⟩ := hq; exact wpCode_ok hm hE hT y hX (hR.keepO k) hq
    | _ => exact hX _ _ _ _ _ hR hq
  | .cond c x y, Q, X, st, a, w, G, hX, hR, hw => by
    simp only [wpCode] at hw
    split at hw
    · rename_i b hb
      have hq := rd_q (T := T) hR 0 c
      rw [hb] at hq
      exact wp_cond_split (tvr_bool (Ev.Q.tv.1 hq)) (fun ht => wpCode_ok hm hE hT x hX hR (by rw [if_pos ht] at hw; exact hw)) (fun hf => wpCode_ok hm hE hT y hX hR (by rw [if_neg (by simp [hf])] at hw; exact hw))
    · exact hw.elim
  | .block id x, Q, X, st, a, w, G, hX, hR, hw => by
    refine wp_block (wpCode_ok hm hE hT x (fun e a w G st hR hq => ?_) hR hw)
    cases e with
    | exit id' =>
      simp only [Exit.inBlock]
      simp only at hq
      split at hq
      · rename_i he; rw [if_pos he]; exact hX _ _ _ _ _ hR hq
      · rename_i he; rw [if_neg he]; exact hX _ _ _ _ _ hR hq
    | _ => exact hX _ _ _ _ _ hR hq
  | .loop x, Q, X, st, a, w, G, hX, hR, hw => by
    obtain ⟨ts, ns, σ, I, μ, ⟨s0, h0⟩, hround⟩ := hw
    refine wp_loop_of (σ := σ) (fun s a w => ∃ G st, R h.n w0 hw0 G st a w ∧ I s st) μ (fun s a w ⟨G, st, hR, hI⟩ => ?_) s0 a w ⟨G, _, hR.keep ts ns, h0⟩
    refine wpCode_ok hm hE hT x (fun e a w G st hR hq => ?_) hR (hround s st hI)
    cases e with
    | normal => obtain ⟨s', h1, h2⟩ := hq; exact ⟨s', ⟨G, _, hR.keep ts ns, h1⟩, h2⟩
    | _ => exact hX _ _ _ _ _ hR hq
  | .exit id, Q, X, st, a, w, G, hX, hR, hw => wp_exit (hX _ _ _ _ _ hR hw)
  | .ret, Q, X, st, a, w, G, hX, hR, hw => wp_ret (hX _ _ _ _ _ hR hw)
  | .rangeFunc .., _, _, _, _, _, _, _, _, hw => hw.elim
  | .scope _, _, _, _, _, _, _, _, _, hw => hw.elim
  | .label _, _, _, _, _, _, _, _, _, hw => hw.elim
  | .goto _, _, _, _, _, _, _, _, _, hw => hw.elim
  | .refuse _, _, _, _, _, _, _, _, _, hw => hw.elim
end
end Go.Proofs.Yteoddaeipckgcaa.Ev
