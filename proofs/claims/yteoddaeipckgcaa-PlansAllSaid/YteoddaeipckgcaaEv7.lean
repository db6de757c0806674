import Derived.Test.YteoddaeipckgcaaEv6
namespace Go.Proofs.Yteoddaeipckgcaa.Ev
open Go Go.RowKit
set_option linter.unusedSimpArgs false
set_option linter.unusedVariables false
variable {P : Program} {T : TypeId → Option TI}
section
variable {n : Nat} {w0 : World} {hw0 : Nat → Nat} {G : Gh} {st : St} {a : Act} {w : World}

def Gh.mark (G : Gh) (b v : Nat) (l : Option Loc) : Gh := { G with hw := fun k => if k = b then v else G.hw k, own := fun k => if k = b then l else G.own k }

/-- The mark of a block raised, and its room given to another, where nobody holds it. -/
theorem R.reown (hR : R n w0 hw0 G st a w) {b v : Nat} {l : Option Loc} (hv : G.hw b ≤ v) (hp : 0 < G.hw b) (hbase : w0.heap.size ≤ b) (hlt : b < w.heap.size)
    (hs : ∀ t sz rows, st.slots t = .c (.own sz rows) → G.own b ≠ some (.slot t))
    (hc : ∀ nm blk i r j sz rows, st.heap nm = some blk → blk.rows[i]? = some r → r[j]? = some (.own sz rows) → G.own b ≠ some (.cell nm i j)) : R n w0 hw0 (G.mark b v l) st a w := by
  have hle : ∀ k, G.hw k ≤ (G.mark b v l).hw k := by
    intro k
    simp only [Gh.mark]
    split
    · rename_i h; rw [h]; exact hv
    · exact Nat.le_refl _
  have ht : ∀ u y, TVR G.hw w u y → TVR (G.mark b v l).hw w u y := fun u y h => h.mono hle fun _ _ _ _ h => h
  have hb : ∀ loc, G.own b ≠ some loc → ∀ k (cs : Array Value) (el : TypeId), w.heap[k]? = some (Obj.cells cs el (0, 0)) → 0 < G.hw k → G.own k = some loc →
      (G.mark b v l).hw k = G.hw k ∧ (G.mark b v l).own k = G.own k ∧ ∃ cs', w.heap[k]? = some (Obj.cells cs' el (0, 0)) ∧ cs'.size = cs.size := by
    intro loc hloc k cs el h1 h2 h3
    have hk : k ≠ b := fun e => by rw [e] at h3; exact hloc h3
    exact ⟨by simp [Gh.mark, hk], by simp [Gh.mark, hk], cs, h1, rfl⟩
  refine { below := hR.below, hwOld := ?_, hwNew := ?_, tmps := hR.tmps, defers := hR.defers, slots := ?_, heap := ?_, inj := hR.inj }
  · intro k hk
    simp only [Gh.mark]
    rw [if_neg (by omega)]
    exact hR.hwOld k hk
  · intro k hk
    simp only [Gh.mark]
    rw [if_neg (by omega)]
    exact hR.hwNew k hk
  · intro t
    have h := hR.slots t
    cases hst : st.slots t with
    | undef => trivial
    | c c =>
      rw [hst] at h
      cases c with
      | t u => exact ht _ _ h
      | own sz rows => exact CVR.move (c := .own sz rows) h ht (hb _ (hs t sz rows hst))
    | agg cs => rw [hst] at h; obtain ⟨vs, h1, h2⟩ := h; exact ⟨vs, h1, h2.mono fun _ _ => AggR.move ht⟩
    | tup vs => rw [hst] at h; obtain ⟨us, h1, h2⟩ := h; exact ⟨us, h1, h2.mono fun _ _ => AVR.move ht⟩
    | fp cells =>
      rw [hst] at h
      obtain ⟨b, o, h1, h2, h3⟩ := h
      exact ⟨b, o, h1, Nat.le_trans h2 (hle b), fun j v hj => by obtain ⟨u, g1, g2⟩ := h3 j v hj; exact ⟨u, g1, ht _ _ g2⟩⟩
    | mr nm lo len => rw [hst] at h; exact h
    | mp nm i o => rw [hst] at h; exact h
  · intro nm blk hblk
    obtain ⟨cs, el, h1, h2, h3, h4, h5, h6, h7⟩ := hR.heap nm blk hblk
    have hne : (G.ph nm).1 ≠ b := fun e => by rw [e] at h2; omega
    refine ⟨cs, el, h1, by simp only [Gh.mark]; rw [if_neg hne]; exact h2, h3, h4, h5, h6, fun i r j c hi hj => ?_⟩
    obtain ⟨x, g1, g2⟩ := h7 i r j c hi hj
    refine ⟨x, g1, ?_⟩
    cases c with
    | t v => exact ht _ _ g2
    | own sz rows => exact CVR.move (c := .own sz rows) g2 ht (hb _ (hc nm blk i r j sz rows hblk hi hj))

def SV.refs (nm : Nat) : SV → Bool
  | .mr k _ _ | .mp k _ _ => k == nm
  | _ => false

def SV.kill (nm : Nat) (v : SV) : SV := if v.refs nm then .undef else v

theorem SV.kill_mr (nm k lo len : Nat) : SV.kill nm (.mr k lo len) = if k = nm then .undef else .mr k lo len := by simp [SV.kill, SV.refs]
theorem SV.kill_mp (nm k i o : Nat) : SV.kill nm (.mp k i o) = if k = nm then .undef else .mp k i o := by simp [SV.kill, SV.refs]

/-- A name given to a block: what led to its former block is forgotten. -/
def St.name (st : St) (nm : Nat) (blk : Blk) : St := { slots := fun t => (st.slots t).kill nm, heap := fun k => if k = nm then some blk else st.heap k }

theorem R.name (hR : R n w0 hw0 G st a w) {nm b : Nat} {blk : Blk} {cs : Array Value} {el : TypeId} (hh : w.heap[b]? = some (.cells cs el (0, 0))) (hz : G.hw b = 0) (hbase : w0.heap.size ≤ b) (hsz : 0 < blk.sz)
    (hrows : ∀ r ∈ blk.rows, r.length = blk.sz) (hfit : blk.rows.length * blk.sz ≤ cs.size) (hno : ∀ nm' blk', st.heap nm' = some blk' → (G.ph nm').1 ≠ b)
    (hcell : ∀ i r j c, blk.rows[i]? = some r → r[j]? = some c → ∃ x, cs[i * blk.sz + j]? = some x ∧ AggR G.hw w c x) :
    R n w0 hw0 { G with ph := fun k => if k = nm then (b, 0) else G.ph k } (st.name nm blk) a w := by
  refine { below := hR.below, hwOld := hR.hwOld, hwNew := hR.hwNew, tmps := hR.tmps, defers := hR.defers, slots := ?_, heap := ?_, inj := ?_ }
  · intro t
    have h := hR.slots t
    simp only [St.name]
    cases hst : st.slots t with
    | undef => trivial
    | c c => rw [hst] at h; exact h
    | agg cs => rw [hst] at h; exact h
    | tup vs => rw [hst] at h; exact h
    | fp cells => rw [hst] at h; exact h
    | mr k lo len =>
      rw [SV.kill_mr]
      by_cases hk : k = nm
      · rw [if_pos hk]; trivial
      · rw [if_neg hk]
        rw [hst] at h
        intro blk' hb'
        simp only [if_neg hk] at hb' ⊢
        exact h blk' hb'
    | mp k i o =>
      rw [SV.kill_mp]
      by_cases hk : k = nm
      · rw [if_pos hk]; trivial
      · rw [if_neg hk]
        rw [hst] at h
        intro blk' hb'
        simp only [if_neg hk] at hb' ⊢
        exact h blk' hb'
  · intro k blk' hb'
    simp only [St.name] at hb'
    by_cases hk : k = nm
    · subst hk
      rw [if_pos rfl] at hb'
      obtain rfl := Option.some.inj hb'
      refine ⟨cs, el, by simp only [if_pos]; exact hh, by simp only [if_pos]; exact hz, by simp only [if_pos]; exact hbase, hsz, hrows, by simp only [if_pos]; omega, fun i r j c hi hj => ?_⟩
      obtain ⟨x, g1, g2⟩ := hcell i r j c hi hj
      refine ⟨x, by simp only [if_pos]; rw [Nat.zero_add]; exact g1, ?_⟩
      cases c with
      | t v => exact g2
      | own sz rows => exact .inl g2
    · rw [if_neg hk] at hb'
      obtain ⟨cs, el, h1, h2, h3, h4, h5, h6, h7⟩ := hR.heap k blk' hb'
      simp only [BlkR, if_neg hk]
      exact ⟨cs, el, h1, h2, h3, h4, h5, h6, h7⟩
  · intro k k' bl bl' h1 h2 he
    simp only [St.name] at h1 h2 he
    by_cases hk : k = nm
    · by_cases hk' : k' = nm
      · rw [hk, hk']
      · rw [if_pos hk, if_neg hk'] at he
        rw [if_neg hk'] at h2
        exact absurd he.symm (hno k' bl' h2)
    · by_cases hk' : k' = nm
      · rw [if_neg hk, if_pos hk'] at he
        rw [if_neg hk] at h1
        exact absurd he (hno k bl h1)
      · rw [if_neg hk, if_neg hk'] at he
        rw [if_neg hk] at h1
        rw [if_neg hk'] at h2
        exact hR.inj k k' bl bl' h1 h2 he

def St.dropSlot (st : St) (s : Nat) : St := { st with slots := fun t => if t = s then (st.slots t).drop else st.slots t }

theorem R.dropSlot (hR : R n w0 hw0 G st a w) (s : Nat) : R n w0 hw0 G (st.dropSlot s) a w := by
  refine hR.weaken fun t x h => ?_
  split
  · exact drop_q h t
  · exact h

theorem row_split {sz k : Nat} (h0 : 0 < sz) : k / sz * sz + k % sz = k := by
  have := Nat.div_add_mod k sz
  rw [Nat.mul_comm] at this
  exact this

/-- What a slice hands to an append: its cells, one by one. -/
theorem src_of {t e : TypeId} {info : TypeInfo} (hu : P.underlying t = some (.slice e)) {hw : Nat → Nat} {w : World} {sz : Nat} {rows : List (List TV)} {x : Value} (h : TVR hw w (.sl sz rows) x) (hsz : info.size = sz) :
    ∃ news : List Value, Src P info.size t x rows.length news w ∧ ∀ i r j v, rows[i]? = some r → r[j]? = some v → ∃ u, news[i * sz + j]? = some u ∧ TVR hw w v u := by
  cases h with
  | nil _ a cap =>
    refine ⟨[], ?_, fun i r j v hi _ => by simp at hi⟩
    cases a with
    | none => exact Src.ofNil w hu cap
    | some a => exact Src.ofSlice w hu a 0 cap [] (by simp) (fun j u hj => by simp at hj) (fun u hu => by cases hu)
  | sl _ _ b o cap f h0 hl hc he h1 h2 =>
    have hlt : ∀ k, k < rows.length * sz → k / sz < rows.length ∧ k % sz < sz := fun k hk => ⟨by rw [Nat.div_lt_iff_lt_mul h0]; exact hk, Nat.mod_lt _ h0⟩
    refine ⟨(List.range (rows.length * sz)).map fun k => f (k / sz) (k % sz), Src.ofSlice w hu _ _ _ _ (by simp [hsz]) (fun j u hj => ?_) (fun u hu => ?_), fun i r j v hi hj => ?_⟩
    · have hj2 := (List.getElem?_eq_some_iff.1 hj).1
      simp only [List.length_map, List.length_range] at hj2
      rw [List.getElem?_map, List.getElem?_range hj2] at hj
      simp only [Option.map_some, Option.some.injEq] at hj
      obtain ⟨g1, g2⟩ := hlt j hj2
      rw [add_at, ← hj]
      have := h1 _ _ g1 g2
      rw [row_split h0] at this
      exact this
    · obtain ⟨k, hk, rfl⟩ := List.mem_map.1 hu
      obtain ⟨g1, g2⟩ := hlt k (List.mem_range.1 hk)
      have hr : rows[k / sz]? = some rows[k / sz] := List.getElem?_eq_getElem g1
      have hrl := hl _ (List.getElem_mem g1)
      exact (h2 _ _ (k % sz) _ hr (List.getElem?_eq_getElem (by rw [hrl]; exact g2))).oneCell
    · have hi2 := (List.getElem?_eq_some_iff.1 hi).1
      have hj2 := (List.getElem?_eq_some_iff.1 hj).1
      rw [hl r (List.mem_of_getElem? hi)] at hj2
      have hlt2 := row_lt hi2 hj2
      refine ⟨f i j, ?_, h2 i r j v hi hj⟩
      rw [List.getElem?_map, List.getElem?_range hlt2]
      have e1 : (i * sz + j) / sz = i := by rw [Nat.add_comm, Nat.add_mul_div_right _ _ h0, Nat.div_eq_of_lt hj2, Nat.zero_add]
      have e2 : (i * sz + j) % sz = j := by rw [Nat.add_comm, Nat.add_mul_mod_self_right, Nat.mod_eq_of_lt hj2]
      simp [e1, e2]
end
end Go.Proofs.Yteoddaeipckgcaa.Ev
