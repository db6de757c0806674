/- The evaluator's second make: where a step's values lead. -/
import Derived.Test.YtgmjgognpabmdaaFx14
namespace Go.Proofs.Ytgmjgognpabmdaa.Fx
open Go Go.RowKit
set_option linter.unusedSimpArgs false
set_option linter.unusedVariables false
section
variable {P : Program} {E : Env} {T : TypeId → Option TI} {n : Nat} {K : St → Prop} {s s' s1 s2 : St} {all : Array Oper}

theorem hasL_ex {nm : Nat} : ∀ {l : List CV}, hasL nm l = true → ∃ c ∈ l, c.has nm = true
  | c :: l, h => by
    simp only [hasL, Bool.or_eq_true] at h
    rcases h with h | h
    · exact ⟨c, by simp, h⟩
    · obtain ⟨c', h1, h2⟩ := hasL_ex h; exact ⟨c', by simp [h1], h2⟩
theorem hasRows_ex {nm : Nat} : ∀ {l : List (List CV)}, hasRows nm l = true → ∃ r ∈ l, ∃ c ∈ r, c.has nm = true
  | r :: l, h => by
    simp only [hasRows, Bool.or_eq_true] at h
    rcases h with h | h
    · obtain ⟨c, h1, h2⟩ := hasL_ex h; exact ⟨r, by simp, c, h1, h2⟩
    · obtain ⟨r', h1, h2⟩ := hasRows_ex h; exact ⟨r', by simp [h1], h2⟩
theorem hasA_ex {nm : Nat} : ∀ {l : List AV}, hasA nm l = true → ∃ c ∈ l, c.has nm = true
  | c :: l, h => by
    simp only [hasA, Bool.or_eq_true] at h
    rcases h with h | h
    · exact ⟨c, by simp, h⟩
    · obtain ⟨c', h1, h2⟩ := hasA_ex h; exact ⟨c', by simp [h1], h2⟩

theorem cells_has {sv : SV} {cs : List CV} (h : cells sv = some cs) {nm : Nat} (hn : hasL nm cs = true) : sv.has nm = true := by
  cases sv with
  | c v =>
    have : cs = [v] := by cases v <;> simp_all [cells, CV.cells]
    subst this
    show v.has nm = true
    simpa [hasL] using hn
  | agg cs' => simp only [cells, Option.some.injEq] at h; subst h; exact hn
  | _ => cases h

theorem copy_has {c : CV} {nm : Nat} (h : c.copy.has nm = true) : c.has nm = true := by
  cases c with
  | own sz rows => cases rows <;> exact absurd h (by simp [CV.copy, CV.has, hasRows])
  | _ => exact h

theorem zero_has (hT : TOk P T) {t : TypeId} {ti : TI} (ht : T t = some ti) (nm : Nat) : hasL nm ti.zero = false := by
  obtain ⟨info, z, _, _, _, _, hz, _⟩ := (hT _ _ ht).info
  cases hh : hasL nm ti.zero with
  | false => rfl
  | true =>
    obtain ⟨c, h1, h2⟩ := hasL_ex hh
    obtain ⟨i, hi⟩ := List.mem_iff_getElem?.1 h1
    obtain ⟨x, _, hx⟩ := hz.get i c hi
    unfold zeroR at hx
    split at hx <;> first | (exact hx.elim) | (obtain ⟨rfl, _⟩ := hx; simp [CV.has, hasRows] at h2) | (simp [CV.has] at h2)

theorem lay_has {zs cs : List CV} {off nm : Nat} (h : hasL nm (lay zs off cs) = true) : hasL nm zs = true ∨ hasL nm cs = true := by
  obtain ⟨c, h1, h2⟩ := hasL_ex h
  simp only [lay, List.mem_append] at h1
  rcases h1 with (h1 | h1) | h1
  · exact .inl (hasL_mem (List.mem_of_mem_take h1) h2)
  · exact .inr (hasL_mem h1 h2)
  · exact .inl (hasL_mem (List.mem_of_mem_drop h1) h2)

theorem layParts_has {place : Nat → Option (Nat × Nat)} {g : Operand → SV} {nm : Nat} : ∀ (ps : List (Nat × Operand)) (zs cs : List CV), layParts T place g zs ps = some cs → hasL nm cs = true → hasL nm zs = true ∨ ∃ p ∈ ps, (g p.2).has nm = true
  | [], zs, cs, h, hn => by simp only [layParts, Option.some.injEq] at h; subst h; exact .inl hn
  | (i, x) :: ps, zs, cs, h, hn => by
    simp only [layParts] at h
    split at h
    · rename_i off size c hpl hc
      split at h
      · rcases layParts_has ps _ cs h hn with h1 | ⟨p, h1, h2⟩
        · rcases lay_has h1 with h2 | h2
          · exact .inl h2
          · exact .inr ⟨(i, x), by simp, cells_has hc h2⟩
        · exact .inr ⟨p, by simp [h1], h2⟩
      · cases h
    · cases h

theorem capsOf_has {g : Operand → SV} {nm : Nat} : ∀ (xs : List Operand) (vs : List CV), capsOf g xs = some vs → hasL nm vs = true → ∃ x ∈ xs, (g x).has nm = true
  | [], vs, h, hn => by simp only [capsOf, Option.some.injEq] at h; subst h; cases hn
  | x :: xs, vs, h, hn => by
    simp only [capsOf] at h
    split at h
    · rename_i v us hv hus
      obtain rfl := Option.some.inj h
      simp only [hasL, Bool.or_eq_true] at hn
      rcases hn with hn | hn
      · exact ⟨x, by simp, by rw [hv]; exact hn⟩
      · obtain ⟨y, h1, h2⟩ := capsOf_has xs us hus hn
        exact ⟨y, by simp [h1], h2⟩
    · cases h

theorem flatten_has {zs : List CV} {nm : Nat} (h : hasL nm zs = false) : ∀ m, hasL nm (List.replicate m zs).flatten = false
  | 0 => rfl
  | m + 1 => by rw [List.replicate_succ, List.flatten_cons, hasL_append, h, flatten_has h m]; rfl

theorem chunk_has {sz nm : Nat} : ∀ (k : Nat) (cs : List CV), hasRows nm (chunk sz k cs) = true → hasL nm cs = true
  | 0, cs, h => by cases h
  | k + 1, cs, h => by
    simp only [chunk, hasRows, Bool.or_eq_true] at h
    rcases h with h | h
    · obtain ⟨c, h1, h2⟩ := hasL_ex h; exact hasL_mem (List.mem_of_mem_take h1) h2
    · have := chunk_has k _ h
      obtain ⟨c, h1, h2⟩ := hasL_ex this; exact hasL_mem (List.mem_of_mem_drop h1) h2

/-- Operations whose value may lead to what their operands lead to. -/
def carries (o : Oper) : Bool :=
  match o.op with
  | .move _ | .assign _ | .nilCheck _ | .pick _ _ _ | .build _ _ | .field _ _ _ | .extract _ _ | .index _ _ _ | .indexAddr _ _ _ | .fieldAddr _ _ _ | .makeFunc _ _ _ | .makeInterface _ _ | .typeAssert _ _ _ _ | .slice _ _ _ _ _ => true
  | _ => false
/-- Operations whose value may lead to what memory leads to. -/
def loads (o : Oper) : Bool :=
  match o.op with
  | .load _ _ => true
  | .lookup _ _ _ _ => true
  | _ => false

theorem quiet_src (hT : TOk P T) {o : Oper} {sv : SV} (hq : quiet T s o = some sv) {nm : Nat} (hr : sv.has nm = true) :
    (carries o = true ∧ ∃ t ∈ tmpsOf o, (s.slots t).has nm = true) ∨ (loads o = true ∧ (∃ t ∈ tmpsOf o, ∃ k, (s.slots t).has k = true) ∧ ∃ k blk, s.heap k = some blk ∧ blk.has nm = true) := by
  have hd := fun (x : Operand) (hx : x ∈ o.op.operands.toList) (ty k : Nat) (h : (rd T s ty x).has k = true) => rd_has (T := T) hx h
  have mm : ∀ {l : List CV} {c : CV} {i : Nat}, l[i]? = some c → c.has nm = true → hasL nm l = true := fun h1 h2 => hasL_mem (List.mem_of_getElem? h1) h2
  have ms : ∀ {l : List CV} {i j : Nat}, hasL nm ((l.drop i).take j) = true → hasL nm l = true := fun h => by
    obtain ⟨c, h1, h2⟩ := hasL_ex h; exact hasL_mem (List.mem_of_mem_drop (List.mem_of_mem_take h1)) h2
  unfold quiet at hq
  split at hq
  · rename_i x hop
    obtain rfl := Option.some.inj hq
    exact .inl ⟨by simp [carries, hop], hd x (by rw [hop]; simp [Op.operands]) _ _ hr⟩
  · rename_i x hop
    obtain rfl := Option.some.inj hq
    exact .inl ⟨by simp [carries, hop], hd x (by rw [hop]; simp [Op.operands]) _ _ hr⟩
  · rename_i x hop
    refine .inl ⟨by simp [carries, hop], hd x (by rw [hop]; simp [Op.operands]) o.type _ ?_⟩
    split at hq <;> first | (rename_i hs; rw [hs]; obtain rfl := Option.some.inj hq; exact hr) | cases hq
  · rename_i c x y hop
    split at hq
    · rename_i B hB
      obtain rfl := Option.some.inj hq
      cases B
      · exact .inl ⟨by simp [carries, hop], hd y (by rw [hop]; simp [Op.operands]) _ _ hr⟩
      · exact .inl ⟨by simp [carries, hop], hd x (by rw [hop]; simp [Op.operands]) _ _ hr⟩
    · cases hq
  · split at hq
    · obtain rfl := Option.some.inj hq; cases hr
    · split at hq
      · split at hq
        · split at hq
          · obtain rfl := Option.some.inj hq; cases hr
          · cases hq
        · cases hq
      · cases hq
  · split at hq
    · obtain rfl := Option.some.inj hq; cases hr
    · cases hq
  · split at hq
    · split at hq
      · obtain rfl := Option.some.inj hq; cases hr
      · cases hq
    · split at hq
      · obtain rfl := Option.some.inj hq; cases hr
      · cases hq
    · cases hq
  · rename_i t parts hop
    split at hq
    · rename_i ti ht
      split at hq
      · split at hq
        · rename_i cs hcs
          obtain rfl := Option.some.inj hq
          rcases layParts_has _ _ _ hcs hr with h1 | ⟨p, h1, h2⟩
          · rw [zero_has hT ht] at h1; cases h1
          · exact .inl ⟨by simp [carries, hop], hd p.2 (by rw [hop]; simp [Op.operands]; exact ⟨p.1, by simpa using h1⟩) _ _ h2⟩
        · cases hq
      · cases hq
    · cases hq
  · rename_i t x f hop
    refine .inl ⟨by simp [carries, hop], hd x (by rw [hop]; simp [Op.operands]) t _ ?_⟩
    split at hq
    · rename_i ti cs ht hx
      rw [hx]
      split at hq
      · split at hq
        · split at hq
          · split at hq
            · obtain rfl := Option.some.inj hq; exact ms hr
            · split at hq
              · rename_i c hc
                obtain rfl := Option.some.inj hq; exact mm hc hr
              · cases hq
          · cases hq
        · cases hq
      · cases hq
    · cases hq
  · rename_i t i hop
    refine .inl ⟨by simp [carries, hop], hd t (by rw [hop]; simp [Op.operands]) 0 _ ?_⟩
    split at hq
    · rename_i vs hx
      rw [hx]
      split at hq
      · rename_i v hv
        obtain rfl := Option.some.inj hq
        refine hasA_mem (List.mem_of_getElem? hv) ?_
        cases v <;> exact hr
      · cases hq
    · cases hq
  · rename_i t x i hop
    refine .inl ⟨by simp [carries, hop], hd x (by rw [hop]; simp [Op.operands]) t _ ?_⟩
    split at hq
    · split at hq
      · split at hq
        · split at hq
          · obtain rfl := Option.some.inj hq; cases hr
          · cases hq
        · cases hq
      · cases hq
    · rename_i ti cs k m ht hx hi
      rw [hx]
      split at hq
      · split at hq
        · split at hq
          · split at hq
            · obtain rfl := Option.some.inj hq; exact ms hr
            · split at hq
              · rename_i c hc
                obtain rfl := Option.some.inj hq; exact mm hc hr
              · cases hq
          · cases hq
        · cases hq
      · cases hq
    · cases hq
  · rename_i t x i hop
    refine .inl ⟨by simp [carries, hop], hd x (by rw [hop]; simp [Op.operands]) t _ ?_⟩
    split at hq
    · split at hq
      · split at hq
        · split at hq
          · split at hq
            · obtain rfl := Option.some.inj hq; cases hr
            · cases hq
          · cases hq
        · cases hq
      · cases hq
    · rename_i hx hi
      rw [hx]
      split at hq
      · split at hq
        · split at hq
          · obtain rfl := Option.some.inj hq; exact hr
          · cases hq
        · cases hq
      · cases hq
    · rename_i hx hi
      rw [hx]
      split at hq
      · split at hq
        · split at hq
          · obtain rfl := Option.some.inj hq; exact hr
          · cases hq
        · cases hq
      · cases hq
    · split at hq
      · split at hq
        · split at hq
          · obtain rfl := Option.some.inj hq; cases hr
          · cases hq
        · cases hq
      · cases hq
    · cases hq
  · rename_i t x f hop
    refine .inl ⟨by simp [carries, hop], hd x (by rw [hop]; simp [Op.operands]) t _ ?_⟩
    split at hq
    · rename_i hx
      rw [hx]
      split at hq
      · split at hq
        · split at hq
          · split at hq
            · cases hq
            · obtain rfl := Option.some.inj hq; exact hr
          · cases hq
        · cases hq
      · cases hq
    · split at hq
      · split at hq
        · split at hq
          · split at hq
            · cases hq
            · obtain rfl := Option.some.inj hq; cases hr
          · cases hq
        · cases hq
      · cases hq
    · cases hq
  · rename_i t x hop
    split at hq
    · rename_i ti cs ht hx
      exfalso
      split at hq
      · split at hq
        · obtain rfl := Option.some.inj hq
          rw [show SV.has nm (.agg ((cs.take ti.size).map CV.t)) = hasL nm ((cs.take ti.size).map CV.t) from rfl, hasL_up] at hr; cases hr
        · cases hq
      · split at hq
        · obtain rfl := Option.some.inj hq; cases hr
        · cases hq
    · rename_i ti k i0 o0 ht hx
      refine .inr ⟨by simp [loads, hop], ?_, ?_⟩
      · obtain ⟨t9, h1, h2⟩ := hd x (by rw [hop]; simp [Op.operands]) 0 k (by rw [hx]; simp [SV.has, CV.has])
        exact ⟨t9, h1, k, h2⟩
      · split at hq
        · rename_i sz rows hb
          refine ⟨k, _, hb, ?_⟩
          split at hq
          · rename_i row hrow
            split at hq
            · split at hq
              · obtain rfl := Option.some.inj hq
                obtain ⟨c, h1, h2⟩ := hasL_ex hr
                obtain ⟨c0, h3, rfl⟩ := List.mem_map.1 h1
                exact hasRows_mem (List.mem_of_getElem? hrow) (List.mem_of_mem_drop (List.mem_of_mem_take h3)) (copy_has h2)
              · cases hq
            · split at hq
              · rename_i c hc
                obtain rfl := Option.some.inj hq
                exact hasRows_mem (List.mem_of_getElem? hrow) (List.mem_of_getElem? hc) (copy_has hr)
              · cases hq
          · cases hq
        · cases hq
    · cases hq
  · exfalso
    unfold quietCall at hq
    split at hq
    · split at hq
      · split at hq
        · split at hq
          · obtain rfl := Option.some.inj hq; cases hr
          · split at hq
            · obtain rfl := Option.some.inj hq; cases hr
            · cases hq
        · cases hq
      · split at hq
        · obtain rfl := Option.some.inj hq; cases hr
        · cases hq
      · split at hq
        · obtain rfl := Option.some.inj hq; cases hr
        · cases hq
      · cases hq
    · cases hq
  · rename_i f a b hop
    split at hq
    · rename_i us vs hus hvs
      obtain rfl := Option.some.inj hq
      simp only [SV.has, CV.has, Bool.or_eq_true] at hr
      refine .inl ⟨by simp [carries, hop], ?_⟩
      rcases hr with hr | hr
      · obtain ⟨x, h1, h2⟩ := capsOf_has _ _ hus hr
        exact hd x (by rw [hop]; simp [Op.operands]; exact .inl (by simpa using h1)) _ _ h2
      · obtain ⟨x, h1, h2⟩ := capsOf_has _ _ hvs hr
        exact hd x (by rw [hop]; simp [Op.operands]; exact .inr (by simpa using h1)) _ _ h2
    · cases hq
  · rename_i t x hop
    refine .inl ⟨by simp [carries, hop], hd x (by rw [hop]; simp [Op.operands]) t _ ?_⟩
    split at hq
    · rename_i hx
      rw [hx]
      split at hq
      · cases hq
      · obtain rfl := Option.some.inj hq
        simpa [SV.has, CV.has, hasL] using hr
    · rename_i hx
      rw [hx]
      split at hq
      · cases hq
      · obtain rfl := Option.some.inj hq; exact hr
    · cases hq
  · rename_i x xt ty hop
    refine .inl ⟨by simp [carries, hop], hd x (by rw [hop]; simp [Op.operands]) 0 _ ?_⟩
    split at hq
    · rename_i ti t g cs ht hx
      rw [hx]
      split at hq
      · cases hq
      · split at hq
        · split at hq
          · obtain rfl := Option.some.inj hq; exact hr
          · split at hq
            · obtain rfl := Option.some.inj hq
              simpa [SV.has, CV.has, hasL] using hr
            · cases hq
        · cases hq
    · cases hq
  · rename_i t x lo hi hop
    refine .inl ⟨by simp [carries, hop], hd x (by rw [hop]; simp [Op.operands]) t _ ?_⟩
    split at hq
    · split at hq
      · split at hq
        · split at hq
          · obtain rfl := Option.some.inj hq; cases hr
          · cases hq
        · cases hq
      · cases hq
    · split at hq
      · split at hq
        · split at hq
          · obtain rfl := Option.some.inj hq; cases hr
          · cases hq
        · cases hq
      · cases hq
    · rename_i hx
      rw [hx]
      split at hq
      · split at hq
        · split at hq
          · obtain rfl := Option.some.inj hq; exact hr
          · cases hq
        · cases hq
      · cases hq
    · split at hq
      · split at hq
        · split at hq
          · obtain rfl := Option.some.inj hq; simp [SV.has, CV.has, hasRows] at hr
          · cases hq
        · cases hq
      · cases hq
    · split at hq
      · split at hq
        · obtain rfl := Option.some.inj hq; cases hr
        · cases hq
      · cases hq
    · cases hq
  · exfalso
    split at hq
    · split at hq
      · split at hq <;> first | (obtain rfl := Option.some.inj hq; simp [SV.has, CV.has, hasRows] at hr; done) | cases hq
      · cases hq
    · cases hq
  · rename_i t x i ok hop
    unfold lookupS at hq
    split at hq
    · rename_i ti ht
      split at hq
      · rename_i kt vt hk
        split at hq
        · rename_i tk te es ka htk hte hes hka
          have hAv : ∀ v : AV, (if ok = true then SV.tup [v, .v (.t (.bool true))] else v.sv).has nm = true → v.has nm = true := fun v h => by
            cases ok
            · cases v <;> exact h
            · simpa [SV.has, hasA, AV.has, CV.has] using h
          have hAz : ∀ v : AV, (if ok = true then SV.tup [v, .v (.t (.bool false))] else v.sv).has nm = true → v.has nm = true := fun v h => by
            cases ok
            · cases v <;> exact h
            · simpa [SV.has, hasA, AV.has, CV.has] using h
          split at hq
          · rename_i j v _ hm
            obtain rfl := Option.some.inj hq
            have hv := hAv v hr
            obtain ⟨e, he, rfl⟩ := mfind_mem hm
            refine .inr ⟨by simp [loads, hop], ?_⟩
            unfold esOf at hes
            split at hes
            · obtain rfl := Option.some.inj hes; cases he
            · rename_i k hx
              split at hes
              · rename_i clock es' hb
                obtain rfl := Option.some.inj hes
                refine ⟨?_, k, _, hb, hasM_mem he (.inr hv)⟩
                obtain ⟨t9, h1, h2⟩ := hd x (by rw [hop]; simp [Op.operands]) t k (by rw [hx]; simp [SV.has, CV.has])
                exact ⟨t9, h1, k, h2⟩
              · cases hes
            · cases hes
          · exfalso
            split at hq
            · rename_i z hz
              obtain rfl := Option.some.inj hq
              have hv := hAz z hr
              have hzz := zero_has hT hte nm
              unfold zeroAV at hz
              split at hz
              · obtain rfl := Option.some.inj hz
                rw [show AV.has nm (.agg te.zero) = hasL nm te.zero from rfl, hzz] at hv; cases hv
              · split at hz
                · rename_i c hc
                  obtain rfl := Option.some.inj hz
                  rw [hc] at hzz
                  simp [hasL] at hzz
                  rw [show AV.has nm (.v c) = c.has nm from rfl, hzz] at hv; cases hv
                · cases hz
            · cases hq
          · cases hq
        · cases hq
      · cases hq
    · cases hq
  · cases hq
end
end Go.Proofs.Ytgmjgognpabmdaa.Fx
