import Derived.Test.YteoddaeipckgcaaEv2
namespace Go.Proofs.Yteoddaeipckgcaa.Ev
set_option linter.unusedSimpArgs false
set_option linter.unusedVariables false
open Go Go.RowKit

variable {P : Program} {T : TypeId → Option TI}

theorem add_at (b o n : Nat) : (⟨b, o, none⟩ : Addr).add n = ⟨b, o + n, none⟩ := by
  unfold Addr.add
  split <;> simp_all

theorem info_of {t : TypeId} {ti : TI} (h : TIOk P t ti) : ∃ info, P.info? t = some info ∧ info.size = ti.size ∧ info.bytes = ti.bytes := by
  obtain ⟨i, z, h1, h2, h3, _⟩ := h.info
  exact ⟨i, h1, h2, h3⟩

theorem run_size {t : TypeId} {ti : TI} (h : TIOk P t ti) (w : World) : (sizeOf t).run P w = .ok ti.size w := by
  obtain ⟨i, h1, h2, _⟩ := info_of h
  simp [sizeOf, typeInfo, h1, h2]

theorem run_under {t : TypeId} {d : TypeDesc} (h : P.underlying t = some d) (w : World) : (underlying t).run P w = .ok d w := by
  simp [underlying, h]

theorem run_agg {t : TypeId} {ti : TI} (h : TIOk P t ti) (w : World) : (isAgg t).run P w = .ok ti.k.isAgg w := by
  obtain ⟨d, hd, hf⟩ := h.kind
  cases hk : ti.k <;> simp only [hk, TK.fits] at hf
  case struct fs => obtain ⟨fields, rfl, _⟩ := hf; simp [isAgg, run_under hd, TK.isAgg]
  all_goals subst hf; simp [isAgg, run_under hd, TK.isAgg]

theorem tvr_bool {hw : Nat → Nat} {w : World} {b : Bool} {x : Value} (h : TVR hw w (.bool b) x) : x = .bool b := by cases h; rfl
theorem tvr_int {hw : Nat → Nat} {w : World} {k : IntKind} {n : Int} {x : Value} (h : TVR hw w (.int k n) x) : x = .int k n := by cases h; rfl
theorem tvr_str {hw : Nat → Nat} {w : World} {s : ByteArray} {x : Value} (h : TVR hw w (.str s) x) : x = .string s := by cases h; rfl
theorem tvr_nilp {hw : Nat → Nat} {w : World} {x : Value} (h : TVR hw w .nilp x) : x = .pointer none := by cases h; rfl

/-- What is read of a slot, wherever it is laid. -/
def Q (G : Gh) (w : World) (base : Nat) (heap : Nat → Option Blk) (sv : SV) (x : Value) : Prop := ∀ t, SVR G w base heap t sv x

theorem Q.tv {G : Gh} {w : World} {base : Nat} {heap : Nat → Option Blk} {v : TV} {x : Value} : Q G w base heap (.c (.t v)) x ↔ TVR G.hw w v x :=
  ⟨fun h => h 0, fun h _ => h⟩

theorem Q.undef {G : Gh} {w : World} {base : Nat} {heap : Nat → Option Blk} {x : Value} : Q G w base heap .undef x := fun _ => trivial

theorem CVR.tree {G : Gh} {w : World} {base : Nat} {loc : Loc} {c : CV} {x : Value} (h : CVR G w base loc c x) : TVR G.hw w c.tv x := by
  cases c with
  | t v => exact h
  | own sz rows => exact OwnR.tree h

theorem AggR.tree {hw : Nat → Nat} {w : World} {c : CV} {x : Value} (h : AggR hw w c x) : TVR hw w c.tv x := by
  cases c with
  | t v => exact h
  | own sz rows => obtain ⟨rfl, rfl⟩ := h; exact .nil _ _ _

theorem drop_q {G : Gh} {w : World} {base : Nat} {heap : Nat → Option Blk} {t : Nat} {sv : SV} {x : Value} (h : SVR G w base heap t sv x) : Q G w base heap sv.drop x := by
  cases sv with
  | c v => intro t'; exact CVR.tree h
  | undef => exact Q.undef
  | agg cs => exact fun _ => h
  | tup vs => exact fun _ => h
  | fp cells => exact fun _ => h
  | mr nm lo len => exact fun _ => h
  | mp nm i o => exact fun _ => h

theorem rety_q {G : Gh} {w : World} {base : Nat} {heap : Nat → Option Blk} {ty : TypeId} {sv : SV} {x : Value} (h : Q G w base heap sv x) : Q G w base heap (rety T ty sv) x := by
  unfold rety
  split
  · have : ∀ sz', Q G w base heap (.c (.own sz' [])) x := by
      intro sz' t
      rcases h t with ⟨_, rfl⟩ | ⟨_, _, _, _, _, hne, _⟩
      · exact .inl ⟨rfl, rfl⟩
      · exact absurd rfl hne
    split
    · split
      · split <;> exact this _
      · exact this _
    · exact this _
  · exact h

theorem cst_q {G : Gh} {w : World} {base : Nat} {heap : Nat → Option Blk} (v : Value) : Q G w base heap (cst v) v := by
  unfold cst
  split
  · exact Q.tv.2 (.bool _)
  · exact Q.tv.2 (.int _ _)
  · exact Q.tv.2 (.str _)
  · exact fun _ => .inl ⟨rfl, rfl⟩
  · exact Q.tv.2 .nilp
  · exact Q.undef

theorem rd_q {n : Nat} {w0 : World} {hw0 : Nat → Nat} {G : Gh} {st : St} {a : Act} {w : World} (hR : R n w0 hw0 G st a w) (ty : TypeId) (x : Operand) :
    Q G w w0.heap.size st.heap (rd T st ty x) (a.eval x) := by
  cases x with
  | tmp t => exact drop_q (hR.slots t)
  | const v => exact rety_q (cst_q v)
  | global g => exact Q.undef
  | func f => exact Q.undef

theorem intOp_ok {op : BinOp} {k : IntKind} {x y : Int} {v : TV} (h : intOp op k x y = some v) (hs : op ≠ .shl ∧ op ≠ .shr) (w : World) (ty : TypeId) (hw : Nat → Nat) :
    ∃ r, (Go.binOp op ty (.int k x) (.int k y)).run P w = .ok r w ∧ TVR hw w v r := by
  cases op <;> simp only [intOp, Option.some.injEq, reduceCtorEq] at h
  case quo => split at h; · cases h
              rename_i hy; obtain rfl := Option.some.inj h
              exact ⟨_, by simp [Go.binOp, Op.intDiv, hy] <;> rfl, .int _ _⟩
  case rem => split at h; · cases h
              rename_i hy; obtain rfl := Option.some.inj h
              exact ⟨_, by simp [Go.binOp, Op.intDiv, hy] <;> rfl, .int _ _⟩
  all_goals
    subst h
    first
      | exact ⟨_, by simp [Go.binOp, Op.intArith, Op.intBits, Op.intCmp] <;> rfl, .int _ _⟩
      | exact ⟨_, by simp [Go.binOp, Op.intArith, Op.intBits, Op.intCmp] <;> rfl, .bool _⟩

theorem shiftOp_ok {op : BinOp} {k k' : IntKind} {x y : Int} {v : TV} (h : shiftOp op k x y = some v) (w : World) (ty : TypeId) (hw : Nat → Nat) :
    ∃ r, (Go.binOp op ty (.int k x) (.int k' y)).run P w = .ok r w ∧ TVR hw w v r := by
  unfold shiftOp at h
  split at h
  · cases h
  · rename_i hy
    cases op <;> simp only [Option.some.injEq, reduceCtorEq] at h
    case shl => subst h; exact ⟨_, by simp [Go.binOp, Op.shift, hy] <;> rfl, .int _ _⟩
    case shr => subst h; exact ⟨_, by simp [Go.binOp, Op.shift, hy] <;> rfl, .int _ _⟩

theorem strOp_ok {op : BinOp} {x y : ByteArray} {v : TV} (h : strOp op x y = some v) (w : World) (ty : TypeId) (hw : Nat → Nat) :
    ∃ r, (Go.binOp op ty (.string x) (.string y)).run P w = .ok r w ∧ TVR hw w v r := by
  cases op <;> simp only [strOp, Option.some.injEq, reduceCtorEq] at h
  all_goals
    subst h
    exact ⟨_, by simp [Go.binOp, Op.stringOp] <;> rfl, .bool _⟩

theorem eqTV_ok {t : TypeId} {ti : TI} (ht : TIOk P t ti) {x y : TV} {b : Bool} (h : eqTV ti.k x y = some b) {hw : Nat → Nat} {w : World} {u v : Value} (hx : TVR hw w x u) (hy : TVR hw w y v) (d : Nat) :
    ti.k.isAgg = false ∧ (Op.equalIn (d + 1) t u v).run P w = .ok b w := by
  obtain ⟨dd, hd, hf⟩ := ht.kind
  cases x <;> cases y <;> simp only [eqTV, reduceCtorEq] at h
  case bool.bool a c =>
    cases hk : ti.k <;> simp only [hk, reduceCtorEq, Option.some.injEq, TK.fits] at h hf
    subst h hf
    rw [tvr_bool hx, tvr_bool hy]
    exact ⟨rfl, by simp [Op.equalIn, run_under hd]⟩
  case int.int i a j c =>
    cases hk : ti.k <;> simp only [hk, reduceCtorEq, TK.fits] at h hf
    split at h
    · rename_i hij
      obtain rfl := Option.some.inj h
      subst hf hij
      rw [tvr_int hx, tvr_int hy]
      exact ⟨rfl, by simp [Op.equalIn, run_under hd]⟩
    · cases h
  case str.str a c =>
    cases hk : ti.k <;> simp only [hk, reduceCtorEq, Option.some.injEq, TK.fits] at h hf
    subst h hf
    rw [tvr_str hx, tvr_str hy]
    exact ⟨rfl, by simp [Op.equalIn, run_under hd]; rw [beq_toListBytes]⟩

theorem eqCells_ok (hT : TOk P T) {xs ys : List CV} {us vs : List Value} {hw : Nat → Nat} {w : World} (hx : All2 (AggR hw w) xs us) (hy : All2 (AggR hw w) ys vs) (d : Nat) :
    ∀ (fields : List Field) (b : Bool), fields.all (fun f => f.name != "_") = true → eqCells T xs ys (fields.map fun f => (f.type, f.offset)) = some b →
      (Op.eqFields (d + 1) us.toArray vs.toArray fields).run P w = .ok b w
  | [], b, _, h => by simp [eqCells] at h; subst h; simp [Op.eqFields]
  | f :: fs, b, hn, h => by
    simp only [List.all_cons, Bool.and_eq_true, bne_iff_ne] at hn
    simp only [List.map_cons, eqCells] at h
    split at h
    · rename_i ti x y ht hxo hyo
      split at h
      · rename_i c hc
        split at h
        · rename_i r hr
          obtain rfl := Option.some.inj h
          obtain ⟨u, hu, hxu⟩ := hx.get _ _ hxo
          obtain ⟨v, hv, hyv⟩ := hy.get _ _ hyo
          obtain ⟨hag, he⟩ := eqTV_ok (hT _ _ ht) hc hxu.tree hyv.tree d
          have ih := eqCells_ok hT hx hy d fs r hn.2 hr
          simp only [Op.eqFields, if_pos hn.1, Sem.run_bind, part, run_agg (hT _ _ ht), hag, Result.andThen_ok, Bool.false_eq_true, if_false, List.getElem?_toArray, hu, hv, Sem.run_pure, he]
          cases c
          · simp
          · simp [ih]
        · cases h
      · cases h
    · cases h

theorem run_eqGuard_plain (op : BinOp) (t : TypeId) (xo yo : Operand) {x y : TV} {hw : Nat → Nat} {w : World} {u v : Value} (hx : TVR hw w x u) (hy : TVR hw w y v) : (eqGuard op t xo yo u v).run P w = .ok () w := by
  cases hx <;> cases hy <;> cases op <;> simp [eqGuard]

theorem binS_ok (hT : TOk P T) {op : BinOp} {ty : TypeId} {X Y : SV} {v : TV} (h : binS T op ty X Y = some v) (xo yo : Operand) {G : Gh} {w : World} {base : Nat} {heap : Nat → Option Blk} {x y : Value}
    (hx : Q G w base heap X x) (hy : Q G w base heap Y y) : ∃ r, ((do eqGuard op ty xo yo x y; Go.binOp op ty x y) : Sem Value).run P w = .ok r w ∧ TVR G.hw w v r := by
  unfold binS at h
  split at h
  · rename_i k a k' b
    have ha := Q.tv.1 hx
    have hb := Q.tv.1 hy
    simp only [Sem.run_bind, run_eqGuard_plain op ty xo yo ha hb, Result.andThen_ok]
    rw [tvr_int ha, tvr_int hb]
    split at h
    · exact shiftOp_ok h w ty G.hw
    · exact shiftOp_ok h w ty G.hw
    · rename_i h1 h2
      split at h
      · rename_i hk; subst hk
        exact intOp_ok h ⟨h1, h2⟩ w ty G.hw
      · cases h
  · have ha := Q.tv.1 hx
    have hb := Q.tv.1 hy
    simp only [Sem.run_bind, run_eqGuard_plain op ty xo yo ha hb, Result.andThen_ok]
    rw [tvr_str ha, tvr_str hb]
    exact strOp_ok h w ty G.hw
  · have ha := Q.tv.1 hx
    have hb := Q.tv.1 hy
    simp only [Sem.run_bind, run_eqGuard_plain op ty xo yo ha hb, Result.andThen_ok]
    rw [tvr_bool ha, tvr_bool hb]
    split at h
    · rename_i ti ht
      obtain ⟨d, hd, hf⟩ := (hT _ _ ht).kind
      split at h
      · rename_i hk
        obtain rfl := Option.some.inj h
        simp only [hk, TK.fits] at hf; subst hf
        exact ⟨_, (by show ((do pure (.bool (← Op.equal ty _ _)) : Sem Value)).run P w = _; rw [Sem.run_bind, run_equal_bool w ty _ _ hd]; rfl), .bool _⟩
      · rename_i hk
        obtain rfl := Option.some.inj h
        simp only [hk, TK.fits] at hf; subst hf
        exact ⟨_, (by show ((do pure (.bool (!(← Op.equal ty _ _))) : Sem Value)).run P w = _; rw [Sem.run_bind, run_equal_bool w ty _ _ hd]; rfl), .bool _⟩
      · cases h
    · cases h
  · rename_i xs ys
    obtain ⟨us, rfl, hxs⟩ := hx 0
    obtain ⟨vs, rfl, hys⟩ := hy 0
    split at h
    · rename_i ti ht
      split at h
      · rename_i fs hk
        split at h
        · rename_i hc
          obtain ⟨hst, hg⟩ := (hT _ _ ht).cmp hc
          obtain ⟨d, hd, hf⟩ := (hT _ _ ht).kind
          simp only [hk, TK.fits] at hf
          obtain ⟨fields, rfl, hfs, hnm⟩ := hf
          have hfo : P.fieldsOf ty = fields := by simp [Program.fieldsOf, hd]
          have key : ∀ b, eqCells T xs ys fs = some b → (Op.equal ty (.agg us.toArray) (.agg vs.toArray)).run P w = .ok b w := by
            intro b hb
            show (Op.equalIn (9999 + 1) ty _ _).run P w = _
            rw [run_equalIn_struct w 9999 ty _ _ (by rw [hfo]; exact hd) hst, hfo]
            exact eqCells_ok hT hxs hys 9998 fields.toList b hnm (by rw [hfs]; exact hb)
          split at h
          · rename_i b hb
            obtain rfl := Option.some.inj h
            exact ⟨.bool b, by simp [run_eqGuard_agg w _ ty xo yo _ _ hg, Go.binOp, key b hb], .bool _⟩
          · rename_i b hb
            obtain rfl := Option.some.inj h
            exact ⟨.bool !b, by simp [run_eqGuard_agg w _ ty xo yo _ _ hg, Go.binOp, key b hb], .bool _⟩
          · cases h
        · cases h
      · cases h
    · cases h
  · cases h

theorem unS_ok {op : UnOp} {X : SV} {v : TV} (h : unS op X = some v) {G : Gh} {w : World} {base : Nat} {heap : Nat → Option Blk} {x : Value} (hx : Q G w base heap X x) :
    ∃ r, (Op.unary op x).run P w = .ok r w ∧ TVR G.hw w v r := by
  unfold unS at h
  split at h
  · rw [tvr_bool (Q.tv.1 hx)]
    split at h
    · obtain rfl := Option.some.inj h; exact ⟨_, by simp [Op.unary] <;> rfl, .bool _⟩
    · cases h
  · rename_i k n
    rw [tvr_int (Q.tv.1 hx)]
    split at h
    · obtain rfl := Option.some.inj h; exact ⟨_, by simp [Op.unary, Op.intArith] <;> rfl, .int _ _⟩
    · obtain ⟨r, hr, hv⟩ := intOp_ok (P := P) h ⟨by simp, by simp⟩ w 0 G.hw
      exact ⟨r, by simpa [Op.unary, Go.binOp] using hr, hv⟩
    · cases h
  · cases h
end Go.Proofs.Yteoddaeipckgcaa.Ev
