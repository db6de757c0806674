/- Words that the walks share: numbers, truth values, lists of numbers; a guard that isn't decided. -/
import Derived.Test.YtgmjgognpabmdaaFxT
namespace Go.Proofs.Ytgmjgognpabmdaa.Fx
open Go Go.RowKit
set_option linter.unusedSimpArgs false
set_option linter.unusedVariables false
abbrev I (n : Int) : SV := .c (.t (.int .i64 n))
abbrev B (b : Bool) : SV := .c (.t (.bool b))
/-- A tree in a slot. -/
abbrev V (x : TV) : SV := .c (.t x)
/-- A list of numbers, as rows. -/
def ints (v : List Int) : List (List TV) := v.map fun x => [.int .i64 x]
def vec (v : List Int) : TV := .sl 1 (ints v)
def vecs (vs : List (List Int)) : TV := .sl 1 (vs.map fun v => [vec v])
theorem ints_get (v : List Int) (i : Nat) : (ints v)[i]? = (v[i]?).map fun x => [.int .i64 x] := by simp [ints]
theorem ints_len (v : List Int) : (ints v).length = v.length := by simp [ints]
theorem wI {n : Int} (h0 : -9223372036854775808 ≤ n) (h1 : n ≤ 9223372036854775807) : IntKind.wrap .i64 n = n := by
  rw [IntKind.wrap_i64]; omega
theorem wUp {k n : Nat} (h : k < n) (hn : n ≤ 4611686018427387904) : IntKind.wrap .i64 ((k : Int) + 1) = ((k + 1 : Nat) : Int) := by rw [wI (by omega) (by omega)]; omega
/-- A length that no memory outgrows. -/
abbrev Sized (n : Nat) : Prop := n ≤ 17592186043904
theorem ite_guard {c : Prop} [Decidable c] {X Y : Prop} (h1 : c → X) (h2 : ¬ c → Y) : if c then X else Y := by
  by_cases h : c
  · rw [if_pos h]; exact h1 h
  · rw [if_neg h]; exact h2 h
theorem get_of_lt {α : Type} {l : List α} {k : Nat} (h : k < l.length) : l[k]? = some l[k] := List.getElem?_eq_getElem h
theorem tt {p : Prop} (h : p) : p = True := eq_true h
theorem ff {p : Prop} (h : ¬ p) : p = False := eq_false h
theorem ltI {k n : Nat} (h : k < n) : ((k : Int) < (n : Int)) = True := eq_true (by omega)
theorem nltI {k n : Nat} (h : ¬ k < n) : ((k : Int) < (n : Int)) = False := eq_false (by omega)
theorem bres {b c : Bool} (h : b = true ↔ c = true) : [AV.v (.t (.bool b))] = [AV.v (.t (.bool c))] := by
  rw [Bool.eq_iff_iff.2 h]
theorem ires {k : IntKind} {b c : Int} (h : b = c) : [AV.v (.t (.int k b))] = [AV.v (.t (.int k c))] := by rw [h]
theorem fresh2_n (l : List (Nat × SV)) (nm : Option Nat) (d : Nat) : Fresh2 (mk l []) nm d = True := eq_true (fresh2_mk l [] nm d rfl)
theorem fresh_n (l : List (Nat × SV)) (d : Nat) : Fresh (mk l []) d = True := eq_true (fresh_mk l [] d rfl)
theorem s_long {E : Env} {T : TypeId → Option TI} {n : Nat} {ds : List (Option Nat)} {a b : List Oper} {K : St → Prop} {st : St} (h : wpS E T n ds (a ++ b) K st) : wpS E T n ds (a ++ b) K st := h
theorem ieq (x y : Int) : (x == y) = decide (x = y) := by by_cases h : x = y <;> simp [h]
theorem ine (x y : Int) : (x != y) = !decide (x = y) := by by_cases h : x = y <;> simp [h]
theorem eqI {a b : Nat} : ((a : Int) = (b : Int)) = (a = b) := by rw [Int.ofNat_inj]
/-! The walk's own rules, in one set. -/
/-! Maps whose keys and values are trees. -/
def upM {κ ν : Type} (g : κ → TV) (f : ν → TV) (m : List (κ × ν × Nat)) : List (AV × AV × Nat) := m.map fun e => (.v (.t (g e.1)), .v (.t (f e.2.1)), e.2.2)
def pfind {κ ν : Type} [DecidableEq κ] (k : κ) : List (κ × ν × Nat) → Option (Nat × ν)
  | [] => none
  | e :: es => if k = e.1 then some (0, e.2.1) else (pfind k es).map fun p => (p.1 + 1, p.2)
theorem upM_nil {κ ν : Type} (g : κ → TV) (f : ν → TV) : upM g f [] = [] := rfl
theorem mfind_I {T : TypeId → Option TI} {tk : TI} {ν : Type} (f : ν → TV) (k : Int) : ∀ m : List (Int × ν × Nat), mfind T tk (.v (.t (.int .i64 k))) (upM (TV.int .i64) f m) = some ((pfind k m).map fun p => (p.1, .v (.t (f p.2))))
  | [] => rfl
  | e :: m => by
    have ih := mfind_I (T := T) (tk := tk) f k m
    unfold upM at ih
    simp only [upM, List.map_cons, mfind, keyEq, scEq, if_true, pfind, ih]
    by_cases h : k = e.1
    · simp [h]
    · simp only [h, decide_false, if_false]
      cases pfind k m <;> rfl
theorem mfind_S {T : TypeId → Option TI} {tk : TI} {ν : Type} (f : ν → TV) (k : ByteArray) : ∀ m : List (ByteArray × ν × Nat), mfind T tk (.v (.t (.str k))) (upM TV.str f m) = some ((pfind k m).map fun p => (p.1, .v (.t (f p.2))))
  | [] => rfl
  | e :: m => by
    have ih := mfind_S (T := T) (tk := tk) f k m
    unfold upM at ih
    simp only [upM, List.map_cons, mfind, keyEq, scEq, if_true, pfind, ih]
    by_cases h : k = e.1
    · simp [h]
    · simp only [h, decide_false, if_false]
      cases pfind k m <;> rfl
theorem upM_mod {κ ν : Type} (g : κ → TV) (f : ν → TV) (m : List (κ × ν × Nat)) (i : Nat) (k : κ) (v : ν) : (upM g f m).modify i (fun e => (.v (.t (g k)), .v (.t (f v)), e.2.2)) = upM g f (m.modify i fun e => (k, v, e.2.2)) := by
  induction m generalizing i with
  | nil => cases i <;> rfl
  | cons e m ih =>
    cases i with
    | zero => rfl
    | succ i =>
      simp only [upM, List.map_cons, List.modify_succ_cons] at ih ⊢
      rw [ih]
theorem upM_app {κ ν : Type} (g : κ → TV) (f : ν → TV) (m : List (κ × ν × Nat)) (k : κ) (v : ν) (c : Nat) : upM g f m ++ [(.v (.t (g k)), .v (.t (f v)), c)] = upM g f (m ++ [(k, v, c)]) := by simp [upM]
theorem hasM_up {κ ν : Type} (g : κ → TV) (f : ν → TV) (nm : Nat) : ∀ (m : List (κ × ν × Nat)), hasM nm (upM g f m) = false
  | [] => rfl
  | e :: m => by
    have ih := hasM_up g f nm m
    unfold upM at ih
    simp only [upM, List.map_cons, hasM, AV.has, CV.has, Bool.or_self, ih]
theorem ren_up {κ ν : Type} (g : κ → TV) (f : ν → TV) (ρ : Nat → Nat) (m : List (κ × ν × Nat)) : (upM g f m).map (fun e => (e.1.ren ρ, e.2.1.ren ρ, e.2.2)) = upM g f m := by
  unfold upM
  rw [List.map_map]
  refine List.map_congr_left fun e _ => ?_
  simp only [Function.comp, AV.ren, CV.ren]
theorem upM_len {κ ν : Type} (g : κ → TV) (f : ν → TV) (m : List (κ × ν × Nat)) : (upM g f m).length = m.length := by simp [upM]
attribute [go_sem] mapE shortS runM esOf zeroAV keyIs scIs shapeOk keyOf lookupS mfind_I mfind_S upM_mod upM_app hasM_up hasM upM_len Option.map_none
attribute [go_sem] namedOp namedFn ownLoad loadOwnE ownBuild quietOp keepx
attribute [go_sem] fresh2_n fresh_n ieq ine plainRows false_implies true_implies imp_self forall_const List.mem_cons List.not_mem_nil or_true true_or or_self eq_self
attribute [go_sem] Nat.zero_ne_one fresh_t fresh2_t freshL Bool.true_or Bool.or_true Bool.and_true Bool.and_self Bool.true_and guardD wpOp wpO wpE wpM runE quietE storeE
attribute [go_sem] appendE ownApp apEf leaf_up quiet quietCall lenOfC rd mk_slots mk_heap ofL hL rety cst cells CV.cells CV.copy CV.plain nameK giveK putK mk_put mk_upd mk_name mk_give delO
attribute [go_sem] del ins mapV SV.kill SV.has CV.has hasL hasA AV.has hasRows hasRows_up hasRows_append Blk.has bnd capsOf calleeOf baseOf srcOf binS eqRes intOp
attribute [go_sem] nilS SV.many shiftOp strOp unS layParts placeOf lay eqCells eqCV TK.isAgg resOf resOne resC resCL argOf argsOf argRaw argsRaw viewC viewCL viewRows viewRows_up
attribute [go_sem] viewL CV.view anyMr isMr CV.isMr chunk AV.sv up_nil up_length up_drop up_take Bool.or_self Bool.false_or Bool.or_false List.cons_append
attribute [go_sem] List.nil_append List.append_nil List.length_cons List.length_nil List.length_append List.take List.drop List.getElem?_cons_zero
attribute [go_sem] List.getElem?_cons_succ List.map_cons List.map_nil List.any_cons List.any_nil List.all_cons List.all_nil List.set_cons_zero List.replicate
attribute [go_sem] List.flatten_cons List.flatten_nil Option.getD_some Option.map_some Option.some.injEq Nat.zero_add Nat.add_zero Nat.le_refl and_true true_and and_self
attribute [go_sem] if_true if_false and_false false_and or_false false_or not_true_eq_false not_false_eq_true Bool.false_eq_true Bool.true_eq_false beq_self_eq_true
attribute [go_sem] Bool.not_true Bool.not_false Bool.true_beq Bool.false_beq beq_true beq_false Bool.not_eq_true' Bool.not_eq_false' Bool.not_eq_eq_eq_not decide_true
attribute [go_sem] decide_false decide_eq_true_eq decide_eq_false_iff_not beq_iff_eq bne_iff_ne ne_eq beq_eq_false_iff_ne Int.toNat_natCast Int.natCast_nonneg
attribute [go_sem] Int.ofNat_eq_natCast Int.cast_ofNat_Int List.isEmpty_nil
attribute [go_sem ↓] plain_up
attribute [go_sem] T_1 ty1 T_2 ty2 T_3 ty3 T_4 ty4 T_5 ty5 T_9 ty9 T_12 ty12 T_19 ty19 T_20 ty20 T_21 ty21 T_23 ty23 T_24 ty24
attribute [go_sem] T_25 ty25 T_26 ty26 T_27 ty27 T_28 ty28 T_29 ty29 T_30 ty30 T_31 ty31 T_32 ty32 T_33 ty33 T_34 ty34 T_35 ty35 T_36 ty36
attribute [go_sem] T_37 ty37 T_38 ty38 T_40 ty40 T_41 ty41 T_43 ty43 T_44 ty44 T_45 ty45 T_46 ty46 T_47 ty47 T_48 ty48 T_49 ty49 T_51 ty51
attribute [go_sem] T_53 ty53 T_54 ty54 T_55 ty55 T_56 ty56 T_57 ty57 T_58 ty58 T_59 ty59 T_61 ty61 T_62 ty62 T_63 ty63 T_64 ty64 T_65 ty65
attribute [go_sem] T_66 ty66 T_67 ty67 T_68 ty68 T_70 ty70 T_72 ty72 T_73 ty73 T_74 ty74 T_75 ty75 T_76 ty76 T_77 ty77 T_78 ty78 T_79 ty79
attribute [go_sem] T_80 ty80 T_81 ty81 T_82 ty82 T_83 ty83 T_84 ty84 T_86 ty86 T_88 ty88 T_90 ty90 T_91 ty91 T_93 ty93 T_94 ty94 T_95 ty95
attribute [go_sem] T_96 ty96 T_97 ty97 T_98 ty98 T_99 ty99 T_100 ty100 T_101 ty101 T_102 ty102 T_103 ty103 T_104 ty104 T_105 ty105 T_106 ty106 T_107 ty107
attribute [go_sem] T_109 ty109 T_110 ty110 T_111 ty111 T_112 ty112 T_114 ty114 T_115 ty115 T_116 ty116 T_117 ty117 T_118 ty118 T_119 ty119 T_120 ty120 T_121 ty121
attribute [go_sem] T_122 ty122 T_123 ty123 T_124 ty124 T_125 ty125 T_126 ty126 T_127 ty127 T_128 ty128 T_129 ty129 T_130 ty130 T_131 ty131 T_134 ty134 T_139 ty139
attribute [go_sem] T_140 ty140
end Go.Proofs.Ytgmjgognpabmdaa.Fx
