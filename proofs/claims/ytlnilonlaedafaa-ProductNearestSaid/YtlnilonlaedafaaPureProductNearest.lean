/- lodestarlaw19.ProductNearest: no codes tell a vector nearer to v than its own codes do; codes of what codes tell tell the same. -/
import Derived.Test.YtlnilonlaedafaaQTold
import Derived.Test.YtlnilonlaedafaaQAwake19
import Derived.Test.YtlnilonlaedafaaPx19
namespace Go.Proofs.Ytlnilonlaedafaa.Pure
open Go.RowKit Go.Proofs.Ytlnilonlaedafaa.P Go.Proofs.YtlnilonlaedafaaW.PrintWords Go.Proofs.YtlnilonlaedafaaW.PrintLast
open Go.Proofs.Ytlnilonlaedafaa.Q
theorem own_codes {P : List (List (List Int))} (hv : vq P = true) (v : List Int) : (codesTo P v P.length).length = P.length ∧ inRange P (codesTo P v P.length) P.length := by
  refine ⟨codesTo_length P v P.length, fun i hi => ?_⟩
  rw [codesTo_get P v P.length i hi]
  exact near_range _ _ (part_len hv i hi).1
theorem own_nearest {P : List (List (List Int))} (hv : vq P = true) (v codes : List Int) (hr : inRange P codes P.length) (i : Nat) (hi : i < P.length) : l2 (cut v (w0 P) i) (cen P (codesTo P v P.length) i) ≤ l2 (cut v (w0 P) i) (cen P codes i) := by
  obtain ⟨r1, r2⟩ := hr i hi
  have hz : ((rd codes (i : Int)).toNat : Int) = rd codes (i : Int) := Int.toNat_of_nonneg r1
  unfold cen
  rw [codesTo_get P v P.length i hi, ← hz]
  exact near_least _ _ (part_len hv i hi).1 _ (by omega)
theorem l2_zero {a b : List Int} (hb : bothB a b = true) (h : l2 a b = 0) : a = b := by
  have hl := ((bothB_iff a b).1 hb).1
  unfold l2 at h
  rw [if_pos hb] at h
  have hz := sumTo_zero (fun i _ => Go.Proofs.Ytlnilonlaedafaa.Q.sq_nonneg _) h
  apply List.ext_getElem hl
  intro i h1 h2
  have := hz i h1
  have hd : rd a (i : Int) - rd b (i : Int) = 0 := by
    rcases Int.mul_eq_zero.1 this with h | h <;> exact h
  simp only [rd, Int.toNat_natCast, List.getD_eq_getElem?_getD, List.getElem?_eq_getElem h1, List.getElem?_eq_getElem h2, Option.getD_some] at hd
  omega
theorem l2_self (a : List Int) : l2 a a = 0 := by
  unfold l2
  split
  · rw [show sumTo (fun i => (rd a (i : Int) - rd a (i : Int)) * (rd a (i : Int) - rd a (i : Int))) a.length = sumTo (fun i => 0 * (fun _ => (0 : Int)) i) a.length from sumTo_congr (fun i _ => by simp), sumTo_mul]
    simp
  · rfl
theorem told_congr (P : List (List (List Int))) (a b : List Int) : ∀ n, (∀ i, i < n → cen P a i = cen P b i) → told P a n = told P b n := by
  intro n
  induction n with
  | zero => intro _; rfl
  | succ n ih => intro h; rw [told, told, ih (fun i hi => h i (by omega)), h n (by omega)]
theorem ProductNearest : lodestarlaw19_ProductNearest.Pure := by
  intro P v codes hp hv _
  have hP : Fits P := ⟨by omega, fun p h => ⟨by have := (hp.2 p h).1; omega, fun c hc => by have := ((hp.2 p h).2 c hc).1; omega⟩⟩
  have hl : v.length ≤ 17592186044416 := by omega
  clear hp hv
  refine Ev.rounds (g := fun k => lodestarlaw19_ProductNearest.f k P v codes) ?_
  unfold lodestarlaw19_ProductNearest.f
  refine Ev.bind (encode_ev P hP v hl) (Ev.bind (decode_ev P hP _) (Ev.bind (decode_ev P hP codes) ?_))
  have hb : ∀ x, x = true → Ev (fun k => lodestarlaw19_ProductNearest.j0 k v (decodeP P (encodeP P v).1).1 (decodeP P (encodeP P v).1).2 (decodeP P codes).1 x P) true := by
    rintro x rfl
    apply Ev.step
    · intro k; rw [lodestarlaw19_ProductNearest.j0, if_pos rfl]
    · exact Ev.bind awake19_ev (Ev.now _)
  by_cases h1 : (encodeP P v).2 = 0
  · refine Ev.congr (fun k => if_pos h1) ?_
    by_cases h2 : (decodeP P codes).2 = 0
    · rw [h2]
      obtain ⟨hv, hc, hr, he⟩ := decode_ok h2
      have hf : fitsB P v = true := by
        by_cases hf : fitsB P v = true
        · exact hf
        · unfold encodeP at h1; rw [if_pos hv, if_neg hf] at h1; cases h1
      have hen : encodeP P v = (codesTo P v P.length, 0) := by unfold encodeP; rw [if_pos hv, if_pos hf]
      obtain ⟨v1, v2, v3, v4, v5, v6⟩ := (vq_iff P).1 hv
      obtain ⟨f1, f2⟩ := (fitsB_iff P v).1 hf
      have hlen : v.length = P.length * w0 P := by rw [f1, Nat.mul_comm]
      have h64 : P.length * w0 P ≤ 64 := by rw [Nat.mul_comm]; exact v6
      obtain ⟨o1, o2⟩ := own_codes hv v
      have hdo : decodeP P (codesTo P v P.length) = (told P (codesTo P v P.length) P.length, 0) := by
        rcases decode_cases P (codesTo P v P.length) hv with h | h
        · exact h.2.2
        · exact absurd ⟨o1, o2⟩ h.2
      obtain ⟨x1, x2, x3⟩ := told_spec hv (codesTo P v P.length) P.length (Nat.le_refl _) o2
      obtain ⟨t1, t2, t3⟩ := told_spec hv codes P.length (Nat.le_refl _) hr
      obtain ⟨w, hw⟩ : ∃ w, w = told P codes P.length := ⟨_, rfl⟩
      have hnear : l2 v (told P (codesTo P v P.length) P.length) ≤ l2 v (told P codes P.length) := by
        rw [l2_blocks v (told P codes P.length) (w0 P) P.length v5 v1 h64 hlen t1 f2 t2, l2_blocks v _ (w0 P) P.length v5 v1 h64 hlen x1 f2 x2]
        apply sumTo_le
        intro i hi
        rw [t3 i hi, x3 i hi]
        exact own_nearest hv v codes hr i hi
      have hfw : fitsB P (told P codes P.length) = true := (fitsB_iff P _).2 ⟨by rw [t1, Nat.mul_comm], t2⟩
      have hew : encodeP P (told P codes P.length) = (codesTo P (told P codes P.length) P.length, 0) := by unfold encodeP; rw [if_pos hv, if_pos hfw]
      obtain ⟨b1, b2⟩ := own_codes hv (told P codes P.length)
      have hdb : decodeP P (codesTo P (told P codes P.length) P.length) = (told P codes P.length, 0) := by
        rcases decode_cases P (codesTo P (told P codes P.length) P.length) hv with h | h
        · rw [h.2.2]
          rw [told_congr P _ codes P.length]
          intro i hi
          have hle := own_nearest hv (told P codes P.length) codes hr i hi
          rw [t3 i hi, l2_self] at hle
          have h0 := l2_range (cen P codes i) (cen P (codesTo P (told P codes P.length) P.length) i)
          obtain ⟨c1, c2⟩ := cen_of hv i hi _ (hr i hi).1 (hr i hi).2
          obtain ⟨d1, d2⟩ := cen_of hv i hi _ (b2 i hi).1 (b2 i hi).2
          have hw64 := w0_64 hv
          refine (l2_zero (both_of ?_ c2 d2 ?_ ?_) (Int.le_antisymm hle h0.1)).symm
          · exact c1.trans d1.symm
          · exact Nat.le_trans v5 (Nat.le_of_eq c1.symm)
          · exact Nat.le_trans (Nat.le_of_eq c1) hw64
        · exact absurd ⟨b1, b2⟩ h.2
      have hx : (told P codes P.length).length ≤ 17592186044416 := by rw [t1]; exact Nat.le_trans h64 (by decide)
      have hy : (told P (codesTo P v P.length) P.length).length ≤ 17592186044416 := by rw [x1]; exact Nat.le_trans h64 (by decide)
      have ee := encode_ev P hP (told P codes P.length) hx
      have ed := decode_ev P hP (codesTo P (told P codes P.length) P.length)
      rw [hew] at ee
      rw [hdb] at ed
      rw [hen, he, hdo]
      apply Ev.step
      · intro k; rw [lodestarlaw19_ProductNearest.j0, if_neg (by decide)]
      · refine Ev.bind ee (Ev.bind ed ?_)
        refine Ev.congr (fun k => (if_pos rfl).trans ((if_pos rfl).trans (if_pos rfl))) ?_
        refine Ev.bind (refL2_ev v _ hl hy) (Ev.bind (refL2_ev v _ hl hx) (Ev.congr (fun k => if_pos hnear) ?_))
        refine Ev.bind (same_ev _ _ hx) (Ev.congr (fun k => if_pos (decide_eq_true rfl)) ?_)
        exact Ev.bind awake19_ev (Ev.now _)
    · exact hb _ (bne_iff_ne.2 h2)
  · exact Ev.congr (fun k => if_neg h1) (hb _ rfl)
end Go.Proofs.Ytlnilonlaedafaa.Pure
