/- The document's sorting is the same. -/
import Derived.Test.YtgmjgognpabmdaaFxSd
import Derived.Test.YtgmjgognpabmdaaFxRef07b
namespace Go.Proofs.Ytgmjgognpabmdaa.Fx
open Go Go.RowKit
set_option linter.unusedSimpArgs false
set_option linter.unusedVariables false
def insRec (m : Int) (h : Ht) : List Ht → List Ht
  | [] => [h]
  | x :: r => if less m h x = true then h :: x :: r else x :: insRec m h r
theorem insF_true (m : Int) (h : Ht) : ∀ (l o : List Ht), l.foldl (insF m h) (true, o) = (true, o ++ l)
  | [], o => by simp
  | x :: l, o => by rw [List.foldl_cons, show insF m h (true, o) x = (true, o ++ [x]) by simp [insF], insF_true m h l]; simp
theorem insF_rec (m : Int) (h : Ht) : ∀ (l o : List Ht), (if (l.foldl (insF m h) (false, o)).1 = true then (l.foldl (insF m h) (false, o)).2 else (l.foldl (insF m h) (false, o)).2 ++ [h]) = o ++ insRec m h l
  | [], o => by simp [insRec]
  | x :: l, o => by
    rw [List.foldl_cons]
    cases hx : less m h x
    · rw [show insF m h (false, o) x = (false, o ++ [x]) by simp [insF, hx], insF_rec m h l, insRec, hx]
      simp
    · rw [show insF m h (false, o) x = (true, o ++ [h] ++ [x]) by simp [insF, hx], insF_true, insRec, hx]
      simp
theorem insR_rec (m : Int) (h : Ht) (l : List Ht) : insR m h l = insRec m h l := by
  have := insF_rec m h l []
  simpa [insR] using this
theorem insRec_perm (m : Int) (h : Ht) : ∀ l : List Ht, (insRec m h l).Perm (h :: l)
  | [] => .refl _
  | x :: l => by
    unfold insRec
    split
    · exact .refl _
    · exact ((insRec_perm m h l).cons x).trans (.swap h x l)
theorem insRec_sd {m : Int} (hM : mOk m = true) (h : Ht) : ∀ l : List Ht, Sd m l → Sd m (insRec m h l)
  | [], _ => by simp [insRec, Sd]
  | x :: l, hs => by
    have hs' := List.pairwise_cons.1 hs
    unfold insRec
    split
    · rename_i hx
      refine List.pairwise_cons.2 ⟨fun y hy => ?_, hs⟩
      rcases List.mem_cons.1 hy with rfl | hy
      · exact less_asym hM hx
      · exact le_tr hM (less_asym hM hx) (hs'.1 y hy)
    · rename_i hx
      refine List.pairwise_cons.2 ⟨fun y hy => ?_, insRec_sd hM h l hs'.2⟩
      rcases List.mem_cons.1 ((insRec_perm m h l).mem_iff.1 hy) with rfl | hy
      · simpa using hx
      · exact hs'.1 y hy
theorem insR_perm (m : Int) (h : Ht) (l : List Ht) : (insR m h l).Perm (h :: l) := by rw [insR_rec]; exact insRec_perm m h l
theorem insR_sd {m : Int} (hM : mOk m = true) (h : Ht) {l : List Ht} (hl : Sd m l) : Sd m (insR m h l) := by rw [insR_rec]; exact insRec_sd hM h l hl
theorem srt_both {m : Int} (hM : mOk m = true) : ∀ (l o : List Ht), Sd m o → Sd m (l.foldl (fun o x => insR m x o) o) ∧ (l.foldl (fun o x => insR m x o) o).Perm (o ++ l)
  | [], o, ho => ⟨ho, by simp⟩
  | x :: l, o, ho => by
    rw [List.foldl_cons]
    obtain ⟨h1, h2⟩ := srt_both hM l (insR m x o) (insR_sd hM x ho)
    exact ⟨h1, h2.trans (((insR_perm m x o).append_right l).trans List.perm_middle.symm)⟩
theorem srt_eq {m : Int} (hM : mOk m = true) (l : List Ht) : srt m l = hsort m l := by
  obtain ⟨h1, h2⟩ := srt_both hM l [] List.Pairwise.nil
  exact sd_unique hM ((by simpa [srt] using h2 : (srt m l).Perm l).trans (hsort_perm m l).symm) h1 (hsort_sd hM l)
end Go.Proofs.Ytgmjgognpabmdaa.Fx
