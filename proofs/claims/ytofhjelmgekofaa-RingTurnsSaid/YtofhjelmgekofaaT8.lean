/-
  Contracts of functions of the program, each said of symbolic values; no condition beyond each statement's own.
-/
import Derived.Test.YtofhjelmgekofaaT7
namespace Go.Sym.R
open Go Go.Proofs.Try Go.Sym.Ring
set_option maxRecDepth 100000

/-- the orders of the drawn regions of halberdlaw22.awake -/
def pl16 : List (Nat × List PStep) := []

def ringFn : List (Nat × Spec) := [(14, newS), (15, numS), (17, putS), (18, takeS), (19, peekS), (20, PartsS), (22, lenS), (23, roomS), (21, writtenS)]
theorem ringFn_ok : ∀ f S, look ringFn f = some S → SoundC prog f S := by
  intro f S h
  simp only [ringFn, look] at h
  split at h
  · rename_i e; subst e; cases h; exact new_s
  split at h
  · rename_i e; subst e; cases h; exact num_s
  split at h
  · rename_i e; subst e; cases h; exact put_s
  split at h
  · rename_i e; subst e; cases h; exact take_s
  split at h
  · rename_i e; subst e; cases h; exact peek_s
  split at h
  · rename_i e; subst e; cases h; exact Parts_s
  split at h
  · rename_i e; subst e; cases h; exact len_s
  split at h
  · rename_i e; subst e; cases h; exact room_s
  split at h
  · rename_i e; subst e; cases h; exact written_s
  cases h

theorem bt {p : Prop} [Decidable p] (h : p) : (decide p == true) = true := by simp [h]

def awakeS : Spec := fun args hp K => match args, hp with
  | [], [] => K (.bool true) []
  | _, _ => False

theorem awake_s : SoundC prog 16 awakeS := by
  refine sound_f tys_ok ringFn_ok rfl func16 rfl call16 (D := pl16) ?_ ?_
  · intro args hp K h
    unfold awakeS at h
    split at h
    · exact Nat.le_of_ble_eq_true rfl
    · exact h.elim
  · intro args hp K h
    unfold awakeS at h
    split at h
    · repeat ((conv => whnf); first | (refine pre_i ?hc ?_; case hc => first | assumption | omega | (unfold fits; omega) | decide +kernel | (constructor <;> first | assumption | omega) | (simp only [off_addO, ty3, ty4, ty5, ty9, ty23, ty24, ty35, ty63, ty71, ty79, off, offE] <;> omega) | (simp only [List.length_append, List.length_take, List.length_drop, List.length_nil, List.length_cons, List.length_replicate, List.length_set, off_addO, off, offE] <;> omega)) | (refine cond_t ?hc ?_; case hc => first | rfl | assumption | (rw [decide_eq_true_eq]; omega) | (rw [decide_eq_false_iff_not]; omega) | (simp <;> omega)) | (refine cond_f ?hc ?_; case hc => first | rfl | assumption | (rw [decide_eq_true_eq]; omega) | (rw [decide_eq_false_iff_not]; omega) | (simp <;> omega)) | refine same_i ?_)
      conv => whnf
      refine pre_i (by unfold ringOK; decide) ?_
      refine all_i fun l1 h1 => ?_
      obtain ⟨h1a, h1b⟩ := h1
      repeat ((conv => whnf); first | (refine pre_i ?hc ?_; case hc => first | assumption | omega | (unfold fits; omega) | decide +kernel | (constructor <;> first | assumption | omega) | (simp only [off_addO, ty3, ty4, ty5, ty9, ty23, ty24, ty35, ty63, ty71, ty79, off, offE] <;> omega) | (simp only [List.length_append, List.length_take, List.length_drop, List.length_nil, List.length_cons, List.length_replicate, List.length_set, off_addO, off, offE] <;> omega)) | (refine cond_t ?hc ?_; case hc => first | rfl | assumption | (rw [decide_eq_true_eq]; omega) | (rw [decide_eq_false_iff_not]; omega) | (simp <;> omega)) | (refine cond_f ?hc ?_; case hc => first | rfl | assumption | (rw [decide_eq_true_eq]; omega) | (rw [decide_eq_false_iff_not]; omega) | (simp <;> omega)) | refine same_i ?_)
      conv => whnf
      refine pre_i (by unfold ringOK; exact ⟨rfl, rfl, h1a, by decide⟩) ?_
      refine all_i fun l2 h2 => ?_
      obtain ⟨h2a, h2b⟩ := h2
      have k2 : ringOK 4 4 4 l2 2 4 := by unfold ringOK; exact ⟨rfl, rfl, h2a, by decide⟩
      have c1 : content l1 0 3 = [97, 98, 99] := h1b
      have c2 : content l2 2 4 = [99, 100, 101, 102] := by
        have e : content l1 2 1 = (content l1 0 3).drop 2 := by
          have := drop_content (l := l1) (b := 0) (h := 3) (k := 2) (by rw [h1a]; decide) (by rw [h1a]; decide) (by decide)
          rw [h1a] at this
          exact this
        have h2c : content l2 2 4 = content l1 2 1 ++ [100, 101, 102] := h2b
        rw [h2c, e, c1]; rfl
      have d1 : List.take 2 (content l1 0 3) = [97, 98] := by rw [c1]; rfl
      have d1' := decide_eq_true d1
      have d1'' := bt d1
      have d2 : List.take 4 (List.drop 0 (content l2 2 4)) = [99, 100, 101, 102] := by rw [c2]; rfl
      have d2' := decide_eq_true d2
      have d2'' := bt d2
      have s1 : off [(slO 4 2, 1)] + 2 ≤ l2.length := by rw [slO_eq (by decide), h2a]; decide
      have s2 : off [] + 2 ≤ l2.length := by rw [h2a]; decide
      have d3 : (l2.drop (off [(slO 4 2, 1)])).take 2 ++ (l2.drop (off [])).take 2 = [99, 100, 101, 102] := by
        have := parts_two (l := l2) (n := 4) (b := 2) (h := 4) (a := 0) (k := 4) h2a (by decide) (by decide) (by decide) (by decide) (by decide) (by decide) (by decide) (by decide)
        exact this.trans d2
      have d3' := decide_eq_true d3
      have d3'' := bt d3
      have hl : ((l2.drop (off [(slO 4 2, 1)])).take 2).length + ((l2.drop (off [])).take 2).length < 9223372036854775808 := by simp; omega
      repeat ((conv => whnf); first | (refine pre_i ?hc ?_; case hc => first | assumption | omega | (unfold fits; omega) | decide +kernel | (constructor <;> first | assumption | omega) | (simp only [off_addO, ty3, ty4, ty5, ty9, ty23, ty24, ty35, ty63, ty71, ty79, off, offE] <;> omega) | (simp only [List.length_append, List.length_take, List.length_drop, List.length_nil, List.length_cons, List.length_replicate, List.length_set, off_addO, off, offE] <;> omega)) | (refine cond_t ?hc ?_; case hc => first | rfl | assumption | (rw [decide_eq_true_eq]; omega) | (rw [decide_eq_false_iff_not]; omega) | (simp <;> omega)) | (refine cond_f ?hc ?_; case hc => first | rfl | assumption | (rw [decide_eq_true_eq]; omega) | (rw [decide_eq_false_iff_not]; omega) | (simp <;> omega)) | refine same_i ?_)
      refine final_h [] h ?_
      conv => whnf
      refine same_q (by rfl) ?_
      exact trivial
    · exact h.elim
end Go.Sym.R
