/-
  Contracts of functions of the program, each said of symbolic values; no condition beyond each statement's own.
-/
import Derived.Test.YtofhjelmgekofaaT2
import Derived.Test.YtofhjelmgekofaaRingPlain
namespace Go.Sym.R
open Go Go.Proofs.Try Go.Sym.Ring
set_option maxRecDepth 100000

def numS : Spec := fun args hp K => match args, hp with
  | [.int a], [] => K (.int a) []
  | _, _ => False
def mayS : Spec := fun args hp K => match args, hp with
  | [.ptr 0 0 0 [], .int a, .int k], [.mk t [.sl 1 0 0 [] n c, .int b, .int h], .mk u [.arr8 m l]] =>
    Pre (ringOK n c m l b h) (CondVC (decide (0 ≤ a ∧ 0 ≤ k ∧ a ≤ h ∧ k ≤ h - a)) (K (.bool true) [.mk t [.sl 1 0 0 [] n c, .int b, .int h], .mk u [.arr8 m l]]) (K (.bool false) [.mk t [.sl 1 0 0 [] n c, .int b, .int h], .mk u [.arr8 m l]]))
  | _, _ => False
def newS : Spec := fun args hp K => match args, hp with
  | [.int z], [] => CondVC (decide (z < 1 ∨ 262144 < z)) (K (.tup [.nilptr, .int 2200]) [])
      (K (.tup [.ptr 0 0 0 [], .int 0]) [.mk 63 [.sl 1 0 0 [] z.toNat z.toNat, .int 0, .int 0], .mk 5 [.arr8 z.toNat (List.replicate z.toNat 0)]])
  | _, _ => False

theorem num_s : SoundC prog 15 numS := by
  refine sound_f tys_ok fnok_nil rfl func15 rfl call15 (D := []) ?_ ?_
  · intro args hp K h
    unfold numS at h
    split at h
    · exact Nat.le_of_ble_eq_true rfl
    · exact h.elim
  · intro args hp K h
    unfold numS at h
    split at h
    · repeat ((conv => whnf); first | (refine pre_i ?hc ?_; case hc => first | assumption | omega | (unfold fits; omega) | decide +kernel | (constructor <;> first | assumption | omega) | (simp only [off_addO, ty3, ty4, ty5, ty9, ty23, ty24, ty35, ty63, ty71, ty79, off, offE] <;> omega) | (simp only [List.length_append, List.length_take, List.length_drop, List.length_nil, List.length_cons, List.length_replicate, List.length_set, off_addO, off, offE] <;> omega)) | (refine cond_t ?hc ?_; case hc => first | rfl | assumption | (rw [decide_eq_true_eq]; omega) | (rw [decide_eq_false_iff_not]; omega) | (simp <;> omega)) | (refine cond_f ?hc ?_; case hc => first | rfl | assumption | (rw [decide_eq_true_eq]; omega) | (rw [decide_eq_false_iff_not]; omega) | (simp <;> omega)) | refine same_i ?_)
      refine final_h [] h ?_
      repeat ((conv => whnf); first | (refine pre_i ?hc ?_; case hc => first | assumption | omega | (unfold fits; omega) | decide +kernel | (constructor <;> first | assumption | omega) | (simp only [off_addO, ty3, ty4, ty5, ty9, ty23, ty24, ty35, ty63, ty71, ty79, off, offE] <;> omega) | (simp only [List.length_append, List.length_take, List.length_drop, List.length_nil, List.length_cons, List.length_replicate, List.length_set, off_addO, off, offE] <;> omega)) | (refine cond_t ?hc ?_; case hc => first | rfl | assumption | (rw [decide_eq_true_eq]; omega) | (rw [decide_eq_false_iff_not]; omega) | (simp <;> omega)) | (refine cond_f ?hc ?_; case hc => first | rfl | assumption | (rw [decide_eq_true_eq]; omega) | (rw [decide_eq_false_iff_not]; omega) | (simp <;> omega)) | refine same_i ?_)
      exact trivial
    · exact h.elim

theorem may_s : SoundC prog 40 mayS := by
  refine sound_f tys_ok fnok_nil rfl func40 rfl call40 (D := []) ?_ ?_
  · intro args hp K h
    unfold mayS at h
    split at h
    · exact Nat.le_of_ble_eq_true rfl
    · exact h.elim
  · intro args hp K h
    unfold mayS at h
    split at h
    · rename_i a k t n c b hh u m l
      obtain ⟨h0, h⟩ := pre_e h
      unfold ringOK at h0
      obtain ⟨ht, hf⟩ := cond_e h
      by_cases h1 : 0 ≤ a
      · by_cases h2 : 0 ≤ k
        · by_cases h3 : a ≤ hh
          · by_cases h4 : k ≤ hh - a
            · repeat ((conv => whnf); first | (refine pre_i ?hc ?_; case hc => first | assumption | omega | (unfold fits; omega) | decide +kernel | (constructor <;> first | assumption | omega) | (simp only [off_addO, ty3, ty4, ty5, ty9, ty23, ty24, ty35, ty63, ty71, ty79, off, offE] <;> omega) | (simp only [List.length_append, List.length_take, List.length_drop, List.length_nil, List.length_cons, List.length_replicate, List.length_set, off_addO, off, offE] <;> omega)) | (refine cond_t ?hc ?_; case hc => first | rfl | assumption | (rw [decide_eq_true_eq]; omega) | (rw [decide_eq_false_iff_not]; omega) | (simp <;> omega)) | (refine cond_f ?hc ?_; case hc => first | rfl | assumption | (rw [decide_eq_true_eq]; omega) | (rw [decide_eq_false_iff_not]; omega) | (simp <;> omega)) | refine same_i ?_)
              refine final_h [0, 1] (ht (by simp <;> omega)) ?_
              conv => whnf
              rw [decide_eq_true h4]
              repeat ((conv => whnf); first | (refine pre_i ?hc ?_; case hc => first | assumption | omega | (unfold fits; omega) | decide +kernel | (constructor <;> first | assumption | omega) | (simp only [off_addO, ty3, ty4, ty5, ty9, ty23, ty24, ty35, ty63, ty71, ty79, off, offE] <;> omega) | (simp only [List.length_append, List.length_take, List.length_drop, List.length_nil, List.length_cons, List.length_replicate, List.length_set, off_addO, off, offE] <;> omega)) | (refine cond_t ?hc ?_; case hc => first | rfl | assumption | (rw [decide_eq_true_eq]; omega) | (rw [decide_eq_false_iff_not]; omega) | (simp <;> omega)) | (refine cond_f ?hc ?_; case hc => first | rfl | assumption | (rw [decide_eq_true_eq]; omega) | (rw [decide_eq_false_iff_not]; omega) | (simp <;> omega)) | refine same_i ?_)
              exact trivial
            · repeat ((conv => whnf); first | (refine pre_i ?hc ?_; case hc => first | assumption | omega | (unfold fits; omega) | decide +kernel | (constructor <;> first | assumption | omega) | (simp only [off_addO, ty3, ty4, ty5, ty9, ty23, ty24, ty35, ty63, ty71, ty79, off, offE] <;> omega) | (simp only [List.length_append, List.length_take, List.length_drop, List.length_nil, List.length_cons, List.length_replicate, List.length_set, off_addO, off, offE] <;> omega)) | (refine cond_t ?hc ?_; case hc => first | rfl | assumption | (rw [decide_eq_true_eq]; omega) | (rw [decide_eq_false_iff_not]; omega) | (simp <;> omega)) | (refine cond_f ?hc ?_; case hc => first | rfl | assumption | (rw [decide_eq_true_eq]; omega) | (rw [decide_eq_false_iff_not]; omega) | (simp <;> omega)) | refine same_i ?_)
              refine final_h [0, 1] (hf (by simp <;> omega)) ?_
              conv => whnf
              rw [decide_eq_false h4]
              repeat ((conv => whnf); first | (refine pre_i ?hc ?_; case hc => first | assumption | omega | (unfold fits; omega) | decide +kernel | (constructor <;> first | assumption | omega) | (simp only [off_addO, ty3, ty4, ty5, ty9, ty23, ty24, ty35, ty63, ty71, ty79, off, offE] <;> omega) | (simp only [List.length_append, List.length_take, List.length_drop, List.length_nil, List.length_cons, List.length_replicate, List.length_set, off_addO, off, offE] <;> omega)) | (refine cond_t ?hc ?_; case hc => first | rfl | assumption | (rw [decide_eq_true_eq]; omega) | (rw [decide_eq_false_iff_not]; omega) | (simp <;> omega)) | (refine cond_f ?hc ?_; case hc => first | rfl | assumption | (rw [decide_eq_true_eq]; omega) | (rw [decide_eq_false_iff_not]; omega) | (simp <;> omega)) | refine same_i ?_)
              exact trivial
          · repeat ((conv => whnf); first | (refine pre_i ?hc ?_; case hc => first | assumption | omega | (unfold fits; omega) | decide +kernel | (constructor <;> first | assumption | omega) | (simp only [off_addO, ty3, ty4, ty5, ty9, ty23, ty24, ty35, ty63, ty71, ty79, off, offE] <;> omega) | (simp only [List.length_append, List.length_take, List.length_drop, List.length_nil, List.length_cons, List.length_replicate, List.length_set, off_addO, off, offE] <;> omega)) | (refine cond_t ?hc ?_; case hc => first | rfl | assumption | (rw [decide_eq_true_eq]; omega) | (rw [decide_eq_false_iff_not]; omega) | (simp <;> omega)) | (refine cond_f ?hc ?_; case hc => first | rfl | assumption | (rw [decide_eq_true_eq]; omega) | (rw [decide_eq_false_iff_not]; omega) | (simp <;> omega)) | refine same_i ?_)
            refine final_h [0, 1] (hf (by simp <;> omega)) ?_
            repeat ((conv => whnf); first | (refine pre_i ?hc ?_; case hc => first | assumption | omega | (unfold fits; omega) | decide +kernel | (constructor <;> first | assumption | omega) | (simp only [off_addO, ty3, ty4, ty5, ty9, ty23, ty24, ty35, ty63, ty71, ty79, off, offE] <;> omega) | (simp only [List.length_append, List.length_take, List.length_drop, List.length_nil, List.length_cons, List.length_replicate, List.length_set, off_addO, off, offE] <;> omega)) | (refine cond_t ?hc ?_; case hc => first | rfl | assumption | (rw [decide_eq_true_eq]; omega) | (rw [decide_eq_false_iff_not]; omega) | (simp <;> omega)) | (refine cond_f ?hc ?_; case hc => first | rfl | assumption | (rw [decide_eq_true_eq]; omega) | (rw [decide_eq_false_iff_not]; omega) | (simp <;> omega)) | refine same_i ?_)
            exact trivial
        · repeat ((conv => whnf); first | (refine pre_i ?hc ?_; case hc => first | assumption | omega | (unfold fits; omega) | decide +kernel | (constructor <;> first | assumption | omega) | (simp only [off_addO, ty3, ty4, ty5, ty9, ty23, ty24, ty35, ty63, ty71, ty79, off, offE] <;> omega) | (simp only [List.length_append, List.length_take, List.length_drop, List.length_nil, List.length_cons, List.length_replicate, List.length_set, off_addO, off, offE] <;> omega)) | (refine cond_t ?hc ?_; case hc => first | rfl | assumption | (rw [decide_eq_true_eq]; omega) | (rw [decide_eq_false_iff_not]; omega) | (simp <;> omega)) | (refine cond_f ?hc ?_; case hc => first | rfl | assumption | (rw [decide_eq_true_eq]; omega) | (rw [decide_eq_false_iff_not]; omega) | (simp <;> omega)) | refine same_i ?_)
          refine final_h [0, 1] (hf (by simp <;> omega)) ?_
          repeat ((conv => whnf); first | (refine pre_i ?hc ?_; case hc => first | assumption | omega | (unfold fits; omega) | decide +kernel | (constructor <;> first | assumption | omega) | (simp only [off_addO, ty3, ty4, ty5, ty9, ty23, ty24, ty35, ty63, ty71, ty79, off, offE] <;> omega) | (simp only [List.length_append, List.length_take, List.length_drop, List.length_nil, List.length_cons, List.length_replicate, List.length_set, off_addO, off, offE] <;> omega)) | (refine cond_t ?hc ?_; case hc => first | rfl | assumption | (rw [decide_eq_true_eq]; omega) | (rw [decide_eq_false_iff_not]; omega) | (simp <;> omega)) | (refine cond_f ?hc ?_; case hc => first | rfl | assumption | (rw [decide_eq_true_eq]; omega) | (rw [decide_eq_false_iff_not]; omega) | (simp <;> omega)) | refine same_i ?_)
          exact trivial
      · repeat ((conv => whnf); first | (refine pre_i ?hc ?_; case hc => first | assumption | omega | (unfold fits; omega) | decide +kernel | (constructor <;> first | assumption | omega) | (simp only [off_addO, ty3, ty4, ty5, ty9, ty23, ty24, ty35, ty63, ty71, ty79, off, offE] <;> omega) | (simp only [List.length_append, List.length_take, List.length_drop, List.length_nil, List.length_cons, List.length_replicate, List.length_set, off_addO, off, offE] <;> omega)) | (refine cond_t ?hc ?_; case hc => first | rfl | assumption | (rw [decide_eq_true_eq]; omega) | (rw [decide_eq_false_iff_not]; omega) | (simp <;> omega)) | (refine cond_f ?hc ?_; case hc => first | rfl | assumption | (rw [decide_eq_true_eq]; omega) | (rw [decide_eq_false_iff_not]; omega) | (simp <;> omega)) | refine same_i ?_)
        refine final_h [0, 1] (hf (by simp <;> omega)) ?_
        repeat ((conv => whnf); first | (refine pre_i ?hc ?_; case hc => first | assumption | omega | (unfold fits; omega) | decide +kernel | (constructor <;> first | assumption | omega) | (simp only [off_addO, ty3, ty4, ty5, ty9, ty23, ty24, ty35, ty63, ty71, ty79, off, offE] <;> omega) | (simp only [List.length_append, List.length_take, List.length_drop, List.length_nil, List.length_cons, List.length_replicate, List.length_set, off_addO, off, offE] <;> omega)) | (refine cond_t ?hc ?_; case hc => first | rfl | assumption | (rw [decide_eq_true_eq]; omega) | (rw [decide_eq_false_iff_not]; omega) | (simp <;> omega)) | (refine cond_f ?hc ?_; case hc => first | rfl | assumption | (rw [decide_eq_true_eq]; omega) | (rw [decide_eq_false_iff_not]; omega) | (simp <;> omega)) | refine same_i ?_)
        exact trivial
    · exact h.elim

theorem new_s : SoundC prog 14 newS := by
  refine sound_f tys_ok fnok_nil rfl func14 rfl call14 (D := []) ?_ ?_
  · intro args hp K h
    unfold newS at h
    split at h
    · exact Nat.le_of_ble_eq_true rfl
    · exact h.elim
  · intro args hp K h
    unfold newS at h
    split at h
    · rename_i z
      obtain ⟨ht, hf⟩ := cond_e h
      by_cases h1 : z < 1
      · repeat ((conv => whnf); first | (refine pre_i ?hc ?_; case hc => first | assumption | omega | (unfold fits; omega) | decide +kernel | (constructor <;> first | assumption | omega) | (simp only [off_addO, ty3, ty4, ty5, ty9, ty23, ty24, ty35, ty63, ty71, ty79, off, offE] <;> omega) | (simp only [List.length_append, List.length_take, List.length_drop, List.length_nil, List.length_cons, List.length_replicate, List.length_set, off_addO, off, offE] <;> omega)) | (refine cond_t ?hc ?_; case hc => first | rfl | assumption | (rw [decide_eq_true_eq]; omega) | (rw [decide_eq_false_iff_not]; omega) | (simp <;> omega)) | (refine cond_f ?hc ?_; case hc => first | rfl | assumption | (rw [decide_eq_true_eq]; omega) | (rw [decide_eq_false_iff_not]; omega) | (simp <;> omega)) | refine same_i ?_)
        refine final_h [] (ht (by simp <;> omega)) ?_
        repeat ((conv => whnf); first | (refine pre_i ?hc ?_; case hc => first | assumption | omega | (unfold fits; omega) | decide +kernel | (constructor <;> first | assumption | omega) | (simp only [off_addO, ty3, ty4, ty5, ty9, ty23, ty24, ty35, ty63, ty71, ty79, off, offE] <;> omega) | (simp only [List.length_append, List.length_take, List.length_drop, List.length_nil, List.length_cons, List.length_replicate, List.length_set, off_addO, off, offE] <;> omega)) | (refine cond_t ?hc ?_; case hc => first | rfl | assumption | (rw [decide_eq_true_eq]; omega) | (rw [decide_eq_false_iff_not]; omega) | (simp <;> omega)) | (refine cond_f ?hc ?_; case hc => first | rfl | assumption | (rw [decide_eq_true_eq]; omega) | (rw [decide_eq_false_iff_not]; omega) | (simp <;> omega)) | refine same_i ?_)
        exact trivial
      · by_cases h2 : 262144 < z
        · repeat ((conv => whnf); first | (refine pre_i ?hc ?_; case hc => first | assumption | omega | (unfold fits; omega) | decide +kernel | (constructor <;> first | assumption | omega) | (simp only [off_addO, ty3, ty4, ty5, ty9, ty23, ty24, ty35, ty63, ty71, ty79, off, offE] <;> omega) | (simp only [List.length_append, List.length_take, List.length_drop, List.length_nil, List.length_cons, List.length_replicate, List.length_set, off_addO, off, offE] <;> omega)) | (refine cond_t ?hc ?_; case hc => first | rfl | assumption | (rw [decide_eq_true_eq]; omega) | (rw [decide_eq_false_iff_not]; omega) | (simp <;> omega)) | (refine cond_f ?hc ?_; case hc => first | rfl | assumption | (rw [decide_eq_true_eq]; omega) | (rw [decide_eq_false_iff_not]; omega) | (simp <;> omega)) | refine same_i ?_)
          refine final_h [] (ht (by simp <;> omega)) ?_
          repeat ((conv => whnf); first | (refine pre_i ?hc ?_; case hc => first | assumption | omega | (unfold fits; omega) | decide +kernel | (constructor <;> first | assumption | omega) | (simp only [off_addO, ty3, ty4, ty5, ty9, ty23, ty24, ty35, ty63, ty71, ty79, off, offE] <;> omega) | (simp only [List.length_append, List.length_take, List.length_drop, List.length_nil, List.length_cons, List.length_replicate, List.length_set, off_addO, off, offE] <;> omega)) | (refine cond_t ?hc ?_; case hc => first | rfl | assumption | (rw [decide_eq_true_eq]; omega) | (rw [decide_eq_false_iff_not]; omega) | (simp <;> omega)) | (refine cond_f ?hc ?_; case hc => first | rfl | assumption | (rw [decide_eq_true_eq]; omega) | (rw [decide_eq_false_iff_not]; omega) | (simp <;> omega)) | refine same_i ?_)
          exact trivial
        · repeat ((conv => whnf); first | (refine pre_i ?hc ?_; case hc => first | assumption | omega | (unfold fits; omega) | decide +kernel | (constructor <;> first | assumption | omega) | (simp only [off_addO, ty3, ty4, ty5, ty9, ty23, ty24, ty35, ty63, ty71, ty79, off, offE] <;> omega) | (simp only [List.length_append, List.length_take, List.length_drop, List.length_nil, List.length_cons, List.length_replicate, List.length_set, off_addO, off, offE] <;> omega)) | (refine cond_t ?hc ?_; case hc => first | rfl | assumption | (rw [decide_eq_true_eq]; omega) | (rw [decide_eq_false_iff_not]; omega) | (simp <;> omega)) | (refine cond_f ?hc ?_; case hc => first | rfl | assumption | (rw [decide_eq_true_eq]; omega) | (rw [decide_eq_false_iff_not]; omega) | (simp <;> omega)) | refine same_i ?_)
          refine final_h [1, 0] (hf (by simp <;> omega)) ?_
          repeat ((conv => whnf); first | (refine pre_i ?hc ?_; case hc => first | assumption | omega | (unfold fits; omega) | decide +kernel | (constructor <;> first | assumption | omega) | (simp only [off_addO, ty3, ty4, ty5, ty9, ty23, ty24, ty35, ty63, ty71, ty79, off, offE] <;> omega) | (simp only [List.length_append, List.length_take, List.length_drop, List.length_nil, List.length_cons, List.length_replicate, List.length_set, off_addO, off, offE] <;> omega)) | (refine cond_t ?hc ?_; case hc => first | rfl | assumption | (rw [decide_eq_true_eq]; omega) | (rw [decide_eq_false_iff_not]; omega) | (simp <;> omega)) | (refine cond_f ?hc ?_; case hc => first | rfl | assumption | (rw [decide_eq_true_eq]; omega) | (rw [decide_eq_false_iff_not]; omega) | (simp <;> omega)) | refine same_i ?_)
          exact trivial
    · exact h.elim
end Go.Sym.R
