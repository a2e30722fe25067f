/-
  Contracts of functions of the program, each said of symbolic values; no condition beyond each statement's own.
-/
import Derived.Test.YtofhjelmgekofaaT6
namespace Go.Sym.R
open Go Go.Proofs.Try Go.Sym.Ring
set_option maxRecDepth 100000

/-- the orders of the drawn regions of halberdlaw22.written -/
def pl21 : List (Nat × List PStep) := [(8, [⟨0, []⟩, ⟨1, [0]⟩, ⟨2, []⟩, ⟨3, [0, 1, 2]⟩, ⟨4, [0, 1, 2]⟩, ⟨5, [0, 1, 2]⟩, ⟨6, []⟩, ⟨7, [0, 1, 2, 3, 4, 5, 6]⟩, ⟨8, [0, 1, 2, 3, 4, 5, 6, 7]⟩, ⟨9, [0, 1, 2, 3, 4, 5, 6, 7]⟩, ⟨10, [0, 1, 2, 3, 4, 5, 6]⟩, ⟨11, []⟩, ⟨12, []⟩])]

/-- the byte that is written -/
def wby (s : List UInt8) : UInt8 := if 0 < s.length then s.getD 0 0 else 7
def writtenS : Spec := fun args hp K => match args, hp with
  | [.str hd, .int a, .sl 0 0 0 [(o, 1)] np cp, q, .str s], [.mk u [.arr8 m l]] =>
    Pre (0 ≤ a ∧ a + 1 ≤ hd.length ∧ hd.length ≤ 1048576 ∧ 0 < np ∧ o + np ≤ l.length)
      (K (.str (hd.take a.toNat ++ [wby s] ++ hd.drop (a + 1).toNat)) [.mk u [.arr8 m (l.set o (wby s))]])
  | _, _ => False

theorem written_s : SoundC prog 21 writtenS := by
  refine sound_f tys_ok fnok_nil rfl func21 rfl call21 (D := pl21) ?_ ?_
  · intro args hp K h
    unfold writtenS at h
    split at h
    · exact Nat.le_of_ble_eq_true rfl
    · exact h.elim
  · intro args hp K h
    unfold writtenS at h
    split at h
    · rename_i hd a o np cp q s u m l
      obtain ⟨h0, h⟩ := pre_e h
      by_cases hs : 0 < s.length
      · have hw : wby s = s.getD 0 0 := by simp [wby, hs]
        repeat ((conv => whnf); first | (refine pre_i ?hc ?_; case hc => first | assumption | omega | (unfold fits; omega) | decide +kernel | (constructor <;> first | assumption | omega) | (simp only [off_addO, ty3, ty4, ty5, ty9, ty23, ty24, ty35, ty63, ty71, ty79, off, offE] <;> omega) | (simp only [List.length_append, List.length_take, List.length_drop, List.length_nil, List.length_cons, List.length_replicate, List.length_set, off_addO, off, offE] <;> omega)) | (refine cond_t ?hc ?_; case hc => first | rfl | assumption | (rw [decide_eq_true_eq]; omega) | (rw [decide_eq_false_iff_not]; omega) | (simp <;> omega)) | (refine cond_f ?hc ?_; case hc => first | rfl | assumption | (rw [decide_eq_true_eq]; omega) | (rw [decide_eq_false_iff_not]; omega) | (simp <;> omega)) | refine same_i ?_)
        refine final_h [0] h ?_
        conv => whnf
        refine same_q (by rw [hw]; simp [SV.ren, renL, off_addO, off, offE, ty5]) ?_
        conv => whnf
        refine same_q (by rw [hw]; simp [SV.ren, off, offE, ty5]) ?_
        repeat ((conv => whnf); first | (refine pre_i ?hc ?_; case hc => first | assumption | omega | (unfold fits; omega) | decide +kernel | (constructor <;> first | assumption | omega) | (simp only [off_addO, ty3, ty4, ty5, ty9, ty23, ty24, ty35, ty63, ty71, ty79, off, offE] <;> omega) | (simp only [List.length_append, List.length_take, List.length_drop, List.length_nil, List.length_cons, List.length_replicate, List.length_set, off_addO, off, offE] <;> omega)) | (refine cond_t ?hc ?_; case hc => first | rfl | assumption | (rw [decide_eq_true_eq]; omega) | (rw [decide_eq_false_iff_not]; omega) | (simp <;> omega)) | (refine cond_f ?hc ?_; case hc => first | rfl | assumption | (rw [decide_eq_true_eq]; omega) | (rw [decide_eq_false_iff_not]; omega) | (simp <;> omega)) | refine same_i ?_)
        exact trivial
      · have hw : wby s = 7 := by simp [wby, hs]
        repeat ((conv => whnf); first | (refine pre_i ?hc ?_; case hc => first | assumption | omega | (unfold fits; omega) | decide +kernel | (constructor <;> first | assumption | omega) | (simp only [off_addO, ty3, ty4, ty5, ty9, ty23, ty24, ty35, ty63, ty71, ty79, off, offE] <;> omega) | (simp only [List.length_append, List.length_take, List.length_drop, List.length_nil, List.length_cons, List.length_replicate, List.length_set, off_addO, off, offE] <;> omega)) | (refine cond_t ?hc ?_; case hc => first | rfl | assumption | (rw [decide_eq_true_eq]; omega) | (rw [decide_eq_false_iff_not]; omega) | (simp <;> omega)) | (refine cond_f ?hc ?_; case hc => first | rfl | assumption | (rw [decide_eq_true_eq]; omega) | (rw [decide_eq_false_iff_not]; omega) | (simp <;> omega)) | refine same_i ?_)
        refine final_h [0] h ?_
        conv => whnf
        refine same_q (by rw [hw]; simp [SV.ren, renL, off_addO, off, offE, ty5]) ?_
        conv => whnf
        refine same_q (by rw [hw]; simp [SV.ren, off, offE, ty5]) ?_
        repeat ((conv => whnf); first | (refine pre_i ?hc ?_; case hc => first | assumption | omega | (unfold fits; omega) | decide +kernel | (constructor <;> first | assumption | omega) | (simp only [off_addO, ty3, ty4, ty5, ty9, ty23, ty24, ty35, ty63, ty71, ty79, off, offE] <;> omega) | (simp only [List.length_append, List.length_take, List.length_drop, List.length_nil, List.length_cons, List.length_replicate, List.length_set, off_addO, off, offE] <;> omega)) | (refine cond_t ?hc ?_; case hc => first | rfl | assumption | (rw [decide_eq_true_eq]; omega) | (rw [decide_eq_false_iff_not]; omega) | (simp <;> omega)) | (refine cond_f ?hc ?_; case hc => first | rfl | assumption | (rw [decide_eq_true_eq]; omega) | (rw [decide_eq_false_iff_not]; omega) | (simp <;> omega)) | refine same_i ?_)
        exact trivial
    · exact h.elim
end Go.Sym.R
