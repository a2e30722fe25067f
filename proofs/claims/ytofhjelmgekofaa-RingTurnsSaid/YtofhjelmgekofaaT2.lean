/-
  Contracts of functions of the program, each said of symbolic values; no condition beyond each statement's own.
-/
import Derived.Test.YtofhjelmgekofaaT1
namespace Go.Sym.R
open Go Go.Proofs.Try
set_option maxRecDepth 100000


/-- a ring's memory of n bytes, of which h are held from b on -/
def ringOK (n c m : Nat) (l : List UInt8) (b h : Int) : Prop := n = c ∧ m = n ∧ l.length = n ∧ 1 ≤ n ∧ n ≤ 1048576 ∧ 0 ≤ b ∧ b < n ∧ 0 ≤ h ∧ h ≤ n

def lenS : Spec := fun args hp K => match args, hp with
  | [.nilptr], [] => K (.int 0) []
  | [.ptr 0 0 0 []], [.mk t [.sl 1 0 0 [] n c, .int b, .int h], .mk u [.arr8 m l]] => K (.int h) [.mk t [.sl 1 0 0 [] n c, .int b, .int h], .mk u [.arr8 m l]]
  | _, _ => False
def roomS : Spec := fun args hp K => match args, hp with
  | [.nilptr], [] => K (.int 0) []
  | [.ptr 0 0 0 []], [.mk t [.sl 1 0 0 [] n c, .int b, .int h], .mk u [.arr8 m l]] => Pre (ringOK n c m l b h) (K (.int (n - h)) [.mk t [.sl 1 0 0 [] n c, .int b, .int h], .mk u [.arr8 m l]])
  | _, _ => False
/-- parts: at, n of the ring's memory -/
def partsS : Spec := fun args hp K => match args, hp with
  | [.ptr 0 0 0 [], .int a, .int k], [.mk t [.sl 1 0 0 [] n c, .int b, .int h], .mk u [.arr8 m l]] =>
    Pre (ringOK n c m l b h ∧ 0 ≤ a ∧ 0 ≤ k ∧ k ≤ n ∧ a ≤ 1048576 * 4)
      (CondVC (decide (a.tmod n + k ≤ n))
        (K (.tup [.sl 1 0 0 [(slO (a.tmod n + k).toNat (a.tmod n).toNat, 1)] ((a.tmod n + k).toNat - (a.tmod n).toNat) ((a.tmod n + k).toNat - (a.tmod n).toNat), .nilsl]) [.mk t [.sl 1 0 0 [] n c, .int b, .int h], .mk u [.arr8 m l]])
        (K (.tup [.sl 1 0 0 [(slO c (a.tmod n).toNat, 1)] (n - (a.tmod n).toNat) (c - (a.tmod n).toNat), .sl 1 0 0 [] (k - n + a.tmod n).toNat (k - n + a.tmod n).toNat]) [.mk t [.sl 1 0 0 [] n c, .int b, .int h], .mk u [.arr8 m l]]))
  | _, _ => False
def dropS : Spec := fun args hp K => match args, hp with
  | [.ptr 0 0 0 [], .int k], [.mk t [.sl 1 0 0 [] n c, .int b, .int h], .mk u [.arr8 m l]] =>
    Pre (ringOK n c m l b h ∧ 0 ≤ k ∧ k ≤ h) (K (.tup []) [.mk t [.sl 1 0 0 [] n c, .int ((b + k).tmod n), .int (h - k)], .mk u [.arr8 m l]])
  | _, _ => False

theorem len_s : SoundC prog 22 lenS := by
  refine sound_f tys_ok fnok_nil rfl func22 rfl call22 (D := []) ?_ ?_
  · intro args hp K h
    unfold lenS at h
    split at h
    · decide
    · decide
    · exact h.elim
  · intro args hp K h
    unfold lenS at h
    split at h
    · conv => whnf
      refine cond_t rfl ?_
      conv => whnf
      refine final_h [] h ?_
      repeat ((conv => whnf); refine same_i ?_)
      exact trivial
    · conv => whnf
      refine cond_f rfl ?_
      conv => whnf
      refine final_h [0, 1] h ?_
      repeat ((conv => whnf); refine same_i ?_)
      exact trivial
    · exact h.elim

/-- the orders of the drawn regions of ring.Ring).Room -/
def pl23 : List (Nat × List PStep) := [(3, [⟨0, []⟩, ⟨1, []⟩, ⟨2, []⟩, ⟨3, []⟩, ⟨4, []⟩, ⟨5, [0, 1, 2, 3, 4]⟩, ⟨6, [0, 1, 2, 3, 4]⟩, ⟨7, [0, 1, 2, 3, 4]⟩, ⟨8, [0, 1, 2, 3, 4]⟩, ⟨9, []⟩, ⟨10, []⟩])]
/-- the orders of the drawn regions of ring.Ring).parts -/
def pl38 : List (Nat × List PStep) := [(4, [⟨0, []⟩, ⟨1, []⟩, ⟨2, []⟩, ⟨3, []⟩, ⟨4, [0, 1, 2, 3]⟩, ⟨5, []⟩, ⟨6, [0, 1, 2, 3, 4, 5]⟩, ⟨7, [0, 1, 2, 3, 4, 5]⟩, ⟨8, [0, 1, 2, 3, 4, 5]⟩, ⟨9, [0, 1, 2, 3, 4, 5]⟩, ⟨10, [0, 1, 2, 3, 4, 5, 6, 7, 8, 9]⟩, ⟨11, [0, 1, 2, 3, 4, 5, 6, 7, 8, 9, 10]⟩, ⟨12, [0, 1, 2, 3, 4, 5, 6, 7, 8, 9, 10]⟩, ⟨13, [0, 1, 2, 3, 4, 5, 6, 7, 8, 9, 10]⟩, ⟨14, [0, 1, 2, 3, 4, 5, 6, 7, 8, 9, 10]⟩, ⟨15, [0, 1, 2, 3, 4, 5, 6, 7, 8, 9, 10]⟩, ⟨16, [0, 1, 2, 3, 4, 5, 6, 7, 8, 9]⟩, ⟨17, [0, 1, 2, 3, 4, 5, 6, 7, 8, 9, 10, 11, 12, 13, 14, 15, 16]⟩, ⟨18, [0, 1, 2, 3, 4, 5, 6, 7, 8, 9]⟩, ⟨19, [0, 1, 2, 3, 4, 5, 6, 7, 8, 9, 10, 11, 12, 13, 14, 15, 16, 17, 18]⟩, ⟨20, [0, 1, 2, 3, 4, 5, 6, 7, 8, 9, 10, 11, 12, 13, 14, 15, 16, 17, 18, 19]⟩, ⟨21, [0, 1, 2, 3, 4, 5, 6, 7, 8, 9, 10, 11, 12, 13, 14, 15, 16, 17, 18, 19]⟩, ⟨22, [0, 1, 2, 3, 4, 5, 6, 7, 8, 9, 10, 11, 12, 13, 14, 15, 16, 17, 18, 19]⟩, ⟨23, [0, 1, 2, 3, 4, 5, 6, 7, 8, 9, 10, 11, 12, 13, 14, 15, 16, 17, 18, 19]⟩, ⟨24, [0, 1, 2, 3, 4, 5, 6, 7, 8, 9, 10, 11, 12, 13, 14, 15, 16, 17, 18, 19]⟩, ⟨25, [0, 1, 2, 3, 4, 5, 6, 7, 8, 9, 10, 11, 12, 13, 14, 15, 16, 17, 18]⟩, ⟨26, [0, 1, 2, 3, 4, 5, 6, 7, 8, 9, 10, 11, 12, 13, 14, 15, 16, 17, 18, 19, 20, 21, 22, 23, 24, 25]⟩, ⟨27, [0, 1, 2, 3, 4, 5, 6, 7, 8, 9, 10, 11, 12, 13, 14, 15, 16, 17, 18]⟩, ⟨28, [0, 1, 2, 3, 4, 5]⟩, ⟨29, [6, 7, 8, 9, 10, 11, 12, 13, 14, 15, 16, 17, 18, 19, 20, 21, 22, 23, 24, 25, 26, 27, 28]⟩, ⟨30, []⟩])]
/-- the orders of the drawn regions of ring.Ring).Drop -/
def pl39 : List (Nat × List PStep) := [(0, [⟨0, []⟩, ⟨1, [0]⟩, ⟨2, [0]⟩, ⟨3, [0]⟩, ⟨4, [0]⟩, ⟨5, [0, 1, 2, 3, 4]⟩, ⟨6, [0]⟩, ⟨7, [0, 1, 2, 3, 4, 5, 6]⟩, ⟨8, [0, 1, 2, 3, 4, 5, 6]⟩, ⟨9, [0, 1, 2, 3, 4, 5, 6]⟩, ⟨10, [0, 1, 2, 3, 4, 5, 6]⟩, ⟨11, [0, 1, 2, 3, 4, 5, 6]⟩, ⟨12, [0]⟩, ⟨13, []⟩, ⟨14, []⟩, ⟨15, []⟩])]

theorem room_s : SoundC prog 23 roomS := by
  refine sound_f tys_ok fnok_nil rfl func23 rfl call23 (D := pl23) ?_ ?_
  · intro args hp K h
    unfold roomS at h
    split at h
    · decide
    · decide
    · exact h.elim
  · intro args hp K h
    unfold roomS at h
    split at h
    · conv => whnf
      refine cond_t rfl ?_
      conv => whnf
      refine final_h [] h ?_
      repeat ((conv => whnf); refine same_i ?_)
      exact trivial
    · obtain ⟨h0, h⟩ := pre_e h
      unfold ringOK at h0
      conv => whnf
      refine cond_f rfl ?_
      conv => whnf
      refine pre_i (by decide +kernel) ?_
      conv => whnf
      refine pre_i (by unfold fits; omega) ?_
      conv => whnf
      refine final_h [0, 1] h ?_
      repeat ((conv => whnf); refine same_i ?_)
      exact trivial
    · exact h.elim

theorem parts_s : SoundC prog 38 partsS := by
  refine sound_f tys_ok fnok_nil rfl func38 rfl call38 (D := pl38) ?_ ?_
  · intro args hp K h
    unfold partsS at h
    split at h
    · exact Nat.le_of_ble_eq_true rfl
    · exact h.elim
  · intro args hp K h
    unfold partsS at h
    split at h
    · rename_i a k t n c b hh u m l
      obtain ⟨⟨h0, h1⟩, h⟩ := pre_e h
      unfold ringOK at h0
      obtain ⟨ht, hf⟩ := cond_e h
      have hm0 : 0 ≤ a.tmod n := Int.tmod_nonneg _ (by omega)
      have hm1 : a.tmod n < n := Int.tmod_lt_of_pos _ (by omega)
      repeat ((conv => whnf); first | refine pre_i (by first | omega | (unfold fits; omega) | decide +kernel) ?_ | refine cond_t rfl ?_ | refine cond_f rfl ?_ | refine same_i ?_)
      refine cond_i (fun hc => ?_) (fun hc => ?_)
      · have ht := ht hc
        rw [decide_eq_true_eq] at hc
        repeat ((conv => whnf); first | refine pre_i (by first | omega | (unfold fits; omega) | decide +kernel) ?_ | refine cond_t rfl ?_ | refine cond_f rfl ?_ | refine same_i ?_)
        refine final_h [0, 1] ht ?_
        repeat ((conv => whnf); first | refine pre_i (by first | omega | (unfold fits; omega) | decide +kernel) ?_ | refine cond_t rfl ?_ | refine cond_f rfl ?_ | refine same_i ?_)
        exact trivial
      · have hf := hf hc
        rw [decide_eq_false_iff_not] at hc
        repeat ((conv => whnf); first | refine pre_i (by first | omega | (unfold fits; omega) | decide +kernel) ?_ | refine cond_t rfl ?_ | refine cond_f rfl ?_ | refine same_i ?_)
        refine final_h [0, 1] hf ?_
        repeat ((conv => whnf); first | refine pre_i (by first | omega | (unfold fits; omega) | decide +kernel) ?_ | refine cond_t rfl ?_ | refine cond_f rfl ?_ | refine same_i ?_)
        exact trivial
    · exact h.elim

theorem drop_s : SoundC prog 39 dropS := by
  refine sound_f tys_ok fnok_nil rfl func39 rfl call39 (D := pl39) ?_ ?_
  · intro args hp K h
    unfold dropS at h
    split at h
    · exact Nat.le_of_ble_eq_true rfl
    · exact h.elim
  · intro args hp K h
    unfold dropS at h
    split at h
    · rename_i k t n c b hh u m l
      obtain ⟨⟨h0, h1⟩, h⟩ := pre_e h
      unfold ringOK at h0
      repeat ((conv => whnf); first | refine pre_i (by first | omega | (unfold fits; omega) | decide +kernel) ?_ | refine cond_t rfl ?_ | refine cond_f rfl ?_ | refine same_i ?_)
      refine final_h [0, 1] h ?_
      repeat ((conv => whnf); first | refine pre_i (by first | omega | (unfold fits; omega) | decide +kernel) ?_ | refine cond_t rfl ?_ | refine cond_f rfl ?_ | refine same_i ?_)
      exact trivial
    · exact h.elim
end Go.Sym.R
