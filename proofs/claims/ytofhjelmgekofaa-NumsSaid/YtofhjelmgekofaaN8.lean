/-
  Contracts of functions of the program, each said of symbolic values; no condition beyond each statement's own.
-/
import Derived.Test.YtofhjelmgekofaaN7
set_option linter.unusedSimpArgs false
set_option linter.unusedVariables false
namespace Go.Sym.N
open Go Go.Proofs.Try Go.Sym.Num
set_option maxRecDepth 100000

theorem vB {n : Nat} (h : n < B4) : beV (beB 32 n) = n := by
  rw [beV_beB]; exact Nat.mod_eq_of_lt h
theorem okN_v {w : Int} {a b : Nat} (hw : 0 ≤ w ∧ w ≤ 2) (ha : a < md w) (hb : b < md w) : okN w (beB 32 a) (beB 32 b) := by
  have := md_lt hw
  exact ⟨hw, beB_len _ _, beB_len _ _, by rw [vB (by omega)]; exact ha, by rw [vB (by omega)]; exact hb⟩
theorem okI_v {w : Int} {a : Nat} (hw : 0 ≤ w ∧ w ≤ 2) (ha : a < md w) (h : opN 3 (md w) a a ≠ 0) : okI w (beB 32 a) := by
  have := md_lt hw
  exact ⟨⟨hw, beB_len _ _, by rw [vB (by omega)]; exact ha⟩, by rw [vB (by omega)]; exact h⟩
theorem bt {p : Prop} [Decidable p] (h : p) : (decide p == true) = true := by simp [h]
theorem opN3_one {m : Nat} (h : 1 < m) (b : Nat) : opN 3 m 1 b = 1 := by
  show 1 ^ (m - 2) % m = 1
  rw [Nat.one_pow, Nat.mod_eq_of_lt h]
theorem opN3_zero {m : Nat} (h : 2 < m) (b : Nat) : opN 3 m 0 b = 0 := by
  show 0 ^ (m - 2) % m = 0
  rw [Nat.zero_pow (by omega), Nat.zero_mod]
theorem md_big {w : Int} (hw : 0 ≤ w ∧ w ≤ 2) : 1000000000000 < md w := by rcases w3 hw with rfl | rfl | rfl <;> decide +kernel

/-- the orders of the drawn regions of halberdlaw9.awake -/
def pl30 : List (Nat × List PStep) := []

def awakeS : Spec := fun args hp K => match args, hp with
  | [], [] => K (.bool true) []
  | _, _ => False
def numFn : List (Nat × Spec) := [(32, wordS), (24, callS 0), (26, callS 1), (27, callS 2), (28, invCallS), (15, numS)]
theorem numFn_ok : ∀ f S, look numFn f = some S → SoundC prog f S := fnok_cons word_s (fnok_cons Add_s (fnok_cons Sub_s (fnok_cons Mul_s (fnok_cons Inv_s (fnok_cons num_s fnok_nil)))))

section
attribute [local irreducible] beV beB md opN okN okI
theorem awake_s : SoundC prog 30 awakeS := by
  refine sound_f tys_ok numFn_ok rfl func30 rfl call30 (D := pl30) ?_ ?_
  · intro args hp K h
    unfold awakeS at h
    split at h
    · exact Nat.le_of_ble_eq_true rfl
    · exact h.elim
  · intro args hp K h
    unfold awakeS at h
    split at h
    · have w0 : (0 : Int) ≤ 0 ∧ (0 : Int) ≤ 2 := by decide
      have w1 : (0 : Int) ≤ 1 ∧ (1 : Int) ≤ 2 := by decide
      have w2 : (0 : Int) ≤ 2 ∧ (2 : Int) ≤ 2 := by decide
      have m0 := md_big w0
      have m1 := md_big w1
      have m2 := md_big w2
      have l0 := md_lt w0
      have l1 := md_lt w1
      have l2 := md_lt w2
      have b5 : Int.toNat 5 = 5 := rfl
      have b7 : Int.toNat 7 = 7 := rfl
      have b6 : Int.toNat 6 = 6 := rfl
      have b1 : Int.toNat 1 = 1 := rfl
      have b0 : Int.toNat 0 = 0 := rfl
      have d1 := decide_eq_true (okN_v (a := Int.toNat 5) (b := Int.toNat 7) w0 (by omega) (by omega))
      have d2 := decide_eq_true (okN_v (a := Int.toNat 7) (b := Int.toNat 7) w1 (by omega) (by omega))
      have d3 := decide_eq_true (okN_v (a := Int.toNat 6) (b := Int.toNat 7) w2 (by omega) (by omega))
      have d4 := decide_eq_true (okI_v (a := Int.toNat 1) w0 (by omega) (by rw [b1, opN3_one (by omega)]; decide))
      have d5 : decide (okI 0 (beB 32 (Int.toNat 0))) = false := decide_eq_false (fun hh => by
        unfold okI at hh
        exact hh.2 (by rw [vB (by decide), b0, opN3_zero (by omega)]))
      have d6 : decide (okN 3 (beB 32 (Int.toNat 0)) (beB 32 (Int.toNat 0))) = false := decide_eq_false (fun hh => by unfold okN at hh; omega)
      have f1 : beB 32 (opN 0 (md 0) (beV (beB 32 (Int.toNat 5))) (beV (beB 32 (Int.toNat 7)))) = beB 32 (Int.toNat 12) := by
        rw [vB (by decide), vB (by decide)]; unfold opN; rw [if_pos rfl, Nat.mod_eq_of_lt (by omega)]; rfl
      have f2 : beB 32 (opN 1 (md 1) (beV (beB 32 (Int.toNat 7))) (beV (beB 32 (Int.toNat 7)))) = beB 32 (Int.toNat 0) := by
        rw [vB (by decide)]; unfold opN; rw [if_neg (by decide), if_pos rfl, show Int.toNat 7 + (md 1 - Int.toNat 7) = md 1 by omega, Nat.mod_self]; rfl
      have f3 : beB 32 (opN 2 (md 2) (beV (beB 32 (Int.toNat 6))) (beV (beB 32 (Int.toNat 7)))) = beB 32 (Int.toNat 42) := by
        rw [vB (by decide), vB (by decide)]; unfold opN; rw [if_neg (by decide), if_neg (by decide), if_pos rfl, Nat.mod_eq_of_lt (by rw [b6, b7]; omega)]; rfl
      have f4 : beB 32 (opN 3 (md 0) (beV (beB 32 (Int.toNat 1))) (beV (beB 32 (Int.toNat 1)))) = beB 32 (Int.toNat 1) := by
        rw [vB (by decide), b1, opN3_one (by omega)]
      have g1 := decide_eq_true f1
      have g2 := decide_eq_true f2
      have g3 := decide_eq_true f3
      have g4 := decide_eq_true f4
      have k1 := bt f1
      have k2 := bt f2
      have k3 := bt f3
      have k4 := bt f4
      repeat ((conv => whnf); first | (refine pre_i ?hc ?_; case hc => first | exact (show planOK _ _ _ = true from by kernel_rfl) | assumption | omega | (unfold fits; omega) | decide +kernel | (constructor <;> first | assumption | omega) | (simp only [off_addO, ty3, ty4, ty5, ty9, ty24, ty35, ty41, ty42, ty50, ty67, ty69, ty70, ty71, ty72, ty77, ty78, ty79, ty94, ty97, ty108, off, offE] <;> omega) | (simp only [List.length_append, List.length_take, List.length_drop, List.length_nil, List.length_cons, List.length_replicate, List.length_set, off_addO, off, offE] <;> omega) | (simp only [off_addO, ty3, ty4, ty5, ty9, ty24, ty35, ty41, ty42, ty50, ty67, ty69, ty70, ty71, ty72, ty77, ty78, ty79, ty94, ty97, ty108, List.length_append, List.length_take, List.length_drop, List.length_nil, List.length_cons, List.length_replicate, List.length_set, off, offE] <;> omega) | (constructor <;> first | assumption | (simp only [off_addO, ty3, ty4, ty5, ty9, ty24, ty35, ty41, ty42, ty50, ty67, ty69, ty70, ty71, ty72, ty77, ty78, ty79, ty94, ty97, ty108, List.length_append, List.length_take, List.length_drop, List.length_nil, List.length_cons, List.length_replicate, List.length_set, off, offE] <;> omega))) | (refine cond_t ?hc ?_; case hc => first | rfl | assumption | (rw [decide_eq_true_eq]; omega) | (rw [decide_eq_false_iff_not]; omega) | (simp <;> omega)) | (refine cond_f ?hc ?_; case hc => first | rfl | assumption | (rw [decide_eq_true_eq]; omega) | (rw [decide_eq_false_iff_not]; omega) | (simp <;> omega)) | refine same_i ?_)
      conv => whnf
      refine final_h (hp' := []) [] h ?_
      repeat ((conv => whnf); first | (refine pre_i ?hc ?_; case hc => first | exact (show planOK _ _ _ = true from by kernel_rfl) | assumption | omega | (unfold fits; omega) | decide +kernel | (constructor <;> first | assumption | omega) | (simp only [off_addO, ty3, ty4, ty5, ty9, ty24, ty35, ty41, ty42, ty50, ty67, ty69, ty70, ty71, ty72, ty77, ty78, ty79, ty94, ty97, ty108, off, offE] <;> omega) | (simp only [List.length_append, List.length_take, List.length_drop, List.length_nil, List.length_cons, List.length_replicate, List.length_set, off_addO, off, offE] <;> omega) | (simp only [off_addO, ty3, ty4, ty5, ty9, ty24, ty35, ty41, ty42, ty50, ty67, ty69, ty70, ty71, ty72, ty77, ty78, ty79, ty94, ty97, ty108, List.length_append, List.length_take, List.length_drop, List.length_nil, List.length_cons, List.length_replicate, List.length_set, off, offE] <;> omega) | (constructor <;> first | assumption | (simp only [off_addO, ty3, ty4, ty5, ty9, ty24, ty35, ty41, ty42, ty50, ty67, ty69, ty70, ty71, ty72, ty77, ty78, ty79, ty94, ty97, ty108, List.length_append, List.length_take, List.length_drop, List.length_nil, List.length_cons, List.length_replicate, List.length_set, off, offE] <;> omega))) | (refine cond_t ?hc ?_; case hc => first | rfl | assumption | (rw [decide_eq_true_eq]; omega) | (rw [decide_eq_false_iff_not]; omega) | (simp <;> omega)) | (refine cond_f ?hc ?_; case hc => first | rfl | assumption | (rw [decide_eq_true_eq]; omega) | (rw [decide_eq_false_iff_not]; omega) | (simp <;> omega)) | refine same_i ?_)
      exact trivial
    · exact h.elim
end
end Go.Sym.N
