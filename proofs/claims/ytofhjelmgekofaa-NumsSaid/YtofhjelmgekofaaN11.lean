/-
  Contracts of functions of the program, each said of symbolic values; no condition beyond each statement's own.
-/
import Derived.Test.YtofhjelmgekofaaN9
import Derived.Test.YtofhjelmgekofaaPrimes
set_option linter.unusedSimpArgs false
set_option linter.unusedVariables false
namespace Go.Sym.N
open Go Go.Proofs.Try Go.Sym.Num
set_option maxRecDepth 100000

theorem md_prime {w : Int} (hw : 0 ≤ w ∧ w ≤ 2) : Pr.IsP (md w) := by
  rcases w3 hw with rfl | rfl | rfl
  · exact Pr.isP_P
  · exact Pr.isP_N
  · exact Pr.isP_X
/-- a power that is one less than a number's order: its inverse -/
theorem inv_mul {w : Int} (hw : 0 ≤ w ∧ w ≤ 2) {a : Nat} (h0 : 0 < a) (h1 : a < md w) (b : Nat) : opN 3 (md w) a b * a % md w = 1 := by
  have hp := md_prime hw
  have hg := md_gt hw
  have hd : ¬ md w ∣ a := fun hd => by have := Nat.le_of_dvd h0 hd; omega
  have := Pr.fermat hp hd
  show a ^ (md w - 2) % md w * a % md w = 1
  rw [Nat.mod_mul_mod, ← Nat.pow_succ, show (md w - 2).succ = md w - 1 by omega]
  exact this
theorem inv_ne {w : Int} (hw : 0 ≤ w ∧ w ≤ 2) {a : Nat} (h0 : 0 < a) (h1 : a < md w) (b : Nat) : opN 3 (md w) a b ≠ 0 := fun e => by
  have := inv_mul hw h0 h1 b
  rw [e, Nat.zero_mul, Nat.zero_mod] at this
  cases this

/-- the orders of the drawn regions of halberdlaw9.NumRules -/
def pl6 : List (Nat × List PStep) := []
/-- the orders of the drawn regions of halberdlaw9.NumTurns -/
def pl7 : List (Nat × List PStep) := []

section
attribute [local irreducible] beV beB md opN okN okI
theorem numRules_vc (w : World) (z : Int) (x y u : List UInt8) :
    fnVC (lawG f6.ntmps tys lawFn w []) pl6 (codeOf f6) f6.results.toList [.int z, .str x, .str y, .str u] [] (fun r _ => r = .bool true) := by
  have hW := which (z := z)
  repeat ((conv => whnf); first | (refine pre_i ?hc ?_; case hc => first | exact (show planOK _ _ _ = true from by kernel_rfl) | assumption | omega | (unfold fits; omega) | decide +kernel | (constructor <;> first | assumption | omega) | (simp only [off_addO, ty3, ty4, ty5, ty9, ty24, ty35, ty41, ty42, ty50, ty67, ty69, ty70, ty71, ty72, ty77, ty78, ty79, ty94, ty97, ty108, off, offE] <;> omega) | (simp only [List.length_append, List.length_take, List.length_drop, List.length_nil, List.length_cons, List.length_replicate, List.length_set, off_addO, off, offE] <;> omega) | (simp only [off_addO, ty3, ty4, ty5, ty9, ty24, ty35, ty41, ty42, ty50, ty67, ty69, ty70, ty71, ty72, ty77, ty78, ty79, ty94, ty97, ty108, List.length_append, List.length_take, List.length_drop, List.length_nil, List.length_cons, List.length_replicate, List.length_set, off, offE] <;> omega) | (constructor <;> first | assumption | (simp only [off_addO, ty3, ty4, ty5, ty9, ty24, ty35, ty41, ty42, ty50, ty67, ty69, ty70, ty71, ty72, ty77, ty78, ty79, ty94, ty97, ty108, List.length_append, List.length_take, List.length_drop, List.length_nil, List.length_cons, List.length_replicate, List.length_set, off, offE] <;> omega))) | (refine cond_t ?hc ?_; case hc => first | rfl | assumption | (rw [decide_eq_true_eq]; omega) | (rw [decide_eq_false_iff_not]; omega) | (simp <;> omega)) | (refine cond_f ?hc ?_; case hc => first | rfl | assumption | (rw [decide_eq_true_eq]; omega) | (rw [decide_eq_false_iff_not]; omega) | (simp <;> omega)) | refine same_i ?_)
  conv => whnf
  generalize hWW : (((UInt64.ofInt z % UInt64.ofNat 3).toNat : Nat) : Int) = W at hW ⊢
  have hbig := md_big hW
  have hmlt := md_lt hW
  refine all_i fun A hA => ?_
  repeat ((conv => whnf); first | (refine pre_i ?hc ?_; case hc => first | exact (show planOK _ _ _ = true from by kernel_rfl) | assumption | omega | (unfold fits; omega) | decide +kernel | (constructor <;> first | assumption | omega) | (simp only [off_addO, ty3, ty4, ty5, ty9, ty24, ty35, ty41, ty42, ty50, ty67, ty69, ty70, ty71, ty72, ty77, ty78, ty79, ty94, ty97, ty108, off, offE] <;> omega) | (simp only [List.length_append, List.length_take, List.length_drop, List.length_nil, List.length_cons, List.length_replicate, List.length_set, off_addO, off, offE] <;> omega) | (simp only [off_addO, ty3, ty4, ty5, ty9, ty24, ty35, ty41, ty42, ty50, ty67, ty69, ty70, ty71, ty72, ty77, ty78, ty79, ty94, ty97, ty108, List.length_append, List.length_take, List.length_drop, List.length_nil, List.length_cons, List.length_replicate, List.length_set, off, offE] <;> omega) | (constructor <;> first | assumption | (simp only [off_addO, ty3, ty4, ty5, ty9, ty24, ty35, ty41, ty42, ty50, ty67, ty69, ty70, ty71, ty72, ty77, ty78, ty79, ty94, ty97, ty108, List.length_append, List.length_take, List.length_drop, List.length_nil, List.length_cons, List.length_replicate, List.length_set, off, offE] <;> omega))) | (refine cond_t ?hc ?_; case hc => first | rfl | assumption | (rw [decide_eq_true_eq]; omega) | (rw [decide_eq_false_iff_not]; omega) | (simp <;> omega)) | (refine cond_f ?hc ?_; case hc => first | rfl | assumption | (rw [decide_eq_true_eq]; omega) | (rw [decide_eq_false_iff_not]; omega) | (simp <;> omega)) | refine same_i ?_)
  conv => whnf
  refine all_i fun B hB => ?_
  repeat ((conv => whnf); first | (refine pre_i ?hc ?_; case hc => first | exact (show planOK _ _ _ = true from by kernel_rfl) | assumption | omega | (unfold fits; omega) | decide +kernel | (constructor <;> first | assumption | omega) | (simp only [off_addO, ty3, ty4, ty5, ty9, ty24, ty35, ty41, ty42, ty50, ty67, ty69, ty70, ty71, ty72, ty77, ty78, ty79, ty94, ty97, ty108, off, offE] <;> omega) | (simp only [List.length_append, List.length_take, List.length_drop, List.length_nil, List.length_cons, List.length_replicate, List.length_set, off_addO, off, offE] <;> omega) | (simp only [off_addO, ty3, ty4, ty5, ty9, ty24, ty35, ty41, ty42, ty50, ty67, ty69, ty70, ty71, ty72, ty77, ty78, ty79, ty94, ty97, ty108, List.length_append, List.length_take, List.length_drop, List.length_nil, List.length_cons, List.length_replicate, List.length_set, off, offE] <;> omega) | (constructor <;> first | assumption | (simp only [off_addO, ty3, ty4, ty5, ty9, ty24, ty35, ty41, ty42, ty50, ty67, ty69, ty70, ty71, ty72, ty77, ty78, ty79, ty94, ty97, ty108, List.length_append, List.length_take, List.length_drop, List.length_nil, List.length_cons, List.length_replicate, List.length_set, off, offE] <;> omega))) | (refine cond_t ?hc ?_; case hc => first | rfl | assumption | (rw [decide_eq_true_eq]; omega) | (rw [decide_eq_false_iff_not]; omega) | (simp <;> omega)) | (refine cond_f ?hc ?_; case hc => first | rfl | assumption | (rw [decide_eq_true_eq]; omega) | (rw [decide_eq_false_iff_not]; omega) | (simp <;> omega)) | refine same_i ?_)
  conv => whnf
  refine all_i fun C hC => ?_
  obtain ⟨m, hm⟩ : ∃ m, m = md W := ⟨_, rfl⟩
  have hmp : 0 < m := by omega
  obtain ⟨S, hS⟩ : ∃ S, S = (A + B) % m := ⟨_, rfl⟩
  obtain ⟨Q, hQ⟩ : ∃ S, S = A * C % m := ⟨_, rfl⟩
  obtain ⟨R, hR⟩ : ∃ S, S = C * B % m := ⟨_, rfl⟩
  have lS : S < m := by rw [hS]; exact Nat.mod_lt _ hmp
  have lQ : Q < m := by rw [hQ]; exact Nat.mod_lt _ hmp
  have lR : R < m := by rw [hR]; exact Nat.mod_lt _ hmp
  have d1 : decide (okN W (beB 32 A) (beB 32 B)) = true := decide_eq_true (okN_v hW hA hB)
  have d2 : decide (okN W (beB 32 B) (beB 32 A)) = true := decide_eq_true (okN_v hW hB hA)
  have d3 : decide (okN W (beB 32 S) (beB 32 B)) = true := decide_eq_true (okN_v hW (by omega) hB)
  have d4 : decide (okN W (beB 32 S) (beB 32 C)) = true := decide_eq_true (okN_v hW (by omega) hC)
  have d5 : decide (okN W (beB 32 A) (beB 32 C)) = true := decide_eq_true (okN_v hW hA hC)
  have d6 : decide (okN W (beB 32 C) (beB 32 B)) = true := decide_eq_true (okN_v hW hC hB)
  have d7 : decide (okN W (beB 32 Q) (beB 32 R)) = true := decide_eq_true (okN_v hW (by omega) (by omega))
  have r1 : beB 32 (opN 0 (md W) (beV (beB 32 A)) (beV (beB 32 B))) = beB 32 S := by
    rw [vB (by omega), vB (by omega), hS, hm]; unfold opN; rw [if_pos rfl]
  have r2 : beB 32 (opN 0 (md W) (beV (beB 32 B)) (beV (beB 32 A))) = beB 32 S := by
    rw [vB (by omega), vB (by omega), hS, hm, Nat.add_comm A B]; unfold opN; rw [if_pos rfl]
  have r3 : beB 32 (opN 1 (md W) (beV (beB 32 S)) (beV (beB 32 B))) = beB 32 A := by
    rw [vB (by omega), vB (by omega), hS, ← hm]; unfold opN; rw [if_neg (by decide), if_pos rfl, Nat.mod_add_mod, show A + B + (m - B) = A + m by omega, Nat.add_mod_right, Nat.mod_eq_of_lt (by omega)]
  have r4 : beB 32 (opN 2 (md W) (beV (beB 32 S)) (beV (beB 32 C))) = beB 32 ((Q + R) % m) := by
    rw [vB (by omega), vB (by omega), hS, hQ, hR, ← hm]; unfold opN; rw [if_neg (by decide), if_neg (by decide), if_pos rfl, Nat.mod_mul_mod, ← Nat.add_mod, Nat.add_mul, Nat.mul_comm B C]
  have r5 : beB 32 (opN 2 (md W) (beV (beB 32 A)) (beV (beB 32 C))) = beB 32 Q := by
    rw [vB (by omega), vB (by omega), hQ, hm]; unfold opN; rw [if_neg (by decide), if_neg (by decide), if_pos rfl]
  have r6 : beB 32 (opN 2 (md W) (beV (beB 32 C)) (beV (beB 32 B))) = beB 32 R := by
    rw [vB (by omega), vB (by omega), hR, hm]; unfold opN; rw [if_neg (by decide), if_neg (by decide), if_pos rfl]
  have r7 : beB 32 (opN 0 (md W) (beV (beB 32 Q)) (beV (beB 32 R))) = beB 32 ((Q + R) % m) := by
    rw [vB (by omega), vB (by omega), hm]; unfold opN; rw [if_pos rfl]
  repeat ((conv => whnf); first | (refine pre_i ?hc ?_; case hc => first | exact (show planOK _ _ _ = true from by kernel_rfl) | assumption | omega | (unfold fits; omega) | decide +kernel | (constructor <;> first | assumption | omega) | (simp only [off_addO, ty3, ty4, ty5, ty9, ty24, ty35, ty41, ty42, ty50, ty67, ty69, ty70, ty71, ty72, ty77, ty78, ty79, ty94, ty97, ty108, off, offE] <;> omega) | (simp only [List.length_append, List.length_take, List.length_drop, List.length_nil, List.length_cons, List.length_replicate, List.length_set, off_addO, off, offE] <;> omega) | (simp only [off_addO, ty3, ty4, ty5, ty9, ty24, ty35, ty41, ty42, ty50, ty67, ty69, ty70, ty71, ty72, ty77, ty78, ty79, ty94, ty97, ty108, List.length_append, List.length_take, List.length_drop, List.length_nil, List.length_cons, List.length_replicate, List.length_set, off, offE] <;> omega) | (constructor <;> first | assumption | (simp only [off_addO, ty3, ty4, ty5, ty9, ty24, ty35, ty41, ty42, ty50, ty67, ty69, ty70, ty71, ty72, ty77, ty78, ty79, ty94, ty97, ty108, List.length_append, List.length_take, List.length_drop, List.length_nil, List.length_cons, List.length_replicate, List.length_set, off, offE] <;> omega))) | (refine cond_t ?hc ?_; case hc => first | rfl | assumption | (rw [decide_eq_true_eq]; omega) | (rw [decide_eq_false_iff_not]; omega) | (simp <;> omega)) | (refine cond_f ?hc ?_; case hc => first | rfl | assumption | (rw [decide_eq_true_eq]; omega) | (rw [decide_eq_false_iff_not]; omega) | (simp <;> omega)) | refine same_i ?_)
  conv => whnf
  rw [r1, r2]
  repeat ((conv => whnf); first | (refine pre_i ?hc ?_; case hc => first | exact (show planOK _ _ _ = true from by kernel_rfl) | assumption | omega | (unfold fits; omega) | decide +kernel | (constructor <;> first | assumption | omega) | (simp only [off_addO, ty3, ty4, ty5, ty9, ty24, ty35, ty41, ty42, ty50, ty67, ty69, ty70, ty71, ty72, ty77, ty78, ty79, ty94, ty97, ty108, off, offE] <;> omega) | (simp only [List.length_append, List.length_take, List.length_drop, List.length_nil, List.length_cons, List.length_replicate, List.length_set, off_addO, off, offE] <;> omega) | (simp only [off_addO, ty3, ty4, ty5, ty9, ty24, ty35, ty41, ty42, ty50, ty67, ty69, ty70, ty71, ty72, ty77, ty78, ty79, ty94, ty97, ty108, List.length_append, List.length_take, List.length_drop, List.length_nil, List.length_cons, List.length_replicate, List.length_set, off, offE] <;> omega) | (constructor <;> first | assumption | (simp only [off_addO, ty3, ty4, ty5, ty9, ty24, ty35, ty41, ty42, ty50, ty67, ty69, ty70, ty71, ty72, ty77, ty78, ty79, ty94, ty97, ty108, List.length_append, List.length_take, List.length_drop, List.length_nil, List.length_cons, List.length_replicate, List.length_set, off, offE] <;> omega))) | (refine cond_t ?hc ?_; case hc => first | rfl | assumption | (rw [decide_eq_true_eq]; omega) | (rw [decide_eq_false_iff_not]; omega) | (simp <;> omega)) | (refine cond_f ?hc ?_; case hc => first | rfl | assumption | (rw [decide_eq_true_eq]; omega) | (rw [decide_eq_false_iff_not]; omega) | (simp <;> omega)) | refine same_i ?_)
  conv => whnf
  rw [r3, r4, r5, r6]
  repeat ((conv => whnf); first | (refine pre_i ?hc ?_; case hc => first | exact (show planOK _ _ _ = true from by kernel_rfl) | assumption | omega | (unfold fits; omega) | decide +kernel | (constructor <;> first | assumption | omega) | (simp only [off_addO, ty3, ty4, ty5, ty9, ty24, ty35, ty41, ty42, ty50, ty67, ty69, ty70, ty71, ty72, ty77, ty78, ty79, ty94, ty97, ty108, off, offE] <;> omega) | (simp only [List.length_append, List.length_take, List.length_drop, List.length_nil, List.length_cons, List.length_replicate, List.length_set, off_addO, off, offE] <;> omega) | (simp only [off_addO, ty3, ty4, ty5, ty9, ty24, ty35, ty41, ty42, ty50, ty67, ty69, ty70, ty71, ty72, ty77, ty78, ty79, ty94, ty97, ty108, List.length_append, List.length_take, List.length_drop, List.length_nil, List.length_cons, List.length_replicate, List.length_set, off, offE] <;> omega) | (constructor <;> first | assumption | (simp only [off_addO, ty3, ty4, ty5, ty9, ty24, ty35, ty41, ty42, ty50, ty67, ty69, ty70, ty71, ty72, ty77, ty78, ty79, ty94, ty97, ty108, List.length_append, List.length_take, List.length_drop, List.length_nil, List.length_cons, List.length_replicate, List.length_set, off, offE] <;> omega))) | (refine cond_t ?hc ?_; case hc => first | rfl | assumption | (rw [decide_eq_true_eq]; omega) | (rw [decide_eq_false_iff_not]; omega) | (simp <;> omega)) | (refine cond_f ?hc ?_; case hc => first | rfl | assumption | (rw [decide_eq_true_eq]; omega) | (rw [decide_eq_false_iff_not]; omega) | (simp <;> omega)) | refine same_i ?_)
  conv => whnf
  rw [r7]
  by_cases hA0 : A = 0
  · have d8 : decide (okI W (beB 32 A)) = false := decide_eq_false (fun hh => by
      unfold okI at hh
      exact hh.2 (by rw [vB (by omega), hA0, opN3_zero (by omega)]))
    have d9 : decide (okN W [] (beB 32 A)) = false := decide_eq_false (fun hh => by unfold okN at hh; exact absurd hh.2.1 (by decide))
    have e0 : beB 32 A = beB 32 (Int.toNat 0) := by rw [hA0]; rfl
    have g0 := decide_eq_true e0
    have k0 := bt e0
    repeat ((conv => whnf); first | (refine pre_i ?hc ?_; case hc => first | exact (show planOK _ _ _ = true from by kernel_rfl) | assumption | omega | (unfold fits; omega) | decide +kernel | (constructor <;> first | assumption | omega) | (simp only [off_addO, ty3, ty4, ty5, ty9, ty24, ty35, ty41, ty42, ty50, ty67, ty69, ty70, ty71, ty72, ty77, ty78, ty79, ty94, ty97, ty108, off, offE] <;> omega) | (simp only [List.length_append, List.length_take, List.length_drop, List.length_nil, List.length_cons, List.length_replicate, List.length_set, off_addO, off, offE] <;> omega) | (simp only [off_addO, ty3, ty4, ty5, ty9, ty24, ty35, ty41, ty42, ty50, ty67, ty69, ty70, ty71, ty72, ty77, ty78, ty79, ty94, ty97, ty108, List.length_append, List.length_take, List.length_drop, List.length_nil, List.length_cons, List.length_replicate, List.length_set, off, offE] <;> omega) | (constructor <;> first | assumption | (simp only [off_addO, ty3, ty4, ty5, ty9, ty24, ty35, ty41, ty42, ty50, ty67, ty69, ty70, ty71, ty72, ty77, ty78, ty79, ty94, ty97, ty108, List.length_append, List.length_take, List.length_drop, List.length_nil, List.length_cons, List.length_replicate, List.length_set, off, offE] <;> omega))) | (refine cond_t ?hc ?_; case hc => first | rfl | assumption | (rw [decide_eq_true_eq]; omega) | (rw [decide_eq_false_iff_not]; omega) | (simp <;> omega) | exact g0 | (rw [g0]; rfl)) | (refine cond_f ?hc ?_; case hc => first | rfl | assumption | (rw [decide_eq_true_eq]; omega) | (rw [decide_eq_false_iff_not]; omega) | (simp <;> omega) | exact g0 | (rw [g0]; rfl)) | refine same_i ?_)
    conv => whnf
    refine final_h (hp' := []) [] rfl ?_
    repeat ((conv => whnf); first | (refine pre_i ?hc ?_; case hc => first | exact (show planOK _ _ _ = true from by kernel_rfl) | assumption | omega | (unfold fits; omega) | decide +kernel | (constructor <;> first | assumption | omega) | (simp only [off_addO, ty3, ty4, ty5, ty9, ty24, ty35, ty41, ty42, ty50, ty67, ty69, ty70, ty71, ty72, ty77, ty78, ty79, ty94, ty97, ty108, off, offE] <;> omega) | (simp only [List.length_append, List.length_take, List.length_drop, List.length_nil, List.length_cons, List.length_replicate, List.length_set, off_addO, off, offE] <;> omega) | (simp only [off_addO, ty3, ty4, ty5, ty9, ty24, ty35, ty41, ty42, ty50, ty67, ty69, ty70, ty71, ty72, ty77, ty78, ty79, ty94, ty97, ty108, List.length_append, List.length_take, List.length_drop, List.length_nil, List.length_cons, List.length_replicate, List.length_set, off, offE] <;> omega) | (constructor <;> first | assumption | (simp only [off_addO, ty3, ty4, ty5, ty9, ty24, ty35, ty41, ty42, ty50, ty67, ty69, ty70, ty71, ty72, ty77, ty78, ty79, ty94, ty97, ty108, List.length_append, List.length_take, List.length_drop, List.length_nil, List.length_cons, List.length_replicate, List.length_set, off, offE] <;> omega))) | (refine cond_t ?hc ?_; case hc => first | rfl | assumption | (rw [decide_eq_true_eq]; omega) | (rw [decide_eq_false_iff_not]; omega) | (simp <;> omega)) | (refine cond_f ?hc ?_; case hc => first | rfl | assumption | (rw [decide_eq_true_eq]; omega) | (rw [decide_eq_false_iff_not]; omega) | (simp <;> omega)) | refine same_i ?_)
    exact trivial
  · obtain ⟨I, hI⟩ : ∃ I, I = opN 3 (md W) A A := ⟨_, rfl⟩
    have lI : I < md W := by rw [hI]; exact opN_lt (by omega)
    have d8 : decide (okI W (beB 32 A)) = true := decide_eq_true (okI_v hW hA (inv_ne hW (by omega) hA A))
    have r8 : beB 32 (opN 3 (md W) (beV (beB 32 A)) (beV (beB 32 A))) = beB 32 I := by rw [vB (by omega), hI]
    have d9 : decide (okN W (beB 32 I) (beB 32 A)) = true := decide_eq_true (okN_v hW lI hA)
    have r9 : beB 32 (opN 2 (md W) (beV (beB 32 I)) (beV (beB 32 A))) = beB 32 (Int.toNat 1) := by
      rw [vB (by omega), vB (by omega), hI]
      have := inv_mul hW (by omega) hA A
      generalize opN 3 (md W) A A = J at this
      unfold opN; rw [if_neg (by decide), if_neg (by decide), if_pos rfl, this]; rfl
    have e0 : ¬ beB 32 A = beB 32 (Int.toNat 0) := fun e => hA0 (beB_inj (by omega) (by decide) e)
    have g0 := decide_eq_false e0
    repeat ((conv => whnf); first | (refine pre_i ?hc ?_; case hc => first | exact (show planOK _ _ _ = true from by kernel_rfl) | assumption | omega | (unfold fits; omega) | decide +kernel | (constructor <;> first | assumption | omega) | (simp only [off_addO, ty3, ty4, ty5, ty9, ty24, ty35, ty41, ty42, ty50, ty67, ty69, ty70, ty71, ty72, ty77, ty78, ty79, ty94, ty97, ty108, off, offE] <;> omega) | (simp only [List.length_append, List.length_take, List.length_drop, List.length_nil, List.length_cons, List.length_replicate, List.length_set, off_addO, off, offE] <;> omega) | (simp only [off_addO, ty3, ty4, ty5, ty9, ty24, ty35, ty41, ty42, ty50, ty67, ty69, ty70, ty71, ty72, ty77, ty78, ty79, ty94, ty97, ty108, List.length_append, List.length_take, List.length_drop, List.length_nil, List.length_cons, List.length_replicate, List.length_set, off, offE] <;> omega) | (constructor <;> first | assumption | (simp only [off_addO, ty3, ty4, ty5, ty9, ty24, ty35, ty41, ty42, ty50, ty67, ty69, ty70, ty71, ty72, ty77, ty78, ty79, ty94, ty97, ty108, List.length_append, List.length_take, List.length_drop, List.length_nil, List.length_cons, List.length_replicate, List.length_set, off, offE] <;> omega))) | (refine cond_t ?hc ?_; case hc => first | rfl | assumption | (rw [decide_eq_true_eq]; omega) | (rw [decide_eq_false_iff_not]; omega) | (simp <;> omega)) | (refine cond_f ?hc ?_; case hc => first | rfl | assumption | (rw [decide_eq_true_eq]; omega) | (rw [decide_eq_false_iff_not]; omega) | (simp <;> omega)) | refine same_i ?_)
    conv => whnf
    rw [r8]
    repeat ((conv => whnf); first | (refine pre_i ?hc ?_; case hc => first | exact (show planOK _ _ _ = true from by kernel_rfl) | assumption | omega | (unfold fits; omega) | decide +kernel | (constructor <;> first | assumption | omega) | (simp only [off_addO, ty3, ty4, ty5, ty9, ty24, ty35, ty41, ty42, ty50, ty67, ty69, ty70, ty71, ty72, ty77, ty78, ty79, ty94, ty97, ty108, off, offE] <;> omega) | (simp only [List.length_append, List.length_take, List.length_drop, List.length_nil, List.length_cons, List.length_replicate, List.length_set, off_addO, off, offE] <;> omega) | (simp only [off_addO, ty3, ty4, ty5, ty9, ty24, ty35, ty41, ty42, ty50, ty67, ty69, ty70, ty71, ty72, ty77, ty78, ty79, ty94, ty97, ty108, List.length_append, List.length_take, List.length_drop, List.length_nil, List.length_cons, List.length_replicate, List.length_set, off, offE] <;> omega) | (constructor <;> first | assumption | (simp only [off_addO, ty3, ty4, ty5, ty9, ty24, ty35, ty41, ty42, ty50, ty67, ty69, ty70, ty71, ty72, ty77, ty78, ty79, ty94, ty97, ty108, List.length_append, List.length_take, List.length_drop, List.length_nil, List.length_cons, List.length_replicate, List.length_set, off, offE] <;> omega))) | (refine cond_t ?hc ?_; case hc => first | rfl | assumption | (rw [decide_eq_true_eq]; omega) | (rw [decide_eq_false_iff_not]; omega) | (simp <;> omega)) | (refine cond_f ?hc ?_; case hc => first | rfl | assumption | (rw [decide_eq_true_eq]; omega) | (rw [decide_eq_false_iff_not]; omega) | (simp <;> omega)) | refine same_i ?_)
    conv => whnf
    rw [r9]
    repeat ((conv => whnf); first | (refine pre_i ?hc ?_; case hc => first | exact (show planOK _ _ _ = true from by kernel_rfl) | assumption | omega | (unfold fits; omega) | decide +kernel | (constructor <;> first | assumption | omega) | (simp only [off_addO, ty3, ty4, ty5, ty9, ty24, ty35, ty41, ty42, ty50, ty67, ty69, ty70, ty71, ty72, ty77, ty78, ty79, ty94, ty97, ty108, off, offE] <;> omega) | (simp only [List.length_append, List.length_take, List.length_drop, List.length_nil, List.length_cons, List.length_replicate, List.length_set, off_addO, off, offE] <;> omega) | (simp only [off_addO, ty3, ty4, ty5, ty9, ty24, ty35, ty41, ty42, ty50, ty67, ty69, ty70, ty71, ty72, ty77, ty78, ty79, ty94, ty97, ty108, List.length_append, List.length_take, List.length_drop, List.length_nil, List.length_cons, List.length_replicate, List.length_set, off, offE] <;> omega) | (constructor <;> first | assumption | (simp only [off_addO, ty3, ty4, ty5, ty9, ty24, ty35, ty41, ty42, ty50, ty67, ty69, ty70, ty71, ty72, ty77, ty78, ty79, ty94, ty97, ty108, List.length_append, List.length_take, List.length_drop, List.length_nil, List.length_cons, List.length_replicate, List.length_set, off, offE] <;> omega))) | (refine cond_t ?hc ?_; case hc => first | rfl | assumption | (rw [decide_eq_true_eq]; omega) | (rw [decide_eq_false_iff_not]; omega) | (simp <;> omega) | exact g0 | (rw [g0]; rfl)) | (refine cond_f ?hc ?_; case hc => first | rfl | assumption | (rw [decide_eq_true_eq]; omega) | (rw [decide_eq_false_iff_not]; omega) | (simp <;> omega) | exact g0 | (rw [g0]; rfl)) | refine same_i ?_)
    conv => whnf
    refine final_h (hp' := []) [] rfl ?_
    conv => whnf
    refine same_q (by rw [decide_eq_true (rfl : beB 32 (Int.toNat 1) = beB 32 (Int.toNat 1))]; rfl) ?_
    exact trivial
theorem numTurns_vc (w : World) (z : Int) (x y : List UInt8) :
    fnVC (lawG f7.ntmps tys lawFn w []) pl7 (codeOf f7) f7.results.toList [.int z, .str x, .str y] [] (fun r _ => r = .bool true) := by
  have hW := which (z := z)
  repeat ((conv => whnf); first | (refine pre_i ?hc ?_; case hc => first | exact (show planOK _ _ _ = true from by kernel_rfl) | assumption | omega | (unfold fits; omega) | decide +kernel | (constructor <;> first | assumption | omega) | (simp only [off_addO, ty3, ty4, ty5, ty9, ty24, ty35, ty41, ty42, ty50, ty67, ty69, ty70, ty71, ty72, ty77, ty78, ty79, ty94, ty97, ty108, off, offE] <;> omega) | (simp only [List.length_append, List.length_take, List.length_drop, List.length_nil, List.length_cons, List.length_replicate, List.length_set, off_addO, off, offE] <;> omega) | (simp only [off_addO, ty3, ty4, ty5, ty9, ty24, ty35, ty41, ty42, ty50, ty67, ty69, ty70, ty71, ty72, ty77, ty78, ty79, ty94, ty97, ty108, List.length_append, List.length_take, List.length_drop, List.length_nil, List.length_cons, List.length_replicate, List.length_set, off, offE] <;> omega) | (constructor <;> first | assumption | (simp only [off_addO, ty3, ty4, ty5, ty9, ty24, ty35, ty41, ty42, ty50, ty67, ty69, ty70, ty71, ty72, ty77, ty78, ty79, ty94, ty97, ty108, List.length_append, List.length_take, List.length_drop, List.length_nil, List.length_cons, List.length_replicate, List.length_set, off, offE] <;> omega))) | (refine cond_t ?hc ?_; case hc => first | rfl | assumption | (rw [decide_eq_true_eq]; omega) | (rw [decide_eq_false_iff_not]; omega) | (simp <;> omega)) | (refine cond_f ?hc ?_; case hc => first | rfl | assumption | (rw [decide_eq_true_eq]; omega) | (rw [decide_eq_false_iff_not]; omega) | (simp <;> omega)) | refine same_i ?_)
  conv => whnf
  generalize hWW : (((UInt64.ofInt z % UInt64.ofNat 3).toNat : Nat) : Int) = W at hW ⊢
  have hbig := md_big hW
  have hmlt := md_lt hW
  refine all_i fun A hA => ?_
  repeat ((conv => whnf); first | (refine pre_i ?hc ?_; case hc => first | exact (show planOK _ _ _ = true from by kernel_rfl) | assumption | omega | (unfold fits; omega) | decide +kernel | (constructor <;> first | assumption | omega) | (simp only [off_addO, ty3, ty4, ty5, ty9, ty24, ty35, ty41, ty42, ty50, ty67, ty69, ty70, ty71, ty72, ty77, ty78, ty79, ty94, ty97, ty108, off, offE] <;> omega) | (simp only [List.length_append, List.length_take, List.length_drop, List.length_nil, List.length_cons, List.length_replicate, List.length_set, off_addO, off, offE] <;> omega) | (simp only [off_addO, ty3, ty4, ty5, ty9, ty24, ty35, ty41, ty42, ty50, ty67, ty69, ty70, ty71, ty72, ty77, ty78, ty79, ty94, ty97, ty108, List.length_append, List.length_take, List.length_drop, List.length_nil, List.length_cons, List.length_replicate, List.length_set, off, offE] <;> omega) | (constructor <;> first | assumption | (simp only [off_addO, ty3, ty4, ty5, ty9, ty24, ty35, ty41, ty42, ty50, ty67, ty69, ty70, ty71, ty72, ty77, ty78, ty79, ty94, ty97, ty108, List.length_append, List.length_take, List.length_drop, List.length_nil, List.length_cons, List.length_replicate, List.length_set, off, offE] <;> omega))) | (refine cond_t ?hc ?_; case hc => first | rfl | assumption | (rw [decide_eq_true_eq]; omega) | (rw [decide_eq_false_iff_not]; omega) | (simp <;> omega)) | (refine cond_f ?hc ?_; case hc => first | rfl | assumption | (rw [decide_eq_true_eq]; omega) | (rw [decide_eq_false_iff_not]; omega) | (simp <;> omega)) | refine same_i ?_)
  conv => whnf
  refine all_i fun B hB => ?_
  obtain ⟨m, hm⟩ : ∃ m, m = md W := ⟨_, rfl⟩
  have hmp : 0 < m := by omega
  have b2 : Int.toNat 2 = 2 := rfl
  obtain ⟨P, hP⟩ : ∃ S, S = (A + (m - B)) % m := ⟨_, rfl⟩
  obtain ⟨Q, hQ⟩ : ∃ S, S = (B + (m - A)) % m := ⟨_, rfl⟩
  obtain ⟨S, hS⟩ : ∃ S, S = A * A % m := ⟨_, rfl⟩
  obtain ⟨T, hT⟩ : ∃ S, S = (A + A) % m := ⟨_, rfl⟩
  have lP : P < m := by rw [hP]; exact Nat.mod_lt _ hmp
  have lQ : Q < m := by rw [hQ]; exact Nat.mod_lt _ hmp
  have lS : S < m := by rw [hS]; exact Nat.mod_lt _ hmp
  have d1 : decide (okN W (beB 32 A) (beB 32 B)) = true := decide_eq_true (okN_v hW hA hB)
  have d2 : decide (okN W (beB 32 B) (beB 32 A)) = true := decide_eq_true (okN_v hW hB hA)
  have d3 : decide (okN W (beB 32 P) (beB 32 Q)) = true := decide_eq_true (okN_v hW (by omega) (by omega))
  have d4 : decide (okN W (beB 32 A) (beB 32 A)) = true := decide_eq_true (okN_v hW hA hA)
  have d5 : decide (okN W (beB 32 A) (beB 32 (Int.toNat 2))) = true := decide_eq_true (okN_v hW hA (by omega))
  have r1 : beB 32 (opN 1 (md W) (beV (beB 32 A)) (beV (beB 32 B))) = beB 32 P := by
    rw [vB (by omega), vB (by omega), hP, hm]; unfold opN; rw [if_neg (by decide), if_pos rfl]
  have r2 : beB 32 (opN 1 (md W) (beV (beB 32 B)) (beV (beB 32 A))) = beB 32 Q := by
    rw [vB (by omega), vB (by omega), hQ, hm]; unfold opN; rw [if_neg (by decide), if_pos rfl]
  have r3 : beB 32 (opN 0 (md W) (beV (beB 32 P)) (beV (beB 32 Q))) = beB 32 (Int.toNat 0) := by
    rw [vB (by omega), vB (by omega), hP, hQ, ← hm]; unfold opN; rw [if_pos rfl, ← Nat.add_mod, show A + (m - B) + (B + (m - A)) = m + m by omega, Nat.add_mod_right, Nat.mod_self]; rfl
  have r4 : beB 32 (opN 0 (md W) (beV (beB 32 A)) (beV (beB 32 A))) = beB 32 T := by
    rw [vB (by omega), hT, hm]; unfold opN; rw [if_pos rfl]
  have r5 : beB 32 (opN 2 (md W) (beV (beB 32 A)) (beV (beB 32 (Int.toNat 2)))) = beB 32 T := by
    rw [vB (by omega), vB (by omega), hT, hm, b2]; unfold opN; rw [if_neg (by decide), if_neg (by decide), if_pos rfl, Nat.mul_two]
  have r6 : beB 32 (opN 2 (md W) (beV (beB 32 A)) (beV (beB 32 A))) = beB 32 S := by
    rw [vB (by omega), hS, hm]; unfold opN; rw [if_neg (by decide), if_neg (by decide), if_pos rfl]
  repeat ((conv => whnf); first | (refine pre_i ?hc ?_; case hc => first | exact (show planOK _ _ _ = true from by kernel_rfl) | assumption | omega | (unfold fits; omega) | decide +kernel | (constructor <;> first | assumption | omega) | (simp only [off_addO, ty3, ty4, ty5, ty9, ty24, ty35, ty41, ty42, ty50, ty67, ty69, ty70, ty71, ty72, ty77, ty78, ty79, ty94, ty97, ty108, off, offE] <;> omega) | (simp only [List.length_append, List.length_take, List.length_drop, List.length_nil, List.length_cons, List.length_replicate, List.length_set, off_addO, off, offE] <;> omega) | (simp only [off_addO, ty3, ty4, ty5, ty9, ty24, ty35, ty41, ty42, ty50, ty67, ty69, ty70, ty71, ty72, ty77, ty78, ty79, ty94, ty97, ty108, List.length_append, List.length_take, List.length_drop, List.length_nil, List.length_cons, List.length_replicate, List.length_set, off, offE] <;> omega) | (constructor <;> first | assumption | (simp only [off_addO, ty3, ty4, ty5, ty9, ty24, ty35, ty41, ty42, ty50, ty67, ty69, ty70, ty71, ty72, ty77, ty78, ty79, ty94, ty97, ty108, List.length_append, List.length_take, List.length_drop, List.length_nil, List.length_cons, List.length_replicate, List.length_set, off, offE] <;> omega))) | (refine cond_t ?hc ?_; case hc => first | rfl | assumption | (rw [decide_eq_true_eq]; omega) | (rw [decide_eq_false_iff_not]; omega) | (simp <;> omega)) | (refine cond_f ?hc ?_; case hc => first | rfl | assumption | (rw [decide_eq_true_eq]; omega) | (rw [decide_eq_false_iff_not]; omega) | (simp <;> omega)) | refine same_i ?_)
  conv => whnf
  rw [r1, r2]
  repeat ((conv => whnf); first | (refine pre_i ?hc ?_; case hc => first | exact (show planOK _ _ _ = true from by kernel_rfl) | assumption | omega | (unfold fits; omega) | decide +kernel | (constructor <;> first | assumption | omega) | (simp only [off_addO, ty3, ty4, ty5, ty9, ty24, ty35, ty41, ty42, ty50, ty67, ty69, ty70, ty71, ty72, ty77, ty78, ty79, ty94, ty97, ty108, off, offE] <;> omega) | (simp only [List.length_append, List.length_take, List.length_drop, List.length_nil, List.length_cons, List.length_replicate, List.length_set, off_addO, off, offE] <;> omega) | (simp only [off_addO, ty3, ty4, ty5, ty9, ty24, ty35, ty41, ty42, ty50, ty67, ty69, ty70, ty71, ty72, ty77, ty78, ty79, ty94, ty97, ty108, List.length_append, List.length_take, List.length_drop, List.length_nil, List.length_cons, List.length_replicate, List.length_set, off, offE] <;> omega) | (constructor <;> first | assumption | (simp only [off_addO, ty3, ty4, ty5, ty9, ty24, ty35, ty41, ty42, ty50, ty67, ty69, ty70, ty71, ty72, ty77, ty78, ty79, ty94, ty97, ty108, List.length_append, List.length_take, List.length_drop, List.length_nil, List.length_cons, List.length_replicate, List.length_set, off, offE] <;> omega))) | (refine cond_t ?hc ?_; case hc => first | rfl | assumption | (rw [decide_eq_true_eq]; omega) | (rw [decide_eq_false_iff_not]; omega) | (simp <;> omega)) | (refine cond_f ?hc ?_; case hc => first | rfl | assumption | (rw [decide_eq_true_eq]; omega) | (rw [decide_eq_false_iff_not]; omega) | (simp <;> omega)) | refine same_i ?_)
  conv => whnf
  rw [r3, r4, r5, r6]
  by_cases hA0 : A = 0
  · have d8 : decide (okI W (beB 32 A)) = false := decide_eq_false (fun hh => by
      unfold okI at hh
      exact hh.2 (by rw [vB (by omega), hA0, opN3_zero (by omega)]))
    have d9 : decide (okN W (beB 32 S) []) = false := decide_eq_false (fun hh => by unfold okN at hh; exact absurd hh.2.2.1 (by decide))
    have d10 : decide (okI W []) = false := decide_eq_false (fun hh => by unfold okI at hh; exact absurd hh.1.2.1 (by decide))
    have e0 : beB 32 A = beB 32 (Int.toNat 0) := by rw [hA0]; rfl
    have g0 := decide_eq_true e0
    have k0 := bt e0
    repeat ((conv => whnf); first | (refine pre_i ?hc ?_; case hc => first | exact (show planOK _ _ _ = true from by kernel_rfl) | assumption | omega | (unfold fits; omega) | decide +kernel | (constructor <;> first | assumption | omega) | (simp only [off_addO, ty3, ty4, ty5, ty9, ty24, ty35, ty41, ty42, ty50, ty67, ty69, ty70, ty71, ty72, ty77, ty78, ty79, ty94, ty97, ty108, off, offE] <;> omega) | (simp only [List.length_append, List.length_take, List.length_drop, List.length_nil, List.length_cons, List.length_replicate, List.length_set, off_addO, off, offE] <;> omega) | (simp only [off_addO, ty3, ty4, ty5, ty9, ty24, ty35, ty41, ty42, ty50, ty67, ty69, ty70, ty71, ty72, ty77, ty78, ty79, ty94, ty97, ty108, List.length_append, List.length_take, List.length_drop, List.length_nil, List.length_cons, List.length_replicate, List.length_set, off, offE] <;> omega) | (constructor <;> first | assumption | (simp only [off_addO, ty3, ty4, ty5, ty9, ty24, ty35, ty41, ty42, ty50, ty67, ty69, ty70, ty71, ty72, ty77, ty78, ty79, ty94, ty97, ty108, List.length_append, List.length_take, List.length_drop, List.length_nil, List.length_cons, List.length_replicate, List.length_set, off, offE] <;> omega))) | (refine cond_t ?hc ?_; case hc => first | rfl | assumption | (rw [decide_eq_true_eq]; omega) | (rw [decide_eq_false_iff_not]; omega) | (simp <;> omega) | exact g0 | (rw [g0]; rfl)) | (refine cond_f ?hc ?_; case hc => first | rfl | assumption | (rw [decide_eq_true_eq]; omega) | (rw [decide_eq_false_iff_not]; omega) | (simp <;> omega) | exact g0 | (rw [g0]; rfl)) | refine same_i ?_)
    conv => whnf
    refine final_h (hp' := []) [] rfl ?_
    repeat ((conv => whnf); first | (refine pre_i ?hc ?_; case hc => first | exact (show planOK _ _ _ = true from by kernel_rfl) | assumption | omega | (unfold fits; omega) | decide +kernel | (constructor <;> first | assumption | omega) | (simp only [off_addO, ty3, ty4, ty5, ty9, ty24, ty35, ty41, ty42, ty50, ty67, ty69, ty70, ty71, ty72, ty77, ty78, ty79, ty94, ty97, ty108, off, offE] <;> omega) | (simp only [List.length_append, List.length_take, List.length_drop, List.length_nil, List.length_cons, List.length_replicate, List.length_set, off_addO, off, offE] <;> omega) | (simp only [off_addO, ty3, ty4, ty5, ty9, ty24, ty35, ty41, ty42, ty50, ty67, ty69, ty70, ty71, ty72, ty77, ty78, ty79, ty94, ty97, ty108, List.length_append, List.length_take, List.length_drop, List.length_nil, List.length_cons, List.length_replicate, List.length_set, off, offE] <;> omega) | (constructor <;> first | assumption | (simp only [off_addO, ty3, ty4, ty5, ty9, ty24, ty35, ty41, ty42, ty50, ty67, ty69, ty70, ty71, ty72, ty77, ty78, ty79, ty94, ty97, ty108, List.length_append, List.length_take, List.length_drop, List.length_nil, List.length_cons, List.length_replicate, List.length_set, off, offE] <;> omega))) | (refine cond_t ?hc ?_; case hc => first | rfl | assumption | (rw [decide_eq_true_eq]; omega) | (rw [decide_eq_false_iff_not]; omega) | (simp <;> omega)) | (refine cond_f ?hc ?_; case hc => first | rfl | assumption | (rw [decide_eq_true_eq]; omega) | (rw [decide_eq_false_iff_not]; omega) | (simp <;> omega)) | refine same_i ?_)
    exact trivial
  · obtain ⟨I, hI⟩ : ∃ I, I = opN 3 (md W) A A := ⟨_, rfl⟩
    have lI : I < md W := by rw [hI]; exact opN_lt (by omega)
    have hIA := inv_mul hW (by omega) hA A
    rw [← hI] at hIA
    have hI0 : 0 < I := Nat.pos_of_ne_zero fun e => by rw [e, Nat.zero_mul, Nat.zero_mod] at hIA; cases hIA
    have d8 : decide (okI W (beB 32 A)) = true := decide_eq_true (okI_v hW hA (inv_ne hW (by omega) hA A))
    have r8 : beB 32 (opN 3 (md W) (beV (beB 32 A)) (beV (beB 32 A))) = beB 32 I := by rw [vB (by omega), hI]
    have d9 : decide (okN W (beB 32 S) (beB 32 I)) = true := decide_eq_true (okN_v hW (by omega) lI)
    have r9 : beB 32 (opN 2 (md W) (beV (beB 32 S)) (beV (beB 32 I))) = beB 32 A := by
      rw [vB (by omega), vB (by omega), hS, hm]
      unfold opN; rw [if_neg (by decide), if_neg (by decide), if_pos rfl, Nat.mod_mul_mod, show A * A * I = A * (I * A) by rw [Nat.mul_assoc, Nat.mul_comm A I], Nat.mul_mod, hIA, Nat.mul_one, Nat.mod_mod, Nat.mod_eq_of_lt hA]
    have d10 : decide (okI W (beB 32 I)) = true := decide_eq_true (okI_v hW lI (inv_ne hW hI0 lI I))
    have r10 : beB 32 (opN 3 (md W) (beV (beB 32 I)) (beV (beB 32 I))) = beB 32 A := by
      rw [vB (by omega)]
      have hJ := inv_mul hW hI0 lI I
      have lJ : opN 3 (md W) I I < md W := opN_lt (by omega)
      generalize opN 3 (md W) I I = J at hJ lJ
      have : J * (I * A) % md W = A := by rw [← Nat.mul_assoc, Nat.mul_mod, hJ, Nat.one_mul, Nat.mod_mod, Nat.mod_eq_of_lt hA]
      rw [Nat.mul_mod, hIA, Nat.mul_one, Nat.mod_mod, Nat.mod_eq_of_lt lJ] at this
      rw [this]
    have e0 : ¬ beB 32 A = beB 32 (Int.toNat 0) := fun e => hA0 (beB_inj (by omega) (by decide) e)
    have g0 := decide_eq_false e0
    repeat ((conv => whnf); first | (refine pre_i ?hc ?_; case hc => first | exact (show planOK _ _ _ = true from by kernel_rfl) | assumption | omega | (unfold fits; omega) | decide +kernel | (constructor <;> first | assumption | omega) | (simp only [off_addO, ty3, ty4, ty5, ty9, ty24, ty35, ty41, ty42, ty50, ty67, ty69, ty70, ty71, ty72, ty77, ty78, ty79, ty94, ty97, ty108, off, offE] <;> omega) | (simp only [List.length_append, List.length_take, List.length_drop, List.length_nil, List.length_cons, List.length_replicate, List.length_set, off_addO, off, offE] <;> omega) | (simp only [off_addO, ty3, ty4, ty5, ty9, ty24, ty35, ty41, ty42, ty50, ty67, ty69, ty70, ty71, ty72, ty77, ty78, ty79, ty94, ty97, ty108, List.length_append, List.length_take, List.length_drop, List.length_nil, List.length_cons, List.length_replicate, List.length_set, off, offE] <;> omega) | (constructor <;> first | assumption | (simp only [off_addO, ty3, ty4, ty5, ty9, ty24, ty35, ty41, ty42, ty50, ty67, ty69, ty70, ty71, ty72, ty77, ty78, ty79, ty94, ty97, ty108, List.length_append, List.length_take, List.length_drop, List.length_nil, List.length_cons, List.length_replicate, List.length_set, off, offE] <;> omega))) | (refine cond_t ?hc ?_; case hc => first | rfl | assumption | (rw [decide_eq_true_eq]; omega) | (rw [decide_eq_false_iff_not]; omega) | (simp <;> omega) | exact g0 | (rw [g0]; rfl)) | (refine cond_f ?hc ?_; case hc => first | rfl | assumption | (rw [decide_eq_true_eq]; omega) | (rw [decide_eq_false_iff_not]; omega) | (simp <;> omega) | exact g0 | (rw [g0]; rfl)) | refine same_i ?_)
    conv => whnf
    rw [r8]
    repeat ((conv => whnf); first | (refine pre_i ?hc ?_; case hc => first | exact (show planOK _ _ _ = true from by kernel_rfl) | assumption | omega | (unfold fits; omega) | decide +kernel | (constructor <;> first | assumption | omega) | (simp only [off_addO, ty3, ty4, ty5, ty9, ty24, ty35, ty41, ty42, ty50, ty67, ty69, ty70, ty71, ty72, ty77, ty78, ty79, ty94, ty97, ty108, off, offE] <;> omega) | (simp only [List.length_append, List.length_take, List.length_drop, List.length_nil, List.length_cons, List.length_replicate, List.length_set, off_addO, off, offE] <;> omega) | (simp only [off_addO, ty3, ty4, ty5, ty9, ty24, ty35, ty41, ty42, ty50, ty67, ty69, ty70, ty71, ty72, ty77, ty78, ty79, ty94, ty97, ty108, List.length_append, List.length_take, List.length_drop, List.length_nil, List.length_cons, List.length_replicate, List.length_set, off, offE] <;> omega) | (constructor <;> first | assumption | (simp only [off_addO, ty3, ty4, ty5, ty9, ty24, ty35, ty41, ty42, ty50, ty67, ty69, ty70, ty71, ty72, ty77, ty78, ty79, ty94, ty97, ty108, List.length_append, List.length_take, List.length_drop, List.length_nil, List.length_cons, List.length_replicate, List.length_set, off, offE] <;> omega))) | (refine cond_t ?hc ?_; case hc => first | rfl | assumption | (rw [decide_eq_true_eq]; omega) | (rw [decide_eq_false_iff_not]; omega) | (simp <;> omega) | exact g0 | (rw [g0]; rfl)) | (refine cond_f ?hc ?_; case hc => first | rfl | assumption | (rw [decide_eq_true_eq]; omega) | (rw [decide_eq_false_iff_not]; omega) | (simp <;> omega) | exact g0 | (rw [g0]; rfl)) | refine same_i ?_)
    conv => whnf
    rw [r10]
    refine final_h (hp' := []) [] rfl ?_
    conv => whnf
    refine same_q (by rw [decide_eq_true (rfl : beB 32 A = beB 32 A)]; rfl) ?_
    exact trivial
end
theorem numRules_end (w : World) (z : Int) (_ : -9223372036854775808 ≤ z ∧ z ≤ 9223372036854775807) (x : List UInt8) (_ : x.length ≤ 140737488351232) (y : List UInt8) (_ : y.length ≤ 140737488351232) (u : List UInt8) (_ : u.length ≤ 140737488351232) :
    fnVC (lawG f6.ntmps tys lawFn w []) pl6 (codeOf f6) f6.results.toList [.int z, .str x, .str y, .str u] [] (fun r _ => r = .bool true) := numRules_vc w z x y u
theorem numTurns_end (w : World) (z : Int) (_ : -9223372036854775808 ≤ z ∧ z ≤ 9223372036854775807) (x : List UInt8) (_ : x.length ≤ 140737488351232) (y : List UInt8) (_ : y.length ≤ 140737488351232) :
    fnVC (lawG f7.ntmps tys lawFn w []) pl7 (codeOf f7) f7.results.toList [.int z, .str x, .str y] [] (fun r _ => r = .bool true) := numTurns_vc w z x y
end Go.Sym.N
