/-
  Contracts of functions of the program, each said of symbolic values, and plain laws; no condition beyond each statement's own.
-/
import Derived.Test.YtofhjelmgekofaaG11
set_option linter.unusedSimpArgs false
set_option linter.unusedVariables false
namespace Go.Sym.N
open Go Go.Proofs.Try Go.Sym.Num
set_option maxRecDepth 100000
attribute [local irreducible] addSt subSt mont val lim md mlim riOf dbl invL beV beB opN mo toM mk

/-- the orders of the drawn regions of num.Mul$1 -/
def pl49 : List (Nat × List PStep) := [(1, [⟨0, []⟩, ⟨1, [0]⟩, ⟨2, [0, 1]⟩, ⟨4, [0, 1, 2]⟩, ⟨3, [0, 4]⟩, ⟨5, []⟩, ⟨6, []⟩])]
/-- the orders of the drawn regions of num.Inv$1 -/
def pl52 : List (Nat × List PStep) := []
/-- the orders of the drawn regions of num.both -/
def pl41 : List (Nat × List PStep) := []
/-- the orders of the drawn regions of num.Add -/
def pl24 : List (Nat × List PStep) := []
/-- the orders of the drawn regions of num.Sub -/
def pl26 : List (Nat × List PStep) := []
/-- the orders of the drawn regions of num.Mul -/
def pl27 : List (Nat × List PStep) := []
/-- the orders of the drawn regions of num.Inv -/
def pl28 : List (Nat × List PStep) := []

/-- which of the four a function value is -/
def gOf (f : FuncId) : Nat := if f = 42 then 0 else if f = 48 then 1 else if f = 49 then 2 else 3
def mul1S : Spec := fun args hp K => match args, hp with
  | [.ptr 0 0 0 [], .arr64 4 x, .arr64 4 y], [.mk t [.arr64 4 M, .u64 k, .arr64 4 o, .arr64 4 u]] =>
    Pre (x.length = 4 ∧ y.length = 4 ∧ val x < val M ∧ ∃ w, fldW w M k o u) (K (.arr64 4 (lim (val x * val y % val M))) [.mk t [.arr64 4 M, .u64 k, .arr64 4 o, .arr64 4 u]])
  | _, _ => False
def inv1S : Spec := fun args hp K => match args, hp with
  | [.ptr 0 0 0 [], .arr64 4 x, .arr64 4 y], [.mk t [.arr64 4 M, .u64 k, .arr64 4 o, .arr64 4 u]] =>
    Pre (x.length = 4 ∧ y.length = 4 ∧ val x < val M ∧ ∃ w, fldW w M k o u) (K (.arr64 4 (lim (val x ^ (val M - 2) % val M))) [.mk t [.arr64 4 M, .u64 k, .arr64 4 o, .arr64 4 u]])
  | _, _ => False
/-- two texts are numbers of a modulus -/
def okN (w : Int) (a b : List UInt8) : Prop := (0 ≤ w ∧ w ≤ 2) ∧ a.length = 32 ∧ b.length = 32 ∧ beV a < md w ∧ beV b < md w
instance (w : Int) (a b : List UInt8) : Decidable (okN w a b) := by unfold okN; exact inferInstance
def callS (g : Nat) : Spec := fun args hp K => match args, hp with
  | [.int w, .str a, .str b], [] => CondVC (decide (okN w a b)) (K (.tup [.str (beB 32 (opN g (md w) (beV a) (beV b))), .int 0]) []) (K (.tup [.str [], .int 900]) [])
  | _, _ => False
def bothS : Spec := fun args hp K => match args, hp with
  | [.int w, .str a, .str b, .func f []], [] => Pre (f = 42 ∨ f = 48 ∨ f = 49 ∨ f = 52) (CondVC (decide (okN w a b)) (K (.tup [.str (beB 32 (opN (gOf f) (md w) (beV a) (beV b))), .int 0]) []) (K (.tup [.str [], .int 900]) []))
  | _, _ => False

theorem mul1_s : SoundC prog 49 mul1S := by
  refine sound_f tys_ok (fnok_cons (Fmul_s riOf) (fnok_cons in_s fnok_nil)) rfl func49 rfl call49 (D := pl49) ?_ ?_
  · intro args hp K h
    unfold mul1S at h
    split at h
    · exact Nat.le_of_ble_eq_true rfl
    · exact h.elim
  · intro args hp K h
    unfold mul1S at h
    split at h
    · rename_i x y t M k o u
      obtain ⟨⟨hx, hy, hlt, w, hw⟩, h⟩ := pre_e h
      obtain ⟨e1, e2, e3, e4, e5, e6, e7, e8, e9⟩ := fldW_e hw
      have p1 : x.length = 4 ∧ val x < val M ∧ ∃ w, fldW w M k o u := ⟨hx, hlt, w, hw⟩
      have l1 := toM_lt (m := val M) (by omega) (val x)
      have v1 : val (lim (toM (val M) (val x))) = toM (val M) (val x) := val_lim (by omega)
      have p2 : (lim (toM (val M) (val x))).length = 4 ∧ y.length = 4 ∧ fldOK M k (riOf (val M)) ∧ val (lim (toM (val M) (val x))) < val M := ⟨lim_len _, hy, e2, by rw [v1]; exact l1⟩
      have hr : lim (mont (val M) (riOf (val M)) (val (lim (toM (val M) (val x)))) (val y)) = lim (val x * val y % val M) := congrArg lim (by rw [v1]; exact (by unfold mo; rfl : mont (val M) (riOf (val M)) (toM (val M) (val x)) (val y) = mo (val M) (toM (val M) (val x)) (val y)).trans (mo_l e9 _ _))
      repeat ((conv => whnf); first | (refine pre_i ?hc ?_; case hc => first | exact (show planOK _ _ _ = true from by kernel_rfl) | assumption | omega | (unfold fits; omega) | decide +kernel | (constructor <;> first | assumption | omega) | (simp only [off_addO, tysz, off, offE] <;> omega) | (simp only [lens, off_addO, off, offE] <;> omega) | (simp only [off_addO, tysz, lens, off, offE] <;> omega) | (constructor <;> first | assumption | (simp only [off_addO, tysz, lens, off, offE] <;> omega))) | (refine cond_t ?hc ?_; case hc => first | rfl | assumption | (rw [decide_eq_true_eq]; omega) | (rw [decide_eq_false_iff_not]; omega) | (simp <;> omega)) | (refine cond_f ?hc ?_; case hc => first | rfl | assumption | (rw [decide_eq_true_eq]; omega) | (rw [decide_eq_false_iff_not]; omega) | (simp <;> omega)) | refine same_i ?_)
      conv => whnf
      rw [hr]
      refine final_h [0] h ?_
      repeat ((conv => whnf); first | (refine pre_i ?hc ?_; case hc => first | exact (show planOK _ _ _ = true from by kernel_rfl) | assumption | omega | (unfold fits; omega) | decide +kernel | (constructor <;> first | assumption | omega) | (simp only [off_addO, tysz, off, offE] <;> omega) | (simp only [lens, off_addO, off, offE] <;> omega) | (simp only [off_addO, tysz, lens, off, offE] <;> omega) | (constructor <;> first | assumption | (simp only [off_addO, tysz, lens, off, offE] <;> omega))) | (refine cond_t ?hc ?_; case hc => first | rfl | assumption | (rw [decide_eq_true_eq]; omega) | (rw [decide_eq_false_iff_not]; omega) | (simp <;> omega)) | (refine cond_f ?hc ?_; case hc => first | rfl | assumption | (rw [decide_eq_true_eq]; omega) | (rw [decide_eq_false_iff_not]; omega) | (simp <;> omega)) | refine same_i ?_)
      exact trivial
    · exact h.elim
theorem inv1_s : SoundC prog 52 inv1S := by
  refine sound_f tys_ok (fnok_cons out_s (fnok_cons in_s (fnok_cons Finv_s fnok_nil))) rfl func52 rfl call52 (D := pl52) ?_ ?_
  · intro args hp K h
    unfold inv1S at h
    split at h
    · exact Nat.le_of_ble_eq_true rfl
    · exact h.elim
  · intro args hp K h
    unfold inv1S at h
    split at h
    · rename_i x y t M k o u
      obtain ⟨⟨hx, hy, hlt, w, hw⟩, h⟩ := pre_e h
      obtain ⟨e1, e2, e3, e4, e5, e6, e7, e8, e9⟩ := fldW_e hw
      have p1 : x.length = 4 ∧ val x < val M ∧ ∃ w, fldW w M k o u := ⟨hx, hlt, w, hw⟩
      have l1 := toM_lt (m := val M) (by omega) (val x)
      have v1 : val (lim (toM (val M) (val x))) = toM (val M) (val x) := val_lim (by omega)
      have p2 : (lim (toM (val M) (val x))).length = 4 ∧ val (lim (toM (val M) (val x))) < val M ∧ ∃ w, fldW w M k o u := ⟨lim_len _, by rw [v1]; exact l1, w, hw⟩
      have l2 := invL_lt (m := val M) (by omega) (toM (val M) (val x)) (val M - 2) 256
      have v2 : val (lim (invL (val M) (toM (val M) (val x)) (val M - 2) 256)) = invL (val M) (toM (val M) (val x)) (val M - 2) 256 := val_lim (by omega)
      have p3 : (lim (invL (val M) (toM (val M) (val x)) (val M - 2) 256)).length = 4 ∧ val (lim (invL (val M) (toM (val M) (val x)) (val M - 2) 256)) < val M ∧ ∃ w, fldW w M k o u := ⟨lim_len _, by rw [v2]; exact l2, w, hw⟩
      have hr : lim (mo (val M) (val (lim (invL (val M) (toM (val M) (val x)) (val M - 2) 256))) 1) = lim (val x ^ (val M - 2) % val M) := congrArg lim (by
        rw [v2, invL_pow e9 _ (by omega) 256 (Nat.le_refl _), mo_l e9, Nat.mul_one, Nat.sub_self, Nat.pow_zero, Nat.div_one])
      repeat ((conv => whnf); first | (refine pre_i ?hc ?_; case hc => first | exact (show planOK _ _ _ = true from by kernel_rfl) | assumption | omega | (unfold fits; omega) | decide +kernel | (constructor <;> first | assumption | omega) | (simp only [off_addO, tysz, off, offE] <;> omega) | (simp only [lens, off_addO, off, offE] <;> omega) | (simp only [off_addO, tysz, lens, off, offE] <;> omega) | (constructor <;> first | assumption | (simp only [off_addO, tysz, lens, off, offE] <;> omega))) | (refine cond_t ?hc ?_; case hc => first | rfl | assumption | (rw [decide_eq_true_eq]; omega) | (rw [decide_eq_false_iff_not]; omega) | (simp <;> omega)) | (refine cond_f ?hc ?_; case hc => first | rfl | assumption | (rw [decide_eq_true_eq]; omega) | (rw [decide_eq_false_iff_not]; omega) | (simp <;> omega)) | refine same_i ?_)
      conv => whnf
      rw [v1]
      repeat ((conv => whnf); first | (refine pre_i ?hc ?_; case hc => first | exact (show planOK _ _ _ = true from by kernel_rfl) | assumption | omega | (unfold fits; omega) | decide +kernel | (constructor <;> first | assumption | omega) | (simp only [off_addO, tysz, off, offE] <;> omega) | (simp only [lens, off_addO, off, offE] <;> omega) | (simp only [off_addO, tysz, lens, off, offE] <;> omega) | (constructor <;> first | assumption | (simp only [off_addO, tysz, lens, off, offE] <;> omega))) | (refine cond_t ?hc ?_; case hc => first | rfl | assumption | (rw [decide_eq_true_eq]; omega) | (rw [decide_eq_false_iff_not]; omega) | (simp <;> omega)) | (refine cond_f ?hc ?_; case hc => first | rfl | assumption | (rw [decide_eq_true_eq]; omega) | (rw [decide_eq_false_iff_not]; omega) | (simp <;> omega)) | refine same_i ?_)
      conv => whnf
      rw [hr]
      refine final_h [0] h ?_
      repeat ((conv => whnf); first | (refine pre_i ?hc ?_; case hc => first | exact (show planOK _ _ _ = true from by kernel_rfl) | assumption | omega | (unfold fits; omega) | decide +kernel | (constructor <;> first | assumption | omega) | (simp only [off_addO, tysz, off, offE] <;> omega) | (simp only [lens, off_addO, off, offE] <;> omega) | (simp only [off_addO, tysz, lens, off, offE] <;> omega) | (constructor <;> first | assumption | (simp only [off_addO, tysz, lens, off, offE] <;> omega))) | (refine cond_t ?hc ?_; case hc => first | rfl | assumption | (rw [decide_eq_true_eq]; omega) | (rw [decide_eq_false_iff_not]; omega) | (simp <;> omega)) | (refine cond_f ?hc ?_; case hc => first | rfl | assumption | (rw [decide_eq_true_eq]; omega) | (rw [decide_eq_false_iff_not]; omega) | (simp <;> omega)) | refine same_i ?_)
      exact trivial
    · exact h.elim
theorem both_s : SoundC prog 41 bothS := by
  refine sound_f tys_ok (fnok_cons new_s (fnok_cons read_s (fnok_cons Fadd_s (fnok_cons Fsub_s (fnok_cons mul1_s (fnok_cons inv1_s (fnok_cons bytes_s fnok_nil))))))) rfl func41 rfl call41 (D := pl41) ?_ ?_
  · intro args hp K h
    unfold bothS at h
    split at h
    · exact Nat.le_of_ble_eq_true rfl
    · exact h.elim
  · intro args hp K h
    unfold bothS at h
    split at h
    · rename_i w a b f
      obtain ⟨hf, h⟩ := pre_e h
      obtain ⟨ht, hn⟩ := cond_e h
      by_cases hw : 0 ≤ w ∧ w ≤ 2
      · have hml := mlim_len w
        have hmv := mlim_val hw
        have hmg := md_gt hw
        have hmlt := md_lt hw
        by_cases ha : a.length = 32
        · by_cases hb : b.length = 32
          · by_cases ha2 : beV a < md w
            · by_cases hb2 : beV b < md w
              · have ht := ht (by rw [decide_eq_true_eq]; exact ⟨hw, ha, hb, ha2, hb2⟩)
                have ha3 : beV a < val (mlim w) := by omega
                have hb3 : beV b < val (mlim w) := by omega
                have va : val (lim (beV a)) = beV a := val_lim (by omega)
                have vb : val (lim (beV b)) = beV b := val_lim (by omega)
                have p1 : (lim (beV a)).length = 4 ∧ (lim (beV b)).length = 4 ∧ (mlim w).length = 4 ∧ val (lim (beV a)) < val (mlim w) ∧ val (lim (beV b)) < val (mlim w) := by
                  rw [va, vb]; exact ⟨lim_len _, lim_len _, hml, ha3, hb3⟩
                have p2 : (lim (beV a)).length = 4 ∧ (lim (beV b)).length = 4 ∧ val (lim (beV a)) < val (mlim w) ∧ ∃ w', fldW w' (mlim w) (mk w) (lim (B4 % md w)) (lim (B4 * B4 % md w)) := by
                  rw [va]; exact ⟨lim_len _, lim_len _, ha3, w, hw, rfl, rfl, rfl, rfl⟩
                have hol := opN_lt (g := gOf f) (m := md w) (a := beV a) (b := beV b) (by omega)
                have vo : val (lim (opN (gOf f) (md w) (beV a) (beV b))) = opN (gOf f) (md w) (beV a) (beV b) := val_lim (by omega)
                rcases hf with rfl | rfl | rfl | rfl
                · have ho : (val (lim (beV a)) + val (lim (beV b))) % val (mlim w) = opN (gOf 42) (md w) (beV a) (beV b) := by
                    rw [va, vb, hmv]; unfold opN gOf; rfl
                  repeat ((conv => whnf); first | (refine pre_i ?hc ?_; case hc => first | exact (show planOK _ _ _ = true from by kernel_rfl) | assumption | omega | (unfold fits; omega) | decide +kernel | (constructor <;> first | assumption | omega) | (simp only [off_addO, tysz, off, offE] <;> omega) | (simp only [lens, off_addO, off, offE] <;> omega) | (simp only [off_addO, tysz, lens, off, offE] <;> omega) | (constructor <;> first | assumption | (simp only [off_addO, tysz, lens, off, offE] <;> omega))) | (refine cond_t ?hc ?_; case hc => first | rfl | assumption | (rw [decide_eq_true_eq]; omega) | (rw [decide_eq_false_iff_not]; omega) | (simp <;> omega)) | (refine cond_f ?hc ?_; case hc => first | rfl | assumption | (rw [decide_eq_true_eq]; omega) | (rw [decide_eq_false_iff_not]; omega) | (simp <;> omega)) | refine same_i ?_)
                  conv => whnf
                  rw [ho]
                  refine pre_i (lim_len _) ?_
                  repeat ((conv => whnf); first | (refine pre_i ?hc ?_; case hc => first | exact (show planOK _ _ _ = true from by kernel_rfl) | assumption | omega | (unfold fits; omega) | decide +kernel | (constructor <;> first | assumption | omega) | (simp only [off_addO, tysz, off, offE] <;> omega) | (simp only [lens, off_addO, off, offE] <;> omega) | (simp only [off_addO, tysz, lens, off, offE] <;> omega) | (constructor <;> first | assumption | (simp only [off_addO, tysz, lens, off, offE] <;> omega))) | (refine cond_t ?hc ?_; case hc => first | rfl | assumption | (rw [decide_eq_true_eq]; omega) | (rw [decide_eq_false_iff_not]; omega) | (simp <;> omega)) | (refine cond_f ?hc ?_; case hc => first | rfl | assumption | (rw [decide_eq_true_eq]; omega) | (rw [decide_eq_false_iff_not]; omega) | (simp <;> omega)) | refine same_i ?_)
                  conv => whnf
                  rw [vo]
                  refine final_h (hp' := []) [] ht ?_
                  repeat ((conv => whnf); first | (refine pre_i ?hc ?_; case hc => first | exact (show planOK _ _ _ = true from by kernel_rfl) | assumption | omega | (unfold fits; omega) | decide +kernel | (constructor <;> first | assumption | omega) | (simp only [off_addO, tysz, off, offE] <;> omega) | (simp only [lens, off_addO, off, offE] <;> omega) | (simp only [off_addO, tysz, lens, off, offE] <;> omega) | (constructor <;> first | assumption | (simp only [off_addO, tysz, lens, off, offE] <;> omega))) | (refine cond_t ?hc ?_; case hc => first | rfl | assumption | (rw [decide_eq_true_eq]; omega) | (rw [decide_eq_false_iff_not]; omega) | (simp <;> omega)) | (refine cond_f ?hc ?_; case hc => first | rfl | assumption | (rw [decide_eq_true_eq]; omega) | (rw [decide_eq_false_iff_not]; omega) | (simp <;> omega)) | refine same_i ?_)
                  exact trivial
                · have ho : (val (lim (beV a)) + (val (mlim w) - val (lim (beV b)))) % val (mlim w) = opN (gOf 48) (md w) (beV a) (beV b) := by
                    rw [va, vb, hmv]; unfold opN gOf; rfl
                  repeat ((conv => whnf); first | (refine pre_i ?hc ?_; case hc => first | exact (show planOK _ _ _ = true from by kernel_rfl) | assumption | omega | (unfold fits; omega) | decide +kernel | (constructor <;> first | assumption | omega) | (simp only [off_addO, tysz, off, offE] <;> omega) | (simp only [lens, off_addO, off, offE] <;> omega) | (simp only [off_addO, tysz, lens, off, offE] <;> omega) | (constructor <;> first | assumption | (simp only [off_addO, tysz, lens, off, offE] <;> omega))) | (refine cond_t ?hc ?_; case hc => first | rfl | assumption | (rw [decide_eq_true_eq]; omega) | (rw [decide_eq_false_iff_not]; omega) | (simp <;> omega)) | (refine cond_f ?hc ?_; case hc => first | rfl | assumption | (rw [decide_eq_true_eq]; omega) | (rw [decide_eq_false_iff_not]; omega) | (simp <;> omega)) | refine same_i ?_)
                  conv => whnf
                  rw [ho]
                  refine pre_i (lim_len _) ?_
                  repeat ((conv => whnf); first | (refine pre_i ?hc ?_; case hc => first | exact (show planOK _ _ _ = true from by kernel_rfl) | assumption | omega | (unfold fits; omega) | decide +kernel | (constructor <;> first | assumption | omega) | (simp only [off_addO, tysz, off, offE] <;> omega) | (simp only [lens, off_addO, off, offE] <;> omega) | (simp only [off_addO, tysz, lens, off, offE] <;> omega) | (constructor <;> first | assumption | (simp only [off_addO, tysz, lens, off, offE] <;> omega))) | (refine cond_t ?hc ?_; case hc => first | rfl | assumption | (rw [decide_eq_true_eq]; omega) | (rw [decide_eq_false_iff_not]; omega) | (simp <;> omega)) | (refine cond_f ?hc ?_; case hc => first | rfl | assumption | (rw [decide_eq_true_eq]; omega) | (rw [decide_eq_false_iff_not]; omega) | (simp <;> omega)) | refine same_i ?_)
                  conv => whnf
                  rw [vo]
                  refine final_h (hp' := []) [] ht ?_
                  repeat ((conv => whnf); first | (refine pre_i ?hc ?_; case hc => first | exact (show planOK _ _ _ = true from by kernel_rfl) | assumption | omega | (unfold fits; omega) | decide +kernel | (constructor <;> first | assumption | omega) | (simp only [off_addO, tysz, off, offE] <;> omega) | (simp only [lens, off_addO, off, offE] <;> omega) | (simp only [off_addO, tysz, lens, off, offE] <;> omega) | (constructor <;> first | assumption | (simp only [off_addO, tysz, lens, off, offE] <;> omega))) | (refine cond_t ?hc ?_; case hc => first | rfl | assumption | (rw [decide_eq_true_eq]; omega) | (rw [decide_eq_false_iff_not]; omega) | (simp <;> omega)) | (refine cond_f ?hc ?_; case hc => first | rfl | assumption | (rw [decide_eq_true_eq]; omega) | (rw [decide_eq_false_iff_not]; omega) | (simp <;> omega)) | refine same_i ?_)
                  exact trivial
                · have ho : val (lim (beV a)) * val (lim (beV b)) % val (mlim w) = opN (gOf 49) (md w) (beV a) (beV b) := by
                    rw [va, vb, hmv]; unfold opN gOf; rfl
                  repeat ((conv => whnf); first | (refine pre_i ?hc ?_; case hc => first | exact (show planOK _ _ _ = true from by kernel_rfl) | assumption | omega | (unfold fits; omega) | decide +kernel | (constructor <;> first | assumption | omega) | (simp only [off_addO, tysz, off, offE] <;> omega) | (simp only [lens, off_addO, off, offE] <;> omega) | (simp only [off_addO, tysz, lens, off, offE] <;> omega) | (constructor <;> first | assumption | (simp only [off_addO, tysz, lens, off, offE] <;> omega))) | (refine cond_t ?hc ?_; case hc => first | rfl | assumption | (rw [decide_eq_true_eq]; omega) | (rw [decide_eq_false_iff_not]; omega) | (simp <;> omega)) | (refine cond_f ?hc ?_; case hc => first | rfl | assumption | (rw [decide_eq_true_eq]; omega) | (rw [decide_eq_false_iff_not]; omega) | (simp <;> omega)) | refine same_i ?_)
                  conv => whnf
                  rw [ho]
                  refine pre_i (lim_len _) ?_
                  repeat ((conv => whnf); first | (refine pre_i ?hc ?_; case hc => first | exact (show planOK _ _ _ = true from by kernel_rfl) | assumption | omega | (unfold fits; omega) | decide +kernel | (constructor <;> first | assumption | omega) | (simp only [off_addO, tysz, off, offE] <;> omega) | (simp only [lens, off_addO, off, offE] <;> omega) | (simp only [off_addO, tysz, lens, off, offE] <;> omega) | (constructor <;> first | assumption | (simp only [off_addO, tysz, lens, off, offE] <;> omega))) | (refine cond_t ?hc ?_; case hc => first | rfl | assumption | (rw [decide_eq_true_eq]; omega) | (rw [decide_eq_false_iff_not]; omega) | (simp <;> omega)) | (refine cond_f ?hc ?_; case hc => first | rfl | assumption | (rw [decide_eq_true_eq]; omega) | (rw [decide_eq_false_iff_not]; omega) | (simp <;> omega)) | refine same_i ?_)
                  conv => whnf
                  rw [vo]
                  refine final_h (hp' := []) [] ht ?_
                  repeat ((conv => whnf); first | (refine pre_i ?hc ?_; case hc => first | exact (show planOK _ _ _ = true from by kernel_rfl) | assumption | omega | (unfold fits; omega) | decide +kernel | (constructor <;> first | assumption | omega) | (simp only [off_addO, tysz, off, offE] <;> omega) | (simp only [lens, off_addO, off, offE] <;> omega) | (simp only [off_addO, tysz, lens, off, offE] <;> omega) | (constructor <;> first | assumption | (simp only [off_addO, tysz, lens, off, offE] <;> omega))) | (refine cond_t ?hc ?_; case hc => first | rfl | assumption | (rw [decide_eq_true_eq]; omega) | (rw [decide_eq_false_iff_not]; omega) | (simp <;> omega)) | (refine cond_f ?hc ?_; case hc => first | rfl | assumption | (rw [decide_eq_true_eq]; omega) | (rw [decide_eq_false_iff_not]; omega) | (simp <;> omega)) | refine same_i ?_)
                  exact trivial
                · have ho : val (lim (beV a)) ^ (val (mlim w) - 2) % val (mlim w) = opN (gOf 52) (md w) (beV a) (beV b) := by
                    rw [va, hmv]; unfold opN gOf; rfl
                  repeat ((conv => whnf); first | (refine pre_i ?hc ?_; case hc => first | exact (show planOK _ _ _ = true from by kernel_rfl) | assumption | omega | (unfold fits; omega) | decide +kernel | (constructor <;> first | assumption | omega) | (simp only [off_addO, tysz, off, offE] <;> omega) | (simp only [lens, off_addO, off, offE] <;> omega) | (simp only [off_addO, tysz, lens, off, offE] <;> omega) | (constructor <;> first | assumption | (simp only [off_addO, tysz, lens, off, offE] <;> omega))) | (refine cond_t ?hc ?_; case hc => first | rfl | assumption | (rw [decide_eq_true_eq]; omega) | (rw [decide_eq_false_iff_not]; omega) | (simp <;> omega)) | (refine cond_f ?hc ?_; case hc => first | rfl | assumption | (rw [decide_eq_true_eq]; omega) | (rw [decide_eq_false_iff_not]; omega) | (simp <;> omega)) | refine same_i ?_)
                  conv => whnf
                  rw [ho]
                  refine pre_i (lim_len _) ?_
                  repeat ((conv => whnf); first | (refine pre_i ?hc ?_; case hc => first | exact (show planOK _ _ _ = true from by kernel_rfl) | assumption | omega | (unfold fits; omega) | decide +kernel | (constructor <;> first | assumption | omega) | (simp only [off_addO, tysz, off, offE] <;> omega) | (simp only [lens, off_addO, off, offE] <;> omega) | (simp only [off_addO, tysz, lens, off, offE] <;> omega) | (constructor <;> first | assumption | (simp only [off_addO, tysz, lens, off, offE] <;> omega))) | (refine cond_t ?hc ?_; case hc => first | rfl | assumption | (rw [decide_eq_true_eq]; omega) | (rw [decide_eq_false_iff_not]; omega) | (simp <;> omega)) | (refine cond_f ?hc ?_; case hc => first | rfl | assumption | (rw [decide_eq_true_eq]; omega) | (rw [decide_eq_false_iff_not]; omega) | (simp <;> omega)) | refine same_i ?_)
                  conv => whnf
                  rw [vo]
                  refine final_h (hp' := []) [] ht ?_
                  repeat ((conv => whnf); first | (refine pre_i ?hc ?_; case hc => first | exact (show planOK _ _ _ = true from by kernel_rfl) | assumption | omega | (unfold fits; omega) | decide +kernel | (constructor <;> first | assumption | omega) | (simp only [off_addO, tysz, off, offE] <;> omega) | (simp only [lens, off_addO, off, offE] <;> omega) | (simp only [off_addO, tysz, lens, off, offE] <;> omega) | (constructor <;> first | assumption | (simp only [off_addO, tysz, lens, off, offE] <;> omega))) | (refine cond_t ?hc ?_; case hc => first | rfl | assumption | (rw [decide_eq_true_eq]; omega) | (rw [decide_eq_false_iff_not]; omega) | (simp <;> omega)) | (refine cond_f ?hc ?_; case hc => first | rfl | assumption | (rw [decide_eq_true_eq]; omega) | (rw [decide_eq_false_iff_not]; omega) | (simp <;> omega)) | refine same_i ?_)
                  exact trivial
              · have hn := hn (by rw [decide_eq_false_iff_not]; exact fun hh => hb2 hh.2.2.2.2)
                have hb3 : ¬ beV b < val (mlim w) := by omega
                repeat ((conv => whnf); first | (refine pre_i ?hc ?_; case hc => first | exact (show planOK _ _ _ = true from by kernel_rfl) | assumption | omega | (unfold fits; omega) | decide +kernel | (constructor <;> first | assumption | omega) | (simp only [off_addO, tysz, off, offE] <;> omega) | (simp only [lens, off_addO, off, offE] <;> omega) | (simp only [off_addO, tysz, lens, off, offE] <;> omega) | (constructor <;> first | assumption | (simp only [off_addO, tysz, lens, off, offE] <;> omega))) | (refine cond_t ?hc ?_; case hc => first | rfl | assumption | (rw [decide_eq_true_eq]; omega) | (rw [decide_eq_false_iff_not]; omega) | (simp <;> omega)) | (refine cond_f ?hc ?_; case hc => first | rfl | assumption | (rw [decide_eq_true_eq]; omega) | (rw [decide_eq_false_iff_not]; omega) | (simp <;> omega)) | refine same_i ?_)
                conv => whnf
                refine final_h (hp' := []) [] hn ?_
                repeat ((conv => whnf); first | (refine pre_i ?hc ?_; case hc => first | exact (show planOK _ _ _ = true from by kernel_rfl) | assumption | omega | (unfold fits; omega) | decide +kernel | (constructor <;> first | assumption | omega) | (simp only [off_addO, tysz, off, offE] <;> omega) | (simp only [lens, off_addO, off, offE] <;> omega) | (simp only [off_addO, tysz, lens, off, offE] <;> omega) | (constructor <;> first | assumption | (simp only [off_addO, tysz, lens, off, offE] <;> omega))) | (refine cond_t ?hc ?_; case hc => first | rfl | assumption | (rw [decide_eq_true_eq]; omega) | (rw [decide_eq_false_iff_not]; omega) | (simp <;> omega)) | (refine cond_f ?hc ?_; case hc => first | rfl | assumption | (rw [decide_eq_true_eq]; omega) | (rw [decide_eq_false_iff_not]; omega) | (simp <;> omega)) | refine same_i ?_)
                exact trivial
            · have hn := hn (by rw [decide_eq_false_iff_not]; exact fun hh => ha2 hh.2.2.2.1)
              have ha3 : ¬ beV a < val (mlim w) := by omega
              repeat ((conv => whnf); first | (refine pre_i ?hc ?_; case hc => first | exact (show planOK _ _ _ = true from by kernel_rfl) | assumption | omega | (unfold fits; omega) | decide +kernel | (constructor <;> first | assumption | omega) | (simp only [off_addO, tysz, off, offE] <;> omega) | (simp only [lens, off_addO, off, offE] <;> omega) | (simp only [off_addO, tysz, lens, off, offE] <;> omega) | (constructor <;> first | assumption | (simp only [off_addO, tysz, lens, off, offE] <;> omega))) | (refine cond_t ?hc ?_; case hc => first | rfl | assumption | (rw [decide_eq_true_eq]; omega) | (rw [decide_eq_false_iff_not]; omega) | (simp <;> omega)) | (refine cond_f ?hc ?_; case hc => first | rfl | assumption | (rw [decide_eq_true_eq]; omega) | (rw [decide_eq_false_iff_not]; omega) | (simp <;> omega)) | refine same_i ?_)
              conv => whnf
              refine final_h (hp' := []) [] hn ?_
              repeat ((conv => whnf); first | (refine pre_i ?hc ?_; case hc => first | exact (show planOK _ _ _ = true from by kernel_rfl) | assumption | omega | (unfold fits; omega) | decide +kernel | (constructor <;> first | assumption | omega) | (simp only [off_addO, tysz, off, offE] <;> omega) | (simp only [lens, off_addO, off, offE] <;> omega) | (simp only [off_addO, tysz, lens, off, offE] <;> omega) | (constructor <;> first | assumption | (simp only [off_addO, tysz, lens, off, offE] <;> omega))) | (refine cond_t ?hc ?_; case hc => first | rfl | assumption | (rw [decide_eq_true_eq]; omega) | (rw [decide_eq_false_iff_not]; omega) | (simp <;> omega)) | (refine cond_f ?hc ?_; case hc => first | rfl | assumption | (rw [decide_eq_true_eq]; omega) | (rw [decide_eq_false_iff_not]; omega) | (simp <;> omega)) | refine same_i ?_)
              exact trivial
          · have hn := hn (by rw [decide_eq_false_iff_not]; exact fun hh => hb hh.2.2.1)
            by_cases ha2 : beV a < val (mlim w)
            all_goals
              repeat ((conv => whnf); first | (refine pre_i ?hc ?_; case hc => first | exact (show planOK _ _ _ = true from by kernel_rfl) | assumption | omega | (unfold fits; omega) | decide +kernel | (constructor <;> first | assumption | omega) | (simp only [off_addO, tysz, off, offE] <;> omega) | (simp only [lens, off_addO, off, offE] <;> omega) | (simp only [off_addO, tysz, lens, off, offE] <;> omega) | (constructor <;> first | assumption | (simp only [off_addO, tysz, lens, off, offE] <;> omega))) | (refine cond_t ?hc ?_; case hc => first | rfl | assumption | (rw [decide_eq_true_eq]; omega) | (rw [decide_eq_false_iff_not]; omega) | (simp <;> omega)) | (refine cond_f ?hc ?_; case hc => first | rfl | assumption | (rw [decide_eq_true_eq]; omega) | (rw [decide_eq_false_iff_not]; omega) | (simp <;> omega)) | refine same_i ?_)
              conv => whnf
              refine final_h (hp' := []) [] hn ?_
              repeat ((conv => whnf); first | (refine pre_i ?hc ?_; case hc => first | exact (show planOK _ _ _ = true from by kernel_rfl) | assumption | omega | (unfold fits; omega) | decide +kernel | (constructor <;> first | assumption | omega) | (simp only [off_addO, tysz, off, offE] <;> omega) | (simp only [lens, off_addO, off, offE] <;> omega) | (simp only [off_addO, tysz, lens, off, offE] <;> omega) | (constructor <;> first | assumption | (simp only [off_addO, tysz, lens, off, offE] <;> omega))) | (refine cond_t ?hc ?_; case hc => first | rfl | assumption | (rw [decide_eq_true_eq]; omega) | (rw [decide_eq_false_iff_not]; omega) | (simp <;> omega)) | (refine cond_f ?hc ?_; case hc => first | rfl | assumption | (rw [decide_eq_true_eq]; omega) | (rw [decide_eq_false_iff_not]; omega) | (simp <;> omega)) | refine same_i ?_)
              exact trivial
        · have hn := hn (by rw [decide_eq_false_iff_not]; exact fun hh => ha hh.2.1)
          by_cases hb : b.length = 32
          all_goals
            repeat ((conv => whnf); first | (refine pre_i ?hc ?_; case hc => first | exact (show planOK _ _ _ = true from by kernel_rfl) | assumption | omega | (unfold fits; omega) | decide +kernel | (constructor <;> first | assumption | omega) | (simp only [off_addO, tysz, off, offE] <;> omega) | (simp only [lens, off_addO, off, offE] <;> omega) | (simp only [off_addO, tysz, lens, off, offE] <;> omega) | (constructor <;> first | assumption | (simp only [off_addO, tysz, lens, off, offE] <;> omega))) | (refine cond_t ?hc ?_; case hc => first | rfl | assumption | (rw [decide_eq_true_eq]; omega) | (rw [decide_eq_false_iff_not]; omega) | (simp <;> omega)) | (refine cond_f ?hc ?_; case hc => first | rfl | assumption | (rw [decide_eq_true_eq]; omega) | (rw [decide_eq_false_iff_not]; omega) | (simp <;> omega)) | refine same_i ?_)
            conv => whnf
            refine final_h (hp' := []) [] hn ?_
            repeat ((conv => whnf); first | (refine pre_i ?hc ?_; case hc => first | exact (show planOK _ _ _ = true from by kernel_rfl) | assumption | omega | (unfold fits; omega) | decide +kernel | (constructor <;> first | assumption | omega) | (simp only [off_addO, tysz, off, offE] <;> omega) | (simp only [lens, off_addO, off, offE] <;> omega) | (simp only [off_addO, tysz, lens, off, offE] <;> omega) | (constructor <;> first | assumption | (simp only [off_addO, tysz, lens, off, offE] <;> omega))) | (refine cond_t ?hc ?_; case hc => first | rfl | assumption | (rw [decide_eq_true_eq]; omega) | (rw [decide_eq_false_iff_not]; omega) | (simp <;> omega)) | (refine cond_f ?hc ?_; case hc => first | rfl | assumption | (rw [decide_eq_true_eq]; omega) | (rw [decide_eq_false_iff_not]; omega) | (simp <;> omega)) | refine same_i ?_)
            exact trivial
      · have hn := hn (by rw [decide_eq_false_iff_not]; exact fun hh => hw hh.1)
        repeat ((conv => whnf); first | (refine pre_i ?hc ?_; case hc => first | exact (show planOK _ _ _ = true from by kernel_rfl) | assumption | omega | (unfold fits; omega) | decide +kernel | (constructor <;> first | assumption | omega) | (simp only [off_addO, tysz, off, offE] <;> omega) | (simp only [lens, off_addO, off, offE] <;> omega) | (simp only [off_addO, tysz, lens, off, offE] <;> omega) | (constructor <;> first | assumption | (simp only [off_addO, tysz, lens, off, offE] <;> omega))) | (refine cond_t ?hc ?_; case hc => first | rfl | assumption | (rw [decide_eq_true_eq]; omega) | (rw [decide_eq_false_iff_not]; omega) | (simp <;> omega)) | (refine cond_f ?hc ?_; case hc => first | rfl | assumption | (rw [decide_eq_true_eq]; omega) | (rw [decide_eq_false_iff_not]; omega) | (simp <;> omega)) | refine same_i ?_)
        conv => whnf
        refine final_h (hp' := []) [] hn ?_
        repeat ((conv => whnf); first | (refine pre_i ?hc ?_; case hc => first | exact (show planOK _ _ _ = true from by kernel_rfl) | assumption | omega | (unfold fits; omega) | decide +kernel | (constructor <;> first | assumption | omega) | (simp only [off_addO, tysz, off, offE] <;> omega) | (simp only [lens, off_addO, off, offE] <;> omega) | (simp only [off_addO, tysz, lens, off, offE] <;> omega) | (constructor <;> first | assumption | (simp only [off_addO, tysz, lens, off, offE] <;> omega))) | (refine cond_t ?hc ?_; case hc => first | rfl | assumption | (rw [decide_eq_true_eq]; omega) | (rw [decide_eq_false_iff_not]; omega) | (simp <;> omega)) | (refine cond_f ?hc ?_; case hc => first | rfl | assumption | (rw [decide_eq_true_eq]; omega) | (rw [decide_eq_false_iff_not]; omega) | (simp <;> omega)) | refine same_i ?_)
        exact trivial
    · exact h.elim

theorem Add_s : SoundC prog 24 (callS 0) := by
  refine sound_f tys_ok (fnok_cons both_s fnok_nil) rfl func24 rfl call24 (D := pl24) ?_ ?_
  · intro args hp K h
    unfold callS at h
    split at h
    · exact Nat.le_of_ble_eq_true rfl
    · exact h.elim
  · intro args hp K h
    unfold callS at h
    split at h
    · rename_i w a b
      obtain ⟨ht, hf⟩ := cond_e h
      have hg : (42 : Nat) = 42 ∨ (42 : Nat) = 48 ∨ (42 : Nat) = 49 ∨ (42 : Nat) = 52 := by decide
      repeat ((conv => whnf); first | (refine pre_i ?hc ?_; case hc => first | exact (show planOK _ _ _ = true from by kernel_rfl) | assumption | omega | (unfold fits; omega) | decide +kernel | (constructor <;> first | assumption | omega) | (simp only [off_addO, tysz, off, offE] <;> omega) | (simp only [lens, off_addO, off, offE] <;> omega) | (simp only [off_addO, tysz, lens, off, offE] <;> omega) | (constructor <;> first | assumption | (simp only [off_addO, tysz, lens, off, offE] <;> omega))) | (refine cond_t ?hc ?_; case hc => first | rfl | assumption | (rw [decide_eq_true_eq]; omega) | (rw [decide_eq_false_iff_not]; omega) | (simp <;> omega)) | (refine cond_f ?hc ?_; case hc => first | rfl | assumption | (rw [decide_eq_true_eq]; omega) | (rw [decide_eq_false_iff_not]; omega) | (simp <;> omega)) | refine same_i ?_)
      conv => whnf
      refine cond_i (fun hc => ?_) (fun hc => ?_)
      · repeat ((conv => whnf); first | (refine pre_i ?hc ?_; case hc => first | exact (show planOK _ _ _ = true from by kernel_rfl) | assumption | omega | (unfold fits; omega) | decide +kernel | (constructor <;> first | assumption | omega) | (simp only [off_addO, tysz, off, offE] <;> omega) | (simp only [lens, off_addO, off, offE] <;> omega) | (simp only [off_addO, tysz, lens, off, offE] <;> omega) | (constructor <;> first | assumption | (simp only [off_addO, tysz, lens, off, offE] <;> omega))) | (refine cond_t ?hc ?_; case hc => first | rfl | assumption | (rw [decide_eq_true_eq]; omega) | (rw [decide_eq_false_iff_not]; omega) | (simp <;> omega)) | (refine cond_f ?hc ?_; case hc => first | rfl | assumption | (rw [decide_eq_true_eq]; omega) | (rw [decide_eq_false_iff_not]; omega) | (simp <;> omega)) | refine same_i ?_)
        conv => whnf
        refine final_h (hp' := []) [] (ht hc) ?_
        repeat ((conv => whnf); first | (refine pre_i ?hc ?_; case hc => first | exact (show planOK _ _ _ = true from by kernel_rfl) | assumption | omega | (unfold fits; omega) | decide +kernel | (constructor <;> first | assumption | omega) | (simp only [off_addO, tysz, off, offE] <;> omega) | (simp only [lens, off_addO, off, offE] <;> omega) | (simp only [off_addO, tysz, lens, off, offE] <;> omega) | (constructor <;> first | assumption | (simp only [off_addO, tysz, lens, off, offE] <;> omega))) | (refine cond_t ?hc ?_; case hc => first | rfl | assumption | (rw [decide_eq_true_eq]; omega) | (rw [decide_eq_false_iff_not]; omega) | (simp <;> omega)) | (refine cond_f ?hc ?_; case hc => first | rfl | assumption | (rw [decide_eq_true_eq]; omega) | (rw [decide_eq_false_iff_not]; omega) | (simp <;> omega)) | refine same_i ?_)
        exact trivial
      · repeat ((conv => whnf); first | (refine pre_i ?hc ?_; case hc => first | exact (show planOK _ _ _ = true from by kernel_rfl) | assumption | omega | (unfold fits; omega) | decide +kernel | (constructor <;> first | assumption | omega) | (simp only [off_addO, tysz, off, offE] <;> omega) | (simp only [lens, off_addO, off, offE] <;> omega) | (simp only [off_addO, tysz, lens, off, offE] <;> omega) | (constructor <;> first | assumption | (simp only [off_addO, tysz, lens, off, offE] <;> omega))) | (refine cond_t ?hc ?_; case hc => first | rfl | assumption | (rw [decide_eq_true_eq]; omega) | (rw [decide_eq_false_iff_not]; omega) | (simp <;> omega)) | (refine cond_f ?hc ?_; case hc => first | rfl | assumption | (rw [decide_eq_true_eq]; omega) | (rw [decide_eq_false_iff_not]; omega) | (simp <;> omega)) | refine same_i ?_)
        conv => whnf
        refine final_h (hp' := []) [] (hf hc) ?_
        repeat ((conv => whnf); first | (refine pre_i ?hc ?_; case hc => first | exact (show planOK _ _ _ = true from by kernel_rfl) | assumption | omega | (unfold fits; omega) | decide +kernel | (constructor <;> first | assumption | omega) | (simp only [off_addO, tysz, off, offE] <;> omega) | (simp only [lens, off_addO, off, offE] <;> omega) | (simp only [off_addO, tysz, lens, off, offE] <;> omega) | (constructor <;> first | assumption | (simp only [off_addO, tysz, lens, off, offE] <;> omega))) | (refine cond_t ?hc ?_; case hc => first | rfl | assumption | (rw [decide_eq_true_eq]; omega) | (rw [decide_eq_false_iff_not]; omega) | (simp <;> omega)) | (refine cond_f ?hc ?_; case hc => first | rfl | assumption | (rw [decide_eq_true_eq]; omega) | (rw [decide_eq_false_iff_not]; omega) | (simp <;> omega)) | refine same_i ?_)
        exact trivial
    · exact h.elim
theorem Sub_s : SoundC prog 26 (callS 1) := by
  refine sound_f tys_ok (fnok_cons both_s fnok_nil) rfl func26 rfl call26 (D := pl26) ?_ ?_
  · intro args hp K h
    unfold callS at h
    split at h
    · exact Nat.le_of_ble_eq_true rfl
    · exact h.elim
  · intro args hp K h
    unfold callS at h
    split at h
    · rename_i w a b
      obtain ⟨ht, hf⟩ := cond_e h
      have hg : (48 : Nat) = 42 ∨ (48 : Nat) = 48 ∨ (48 : Nat) = 49 ∨ (48 : Nat) = 52 := by decide
      repeat ((conv => whnf); first | (refine pre_i ?hc ?_; case hc => first | exact (show planOK _ _ _ = true from by kernel_rfl) | assumption | omega | (unfold fits; omega) | decide +kernel | (constructor <;> first | assumption | omega) | (simp only [off_addO, tysz, off, offE] <;> omega) | (simp only [lens, off_addO, off, offE] <;> omega) | (simp only [off_addO, tysz, lens, off, offE] <;> omega) | (constructor <;> first | assumption | (simp only [off_addO, tysz, lens, off, offE] <;> omega))) | (refine cond_t ?hc ?_; case hc => first | rfl | assumption | (rw [decide_eq_true_eq]; omega) | (rw [decide_eq_false_iff_not]; omega) | (simp <;> omega)) | (refine cond_f ?hc ?_; case hc => first | rfl | assumption | (rw [decide_eq_true_eq]; omega) | (rw [decide_eq_false_iff_not]; omega) | (simp <;> omega)) | refine same_i ?_)
      conv => whnf
      refine cond_i (fun hc => ?_) (fun hc => ?_)
      · repeat ((conv => whnf); first | (refine pre_i ?hc ?_; case hc => first | exact (show planOK _ _ _ = true from by kernel_rfl) | assumption | omega | (unfold fits; omega) | decide +kernel | (constructor <;> first | assumption | omega) | (simp only [off_addO, tysz, off, offE] <;> omega) | (simp only [lens, off_addO, off, offE] <;> omega) | (simp only [off_addO, tysz, lens, off, offE] <;> omega) | (constructor <;> first | assumption | (simp only [off_addO, tysz, lens, off, offE] <;> omega))) | (refine cond_t ?hc ?_; case hc => first | rfl | assumption | (rw [decide_eq_true_eq]; omega) | (rw [decide_eq_false_iff_not]; omega) | (simp <;> omega)) | (refine cond_f ?hc ?_; case hc => first | rfl | assumption | (rw [decide_eq_true_eq]; omega) | (rw [decide_eq_false_iff_not]; omega) | (simp <;> omega)) | refine same_i ?_)
        conv => whnf
        refine final_h (hp' := []) [] (ht hc) ?_
        repeat ((conv => whnf); first | (refine pre_i ?hc ?_; case hc => first | exact (show planOK _ _ _ = true from by kernel_rfl) | assumption | omega | (unfold fits; omega) | decide +kernel | (constructor <;> first | assumption | omega) | (simp only [off_addO, tysz, off, offE] <;> omega) | (simp only [lens, off_addO, off, offE] <;> omega) | (simp only [off_addO, tysz, lens, off, offE] <;> omega) | (constructor <;> first | assumption | (simp only [off_addO, tysz, lens, off, offE] <;> omega))) | (refine cond_t ?hc ?_; case hc => first | rfl | assumption | (rw [decide_eq_true_eq]; omega) | (rw [decide_eq_false_iff_not]; omega) | (simp <;> omega)) | (refine cond_f ?hc ?_; case hc => first | rfl | assumption | (rw [decide_eq_true_eq]; omega) | (rw [decide_eq_false_iff_not]; omega) | (simp <;> omega)) | refine same_i ?_)
        exact trivial
      · repeat ((conv => whnf); first | (refine pre_i ?hc ?_; case hc => first | exact (show planOK _ _ _ = true from by kernel_rfl) | assumption | omega | (unfold fits; omega) | decide +kernel | (constructor <;> first | assumption | omega) | (simp only [off_addO, tysz, off, offE] <;> omega) | (simp only [lens, off_addO, off, offE] <;> omega) | (simp only [off_addO, tysz, lens, off, offE] <;> omega) | (constructor <;> first | assumption | (simp only [off_addO, tysz, lens, off, offE] <;> omega))) | (refine cond_t ?hc ?_; case hc => first | rfl | assumption | (rw [decide_eq_true_eq]; omega) | (rw [decide_eq_false_iff_not]; omega) | (simp <;> omega)) | (refine cond_f ?hc ?_; case hc => first | rfl | assumption | (rw [decide_eq_true_eq]; omega) | (rw [decide_eq_false_iff_not]; omega) | (simp <;> omega)) | refine same_i ?_)
        conv => whnf
        refine final_h (hp' := []) [] (hf hc) ?_
        repeat ((conv => whnf); first | (refine pre_i ?hc ?_; case hc => first | exact (show planOK _ _ _ = true from by kernel_rfl) | assumption | omega | (unfold fits; omega) | decide +kernel | (constructor <;> first | assumption | omega) | (simp only [off_addO, tysz, off, offE] <;> omega) | (simp only [lens, off_addO, off, offE] <;> omega) | (simp only [off_addO, tysz, lens, off, offE] <;> omega) | (constructor <;> first | assumption | (simp only [off_addO, tysz, lens, off, offE] <;> omega))) | (refine cond_t ?hc ?_; case hc => first | rfl | assumption | (rw [decide_eq_true_eq]; omega) | (rw [decide_eq_false_iff_not]; omega) | (simp <;> omega)) | (refine cond_f ?hc ?_; case hc => first | rfl | assumption | (rw [decide_eq_true_eq]; omega) | (rw [decide_eq_false_iff_not]; omega) | (simp <;> omega)) | refine same_i ?_)
        exact trivial
    · exact h.elim
theorem Mul_s : SoundC prog 27 (callS 2) := by
  refine sound_f tys_ok (fnok_cons both_s fnok_nil) rfl func27 rfl call27 (D := pl27) ?_ ?_
  · intro args hp K h
    unfold callS at h
    split at h
    · exact Nat.le_of_ble_eq_true rfl
    · exact h.elim
  · intro args hp K h
    unfold callS at h
    split at h
    · rename_i w a b
      obtain ⟨ht, hf⟩ := cond_e h
      have hg : (49 : Nat) = 42 ∨ (49 : Nat) = 48 ∨ (49 : Nat) = 49 ∨ (49 : Nat) = 52 := by decide
      repeat ((conv => whnf); first | (refine pre_i ?hc ?_; case hc => first | exact (show planOK _ _ _ = true from by kernel_rfl) | assumption | omega | (unfold fits; omega) | decide +kernel | (constructor <;> first | assumption | omega) | (simp only [off_addO, tysz, off, offE] <;> omega) | (simp only [lens, off_addO, off, offE] <;> omega) | (simp only [off_addO, tysz, lens, off, offE] <;> omega) | (constructor <;> first | assumption | (simp only [off_addO, tysz, lens, off, offE] <;> omega))) | (refine cond_t ?hc ?_; case hc => first | rfl | assumption | (rw [decide_eq_true_eq]; omega) | (rw [decide_eq_false_iff_not]; omega) | (simp <;> omega)) | (refine cond_f ?hc ?_; case hc => first | rfl | assumption | (rw [decide_eq_true_eq]; omega) | (rw [decide_eq_false_iff_not]; omega) | (simp <;> omega)) | refine same_i ?_)
      conv => whnf
      refine cond_i (fun hc => ?_) (fun hc => ?_)
      · repeat ((conv => whnf); first | (refine pre_i ?hc ?_; case hc => first | exact (show planOK _ _ _ = true from by kernel_rfl) | assumption | omega | (unfold fits; omega) | decide +kernel | (constructor <;> first | assumption | omega) | (simp only [off_addO, tysz, off, offE] <;> omega) | (simp only [lens, off_addO, off, offE] <;> omega) | (simp only [off_addO, tysz, lens, off, offE] <;> omega) | (constructor <;> first | assumption | (simp only [off_addO, tysz, lens, off, offE] <;> omega))) | (refine cond_t ?hc ?_; case hc => first | rfl | assumption | (rw [decide_eq_true_eq]; omega) | (rw [decide_eq_false_iff_not]; omega) | (simp <;> omega)) | (refine cond_f ?hc ?_; case hc => first | rfl | assumption | (rw [decide_eq_true_eq]; omega) | (rw [decide_eq_false_iff_not]; omega) | (simp <;> omega)) | refine same_i ?_)
        conv => whnf
        refine final_h (hp' := []) [] (ht hc) ?_
        repeat ((conv => whnf); first | (refine pre_i ?hc ?_; case hc => first | exact (show planOK _ _ _ = true from by kernel_rfl) | assumption | omega | (unfold fits; omega) | decide +kernel | (constructor <;> first | assumption | omega) | (simp only [off_addO, tysz, off, offE] <;> omega) | (simp only [lens, off_addO, off, offE] <;> omega) | (simp only [off_addO, tysz, lens, off, offE] <;> omega) | (constructor <;> first | assumption | (simp only [off_addO, tysz, lens, off, offE] <;> omega))) | (refine cond_t ?hc ?_; case hc => first | rfl | assumption | (rw [decide_eq_true_eq]; omega) | (rw [decide_eq_false_iff_not]; omega) | (simp <;> omega)) | (refine cond_f ?hc ?_; case hc => first | rfl | assumption | (rw [decide_eq_true_eq]; omega) | (rw [decide_eq_false_iff_not]; omega) | (simp <;> omega)) | refine same_i ?_)
        exact trivial
      · repeat ((conv => whnf); first | (refine pre_i ?hc ?_; case hc => first | exact (show planOK _ _ _ = true from by kernel_rfl) | assumption | omega | (unfold fits; omega) | decide +kernel | (constructor <;> first | assumption | omega) | (simp only [off_addO, tysz, off, offE] <;> omega) | (simp only [lens, off_addO, off, offE] <;> omega) | (simp only [off_addO, tysz, lens, off, offE] <;> omega) | (constructor <;> first | assumption | (simp only [off_addO, tysz, lens, off, offE] <;> omega))) | (refine cond_t ?hc ?_; case hc => first | rfl | assumption | (rw [decide_eq_true_eq]; omega) | (rw [decide_eq_false_iff_not]; omega) | (simp <;> omega)) | (refine cond_f ?hc ?_; case hc => first | rfl | assumption | (rw [decide_eq_true_eq]; omega) | (rw [decide_eq_false_iff_not]; omega) | (simp <;> omega)) | refine same_i ?_)
        conv => whnf
        refine final_h (hp' := []) [] (hf hc) ?_
        repeat ((conv => whnf); first | (refine pre_i ?hc ?_; case hc => first | exact (show planOK _ _ _ = true from by kernel_rfl) | assumption | omega | (unfold fits; omega) | decide +kernel | (constructor <;> first | assumption | omega) | (simp only [off_addO, tysz, off, offE] <;> omega) | (simp only [lens, off_addO, off, offE] <;> omega) | (simp only [off_addO, tysz, lens, off, offE] <;> omega) | (constructor <;> first | assumption | (simp only [off_addO, tysz, lens, off, offE] <;> omega))) | (refine cond_t ?hc ?_; case hc => first | rfl | assumption | (rw [decide_eq_true_eq]; omega) | (rw [decide_eq_false_iff_not]; omega) | (simp <;> omega)) | (refine cond_f ?hc ?_; case hc => first | rfl | assumption | (rw [decide_eq_true_eq]; omega) | (rw [decide_eq_false_iff_not]; omega) | (simp <;> omega)) | refine same_i ?_)
        exact trivial
    · exact h.elim
/-- a number's inverse, if it has one -/
def okI (w : Int) (a : List UInt8) : Prop := ((0 ≤ w ∧ w ≤ 2) ∧ a.length = 32 ∧ beV a < md w) ∧ opN 3 (md w) (beV a) (beV a) ≠ 0
instance (w : Int) (a : List UInt8) : Decidable (okI w a) := by unfold okI; exact inferInstance
def invCallS : Spec := fun args hp K => match args, hp with
  | [.int w, .str a], [] => CondVC (decide (okI w a)) (K (.tup [.str (beB 32 (opN 3 (md w) (beV a) (beV a))), .int 0]) []) (K (.tup [.str [], .int 900]) [])
  | _, _ => False
theorem lim_zero {n : Nat} (h : n < B4) : lim n = [0, 0, 0, 0] ↔ n = 0 := by
  constructor
  · intro e
    have := congrArg val e
    rw [val_lim h, val4] at this
    have z : (0 : UInt64).toNat = 0 := rfl
    rw [z] at this; omega
  · rintro rfl; unfold lim; rfl
theorem Inv_s : SoundC prog 28 invCallS := by
  refine sound_f tys_ok (fnok_cons both_s (fnok_cons load_s (fnok_cons zero_s fnok_nil))) rfl func28 rfl call28 (D := pl28) ?_ ?_
  · intro args hp K h
    unfold invCallS at h
    split at h
    · exact Nat.le_of_ble_eq_true rfl
    · exact h.elim
  · intro args hp K h
    unfold invCallS at h
    split at h
    · rename_i w a
      obtain ⟨ht, hf⟩ := cond_e h
      have hg : (52 : Nat) = 42 ∨ (52 : Nat) = 48 ∨ (52 : Nat) = 49 ∨ (52 : Nat) = 52 := by decide
      repeat ((conv => whnf); first | (refine pre_i ?hc ?_; case hc => first | exact (show planOK _ _ _ = true from by kernel_rfl) | assumption | omega | (unfold fits; omega) | decide +kernel | (constructor <;> first | assumption | omega) | (simp only [off_addO, tysz, off, offE] <;> omega) | (simp only [lens, off_addO, off, offE] <;> omega) | (simp only [off_addO, tysz, lens, off, offE] <;> omega) | (constructor <;> first | assumption | (simp only [off_addO, tysz, lens, off, offE] <;> omega))) | (refine cond_t ?hc ?_; case hc => first | rfl | assumption | (rw [decide_eq_true_eq]; omega) | (rw [decide_eq_false_iff_not]; omega) | (simp <;> omega)) | (refine cond_f ?hc ?_; case hc => first | rfl | assumption | (rw [decide_eq_true_eq]; omega) | (rw [decide_eq_false_iff_not]; omega) | (simp <;> omega)) | refine same_i ?_)
      conv => whnf
      refine cond_i (fun hc => ?_) (fun hc => ?_)
      · have hk : okN w a a := by simpa using hc
        obtain ⟨h0, h1, _, h2, _⟩ := hk
        have hmlt := md_lt h0
        have hgt := md_gt h0
        have hlen := beB_len 32 (opN (gOf 52) (md w) (beV a) (beV a))
        have hol := opN_lt (g := gOf 52) (m := md w) (a := beV a) (b := beV a) (by omega)
        have hv : beV (beB 32 (opN (gOf 52) (md w) (beV a) (beV a))) = opN (gOf 52) (md w) (beV a) (beV a) := by
          rw [beV_beB]; exact Nat.mod_eq_of_lt (by have : (256 : Nat) ^ 32 = B4 := by decide
                                                   omega)
        have hg52 : gOf 52 = 3 := rfl
        repeat ((conv => whnf); first | (refine pre_i ?hc ?_; case hc => first | exact (show planOK _ _ _ = true from by kernel_rfl) | assumption | omega | (unfold fits; omega) | decide +kernel | (constructor <;> first | assumption | omega) | (simp only [off_addO, tysz, off, offE] <;> omega) | (simp only [lens, off_addO, off, offE] <;> omega) | (simp only [off_addO, tysz, lens, off, offE] <;> omega) | (constructor <;> first | assumption | (simp only [off_addO, tysz, lens, off, offE] <;> omega))) | (refine cond_t ?hc ?_; case hc => first | rfl | assumption | (rw [decide_eq_true_eq]; omega) | (rw [decide_eq_false_iff_not]; omega) | (simp <;> omega)) | (refine cond_f ?hc ?_; case hc => first | rfl | assumption | (rw [decide_eq_true_eq]; omega) | (rw [decide_eq_false_iff_not]; omega) | (simp <;> omega)) | refine same_i ?_)
        conv => whnf
        rw [hv]
        by_cases hz : opN (gOf 52) (md w) (beV a) (beV a) = 0
        · have hd : decide (lim (opN (gOf 52) (md w) (beV a) (beV a)) = [0, 0, 0, 0]) = true := decide_eq_true ((lim_zero (by omega)).2 hz)
          have hf := hf (by rw [decide_eq_false_iff_not]; exact fun hh => hh.2 hz)
          repeat ((conv => whnf); first | (refine pre_i ?hc ?_; case hc => first | exact (show planOK _ _ _ = true from by kernel_rfl) | assumption | omega | (unfold fits; omega) | decide +kernel | (constructor <;> first | assumption | omega) | (simp only [off_addO, tysz, off, offE] <;> omega) | (simp only [lens, off_addO, off, offE] <;> omega) | (simp only [off_addO, tysz, lens, off, offE] <;> omega) | (constructor <;> first | assumption | (simp only [off_addO, tysz, lens, off, offE] <;> omega))) | (refine cond_t ?hc ?_; case hc => first | rfl | assumption | (rw [decide_eq_true_eq]; omega) | (rw [decide_eq_false_iff_not]; omega) | (simp <;> omega) | exact hd | (rw [hd]; rfl)) | (refine cond_f ?hc ?_; case hc => first | rfl | assumption | (rw [decide_eq_true_eq]; omega) | (rw [decide_eq_false_iff_not]; omega) | (simp <;> omega) | exact hd | (rw [hd]; rfl)) | refine same_i ?_)
          conv => whnf
          refine final_h (hp' := []) [] hf ?_
          repeat ((conv => whnf); first | (refine pre_i ?hc ?_; case hc => first | exact (show planOK _ _ _ = true from by kernel_rfl) | assumption | omega | (unfold fits; omega) | decide +kernel | (constructor <;> first | assumption | omega) | (simp only [off_addO, tysz, off, offE] <;> omega) | (simp only [lens, off_addO, off, offE] <;> omega) | (simp only [off_addO, tysz, lens, off, offE] <;> omega) | (constructor <;> first | assumption | (simp only [off_addO, tysz, lens, off, offE] <;> omega))) | (refine cond_t ?hc ?_; case hc => first | rfl | assumption | (rw [decide_eq_true_eq]; omega) | (rw [decide_eq_false_iff_not]; omega) | (simp <;> omega)) | (refine cond_f ?hc ?_; case hc => first | rfl | assumption | (rw [decide_eq_true_eq]; omega) | (rw [decide_eq_false_iff_not]; omega) | (simp <;> omega)) | refine same_i ?_)
          exact trivial
        · have hd : decide (lim (opN (gOf 52) (md w) (beV a) (beV a)) = [0, 0, 0, 0]) = false := decide_eq_false (fun hh => hz ((lim_zero (by omega)).1 hh))
          have ht := ht (by rw [decide_eq_true_eq]; exact ⟨⟨h0, h1, h2⟩, hz⟩)
          repeat ((conv => whnf); first | (refine pre_i ?hc ?_; case hc => first | exact (show planOK _ _ _ = true from by kernel_rfl) | assumption | omega | (unfold fits; omega) | decide +kernel | (constructor <;> first | assumption | omega) | (simp only [off_addO, tysz, off, offE] <;> omega) | (simp only [lens, off_addO, off, offE] <;> omega) | (simp only [off_addO, tysz, lens, off, offE] <;> omega) | (constructor <;> first | assumption | (simp only [off_addO, tysz, lens, off, offE] <;> omega))) | (refine cond_t ?hc ?_; case hc => first | rfl | assumption | (rw [decide_eq_true_eq]; omega) | (rw [decide_eq_false_iff_not]; omega) | (simp <;> omega) | exact hd | (rw [hd]; rfl)) | (refine cond_f ?hc ?_; case hc => first | rfl | assumption | (rw [decide_eq_true_eq]; omega) | (rw [decide_eq_false_iff_not]; omega) | (simp <;> omega) | exact hd | (rw [hd]; rfl)) | refine same_i ?_)
          conv => whnf
          refine final_h (hp' := []) [] ht ?_
          repeat ((conv => whnf); first | (refine pre_i ?hc ?_; case hc => first | exact (show planOK _ _ _ = true from by kernel_rfl) | assumption | omega | (unfold fits; omega) | decide +kernel | (constructor <;> first | assumption | omega) | (simp only [off_addO, tysz, off, offE] <;> omega) | (simp only [lens, off_addO, off, offE] <;> omega) | (simp only [off_addO, tysz, lens, off, offE] <;> omega) | (constructor <;> first | assumption | (simp only [off_addO, tysz, lens, off, offE] <;> omega))) | (refine cond_t ?hc ?_; case hc => first | rfl | assumption | (rw [decide_eq_true_eq]; omega) | (rw [decide_eq_false_iff_not]; omega) | (simp <;> omega)) | (refine cond_f ?hc ?_; case hc => first | rfl | assumption | (rw [decide_eq_true_eq]; omega) | (rw [decide_eq_false_iff_not]; omega) | (simp <;> omega)) | refine same_i ?_)
          exact trivial
      · have hk : ¬ okN w a a := by simpa using hc
        have hf := hf (by rw [decide_eq_false_iff_not]; exact fun hh => hk ⟨hh.1.1, hh.1.2.1, hh.1.2.1, hh.1.2.2, hh.1.2.2⟩)
        repeat ((conv => whnf); first | (refine pre_i ?hc ?_; case hc => first | exact (show planOK _ _ _ = true from by kernel_rfl) | assumption | omega | (unfold fits; omega) | decide +kernel | (constructor <;> first | assumption | omega) | (simp only [off_addO, tysz, off, offE] <;> omega) | (simp only [lens, off_addO, off, offE] <;> omega) | (simp only [off_addO, tysz, lens, off, offE] <;> omega) | (constructor <;> first | assumption | (simp only [off_addO, tysz, lens, off, offE] <;> omega))) | (refine cond_t ?hc ?_; case hc => first | rfl | assumption | (rw [decide_eq_true_eq]; omega) | (rw [decide_eq_false_iff_not]; omega) | (simp <;> omega)) | (refine cond_f ?hc ?_; case hc => first | rfl | assumption | (rw [decide_eq_true_eq]; omega) | (rw [decide_eq_false_iff_not]; omega) | (simp <;> omega)) | refine same_i ?_)
        conv => whnf
        refine final_h (hp' := []) [] hf ?_
        repeat ((conv => whnf); first | (refine pre_i ?hc ?_; case hc => first | exact (show planOK _ _ _ = true from by kernel_rfl) | assumption | omega | (unfold fits; omega) | decide +kernel | (constructor <;> first | assumption | omega) | (simp only [off_addO, tysz, off, offE] <;> omega) | (simp only [lens, off_addO, off, offE] <;> omega) | (simp only [off_addO, tysz, lens, off, offE] <;> omega) | (constructor <;> first | assumption | (simp only [off_addO, tysz, lens, off, offE] <;> omega))) | (refine cond_t ?hc ?_; case hc => first | rfl | assumption | (rw [decide_eq_true_eq]; omega) | (rw [decide_eq_false_iff_not]; omega) | (simp <;> omega)) | (refine cond_f ?hc ?_; case hc => first | rfl | assumption | (rw [decide_eq_true_eq]; omega) | (rw [decide_eq_false_iff_not]; omega) | (simp <;> omega)) | refine same_i ?_)
        exact trivial
    · exact h.elim
end Go.Sym.N

namespace Go.Sym.N
open Go Go.Proofs.Try Go.Sym.Num
open Go.Sym.X
set_option maxRecDepth 100000
attribute [local irreducible] lim val mlim md beB beV mont riOf mo toM invL clampV topV ladM fa fs mk

/-- the orders of the drawn regions of xcurve.Shared -/
def pl33 : List (Nat × List PStep) := [(5, [⟨0, []⟩, ⟨3, [0]⟩, ⟨6, [0, 3]⟩, ⟨1, [3, 6]⟩, ⟨2, [3, 6]⟩, ⟨4, [6]⟩, ⟨5, [6]⟩, ⟨7, []⟩])]

def sharedV (k u : List UInt8) : Nat := ladM (clampV (beV k.reverse)) (toM (md 2) (topV (beV u.reverse) % md 2))
def SharedS : Spec := fun args hp K => match args, hp with
  | [.str k, .str u], [] => CondVC (decide (k.length = 32 ∧ u.length = 32)) (CondVC (decide (sharedV k u = 0)) (K (.tup [.str [], .int 1001]) []) (K (.tup [.str (beB 32 (sharedV k u)).reverse, .int 0]) [])) (K (.tup [.str [], .int 1000]) [])
  | _, _ => False
theorem Shared_s : SoundC prog 33 SharedS := by
  refine sound_f tys_ok (fnok_cons turned_s (fnok_cons load_s (fnok_cons clamp_s (fnok_cons new_s (fnok_cons rest_s (fnok_cons ladder_s (fnok_cons zero_s (fnok_cons bytes_s fnok_nil)))))))) rfl func33 rfl call33 (D := pl33) ?_ ?_
  · intro args hp K h
    unfold SharedS at h
    split at h
    · exact Nat.le_of_ble_eq_true rfl
    · exact h.elim
  · intro args hp K h
    unfold SharedS at h
    split at h
    · rename_i k u
      obtain ⟨ht, hn⟩ := cond_e h
      by_cases hk : k.length = 32
      · by_cases hu : u.length = 32
        · have ht := ht (by rw [decide_eq_true_eq]; exact ⟨hk, hu⟩)
          have hkr : k.reverse.length = 32 := by rw [List.length_reverse, hk]
          have hur : u.reverse.length = 32 := by rw [List.length_reverse, hu]
          have hub : beV u.reverse < B4 := beV_lt 32 _ hur
          have hll := lim_len (beV u.reverse)
          have hml := mlim_len 2
          have hmv := mlim_val (w := 2) (by decide)
          have htl := topV_lt (beV u.reverse)
          have hmd : md 2 = mX := by unfold md; rfl
          have hmB := md2_lt
          have hv : val (lim (topV (beV u.reverse))) = topV (beV u.reverse) := val_lim (by unfold B4; unfold mX at htl; omega)
          have hlt : lim_len (topV (beV u.reverse)) = lim_len (topV (beV u.reverse)) := rfl
          have hl3 := lim_len (topV (beV u.reverse))
          have hpr : (lim (topV (beV u.reverse))).length = 4 ∧ (mlim 2).length = 4 ∧ val (lim (topV (beV u.reverse))) < 2 * val (mlim 2) := by
            rw [hv, hmv, hmd]; exact ⟨hl3, hml, htl⟩
          repeat ((conv => whnf); first | (refine pre_i ?hc ?_; case hc => first | exact (show planOK _ _ _ = true from by kernel_rfl) | assumption | omega | (unfold fits; omega) | decide +kernel | (constructor <;> first | assumption | omega) | (simp only [off_addO, tysz, off, offE] <;> omega) | (simp only [lens, off_addO, off, offE] <;> omega) | (simp only [off_addO, tysz, lens, off, offE] <;> omega) | (constructor <;> first | assumption | (simp only [off_addO, tysz, lens, off, offE] <;> omega))) | (refine cond_t ?hc ?_; case hc => first | rfl | assumption | (rw [decide_eq_true_eq]; omega) | (rw [decide_eq_false_iff_not]; omega) | (simp <;> omega)) | (refine cond_f ?hc ?_; case hc => first | rfl | assumption | (rw [decide_eq_true_eq]; omega) | (rw [decide_eq_false_iff_not]; omega) | (simp <;> omega)) | refine same_i ?_)
          conv => whnf
          rw [show (lim (beV u.reverse)).set (off (addO [] (Int.toNat 3) ty77.sz)) ((lim (beV u.reverse)).getD (off (addO [] (Int.toNat 3) ty77.sz)) 0 &&& UInt64.ofNat 9223372036854775807) = lim (topV (beV u.reverse)) from top64 hub]
          repeat ((conv => whnf); first | (refine pre_i ?hc ?_; case hc => first | exact (show planOK _ _ _ = true from by kernel_rfl) | assumption | omega | (unfold fits; omega) | decide +kernel | (constructor <;> first | assumption | omega) | (simp only [off_addO, tysz, off, offE] <;> omega) | (simp only [lens, off_addO, off, offE] <;> omega) | (simp only [off_addO, tysz, lens, off, offE] <;> omega) | (constructor <;> first | assumption | (simp only [off_addO, tysz, lens, off, offE] <;> omega))) | (refine cond_t ?hc ?_; case hc => first | rfl | assumption | (rw [decide_eq_true_eq]; omega) | (rw [decide_eq_false_iff_not]; omega) | (simp <;> omega)) | (refine cond_f ?hc ?_; case hc => first | rfl | assumption | (rw [decide_eq_true_eq]; omega) | (rw [decide_eq_false_iff_not]; omega) | (simp <;> omega)) | refine same_i ?_)
          conv => whnf
          refine ⟨clampV (beV k.reverse), topV (beV u.reverse) % md 2, ⟨rfl, by rw [hv, hmv], clampV_lt _, by have := clampV_even (beV k.reverse); omega, Nat.mod_lt _ md2_pos⟩, ?_⟩
          rw [show ladM (clampV (beV k.reverse)) (toM (md 2) (topV (beV u.reverse) % md 2)) = sharedV k u from rfl]
          have hV : sharedV k u < md 2 := by unfold sharedV; exact ladM_lt _ _
          obtain ⟨h0, h1⟩ := cond_e ht
          clear ht hn
          generalize sharedV k u = V at *
          have vV : val (lim V) = V := val_lim (by omega)
          have lV := lim_len V
          have hz := lim_zero (n := V) (by omega)
          have lB : (beB 32 (val (lim V))).length ≤ 140737488355328 := by rw [beB_len]; decide
          by_cases hz0 : V = 0
          · have hd : decide (lim V = [0, 0, 0, 0]) = true := decide_eq_true (hz.2 hz0)
            have h0 := h0 (decide_eq_true hz0)
            repeat ((conv => whnf); first | (refine pre_i ?hc ?_; case hc => first | exact (show planOK _ _ _ = true from by kernel_rfl) | assumption | omega | (unfold fits; omega) | decide +kernel | (constructor <;> first | assumption | omega) | (simp only [off_addO, tysz, off, offE] <;> omega) | (simp only [lens, off_addO, off, offE] <;> omega) | (simp only [off_addO, tysz, lens, off, offE] <;> omega) | (constructor <;> first | assumption | (simp only [off_addO, tysz, lens, off, offE] <;> omega))) | (refine cond_t ?hc ?_; case hc => first | rfl | assumption | (rw [decide_eq_true_eq]; omega) | (rw [decide_eq_false_iff_not]; omega) | (simp <;> omega) | exact hd | (rw [hd]; rfl)) | (refine cond_f ?hc ?_; case hc => first | rfl | assumption | (rw [decide_eq_true_eq]; omega) | (rw [decide_eq_false_iff_not]; omega) | (simp <;> omega) | exact hd | (rw [hd]; rfl)) | refine same_i ?_)
            conv => whnf
            refine final_h (hp' := []) [] h0 ?_
            repeat ((conv => whnf); first | (refine pre_i ?hc ?_; case hc => first | exact (show planOK _ _ _ = true from by kernel_rfl) | assumption | omega | (unfold fits; omega) | decide +kernel | (constructor <;> first | assumption | omega) | (simp only [off_addO, tysz, off, offE] <;> omega) | (simp only [lens, off_addO, off, offE] <;> omega) | (simp only [off_addO, tysz, lens, off, offE] <;> omega) | (constructor <;> first | assumption | (simp only [off_addO, tysz, lens, off, offE] <;> omega))) | (refine cond_t ?hc ?_; case hc => first | rfl | assumption | (rw [decide_eq_true_eq]; omega) | (rw [decide_eq_false_iff_not]; omega) | (simp <;> omega)) | (refine cond_f ?hc ?_; case hc => first | rfl | assumption | (rw [decide_eq_true_eq]; omega) | (rw [decide_eq_false_iff_not]; omega) | (simp <;> omega)) | refine same_i ?_)
            exact trivial
          · have hd : decide (lim V = [0, 0, 0, 0]) = false := decide_eq_false (fun hh => hz0 (hz.1 hh))
            have h1 := h1 (decide_eq_false hz0)
            repeat ((conv => whnf); first | (refine pre_i ?hc ?_; case hc => first | exact (show planOK _ _ _ = true from by kernel_rfl) | assumption | omega | (unfold fits; omega) | decide +kernel | (constructor <;> first | assumption | omega) | (simp only [off_addO, tysz, off, offE] <;> omega) | (simp only [lens, off_addO, off, offE] <;> omega) | (simp only [off_addO, tysz, lens, off, offE] <;> omega) | (constructor <;> first | assumption | (simp only [off_addO, tysz, lens, off, offE] <;> omega))) | (refine cond_t ?hc ?_; case hc => first | rfl | assumption | (rw [decide_eq_true_eq]; omega) | (rw [decide_eq_false_iff_not]; omega) | (simp <;> omega) | exact hd | (rw [hd]; rfl)) | (refine cond_f ?hc ?_; case hc => first | rfl | assumption | (rw [decide_eq_true_eq]; omega) | (rw [decide_eq_false_iff_not]; omega) | (simp <;> omega) | exact hd | (rw [hd]; rfl)) | refine same_i ?_)
            conv => whnf
            rw [vV]
            refine final_h (hp' := []) [] h1 ?_
            repeat ((conv => whnf); first | (refine pre_i ?hc ?_; case hc => first | exact (show planOK _ _ _ = true from by kernel_rfl) | assumption | omega | (unfold fits; omega) | decide +kernel | (constructor <;> first | assumption | omega) | (simp only [off_addO, tysz, off, offE] <;> omega) | (simp only [lens, off_addO, off, offE] <;> omega) | (simp only [off_addO, tysz, lens, off, offE] <;> omega) | (constructor <;> first | assumption | (simp only [off_addO, tysz, lens, off, offE] <;> omega))) | (refine cond_t ?hc ?_; case hc => first | rfl | assumption | (rw [decide_eq_true_eq]; omega) | (rw [decide_eq_false_iff_not]; omega) | (simp <;> omega)) | (refine cond_f ?hc ?_; case hc => first | rfl | assumption | (rw [decide_eq_true_eq]; omega) | (rw [decide_eq_false_iff_not]; omega) | (simp <;> omega)) | refine same_i ?_)
            exact trivial
        · have hn := hn (by rw [decide_eq_false_iff_not]; exact fun hh => hu hh.2)
          repeat ((conv => whnf); first | (refine pre_i ?hc ?_; case hc => first | exact (show planOK _ _ _ = true from by kernel_rfl) | assumption | omega | (unfold fits; omega) | decide +kernel | (constructor <;> first | assumption | omega) | (simp only [off_addO, tysz, off, offE] <;> omega) | (simp only [lens, off_addO, off, offE] <;> omega) | (simp only [off_addO, tysz, lens, off, offE] <;> omega) | (constructor <;> first | assumption | (simp only [off_addO, tysz, lens, off, offE] <;> omega))) | (refine cond_t ?hc ?_; case hc => first | rfl | assumption | (rw [decide_eq_true_eq]; omega) | (rw [decide_eq_false_iff_not]; omega) | (simp <;> omega)) | (refine cond_f ?hc ?_; case hc => first | rfl | assumption | (rw [decide_eq_true_eq]; omega) | (rw [decide_eq_false_iff_not]; omega) | (simp <;> omega)) | refine same_i ?_)
          conv => whnf
          refine final_h (hp' := []) [] hn ?_
          repeat ((conv => whnf); first | (refine pre_i ?hc ?_; case hc => first | exact (show planOK _ _ _ = true from by kernel_rfl) | assumption | omega | (unfold fits; omega) | decide +kernel | (constructor <;> first | assumption | omega) | (simp only [off_addO, tysz, off, offE] <;> omega) | (simp only [lens, off_addO, off, offE] <;> omega) | (simp only [off_addO, tysz, lens, off, offE] <;> omega) | (constructor <;> first | assumption | (simp only [off_addO, tysz, lens, off, offE] <;> omega))) | (refine cond_t ?hc ?_; case hc => first | rfl | assumption | (rw [decide_eq_true_eq]; omega) | (rw [decide_eq_false_iff_not]; omega) | (simp <;> omega)) | (refine cond_f ?hc ?_; case hc => first | rfl | assumption | (rw [decide_eq_true_eq]; omega) | (rw [decide_eq_false_iff_not]; omega) | (simp <;> omega)) | refine same_i ?_)
          exact trivial
      · have hn := hn (by rw [decide_eq_false_iff_not]; exact fun hh => hk hh.1)
        repeat ((conv => whnf); first | (refine pre_i ?hc ?_; case hc => first | exact (show planOK _ _ _ = true from by kernel_rfl) | assumption | omega | (unfold fits; omega) | decide +kernel | (constructor <;> first | assumption | omega) | (simp only [off_addO, tysz, off, offE] <;> omega) | (simp only [lens, off_addO, off, offE] <;> omega) | (simp only [off_addO, tysz, lens, off, offE] <;> omega) | (constructor <;> first | assumption | (simp only [off_addO, tysz, lens, off, offE] <;> omega))) | (refine cond_t ?hc ?_; case hc => first | rfl | assumption | (rw [decide_eq_true_eq]; omega) | (rw [decide_eq_false_iff_not]; omega) | (simp <;> omega)) | (refine cond_f ?hc ?_; case hc => first | rfl | assumption | (rw [decide_eq_true_eq]; omega) | (rw [decide_eq_false_iff_not]; omega) | (simp <;> omega)) | refine same_i ?_)
        conv => whnf
        refine final_h (hp' := []) [] hn ?_
        repeat ((conv => whnf); first | (refine pre_i ?hc ?_; case hc => first | exact (show planOK _ _ _ = true from by kernel_rfl) | assumption | omega | (unfold fits; omega) | decide +kernel | (constructor <;> first | assumption | omega) | (simp only [off_addO, tysz, off, offE] <;> omega) | (simp only [lens, off_addO, off, offE] <;> omega) | (simp only [off_addO, tysz, lens, off, offE] <;> omega) | (constructor <;> first | assumption | (simp only [off_addO, tysz, lens, off, offE] <;> omega))) | (refine cond_t ?hc ?_; case hc => first | rfl | assumption | (rw [decide_eq_true_eq]; omega) | (rw [decide_eq_false_iff_not]; omega) | (simp <;> omega)) | (refine cond_f ?hc ?_; case hc => first | rfl | assumption | (rw [decide_eq_true_eq]; omega) | (rw [decide_eq_false_iff_not]; omega) | (simp <;> omega)) | refine same_i ?_)
        exact trivial
    · exact h.elim
end Go.Sym.N

namespace Go.Sym.N
open Go Go.Proofs.Try Go.Sym.Num
open Go.Sym.X
set_option maxRecDepth 100000
attribute [local irreducible] lim val mlim md beB beV mont riOf mo toM invL clampV topV ladM fa fs mk sharedV

/-- the orders of the drawn regions of xcurve.Public -/
def pl35 : List (Nat × List PStep) := [(1, [⟨0, []⟩, ⟨1, [0]⟩, ⟨2, [0]⟩, ⟨3, [0, 1, 2]⟩, ⟨4, [0, 1, 2]⟩, ⟨5, [0]⟩, ⟨6, []⟩, ⟨7, []⟩, ⟨8, [7]⟩, ⟨9, []⟩, ⟨10, []⟩])]
/-- the orders of the drawn regions of halberdlaw10.nine -/
def pl36 : List (Nat × List PStep) := []

def nineB : List UInt8 := 9 :: List.replicate 31 0
def PublicS : Spec := fun args hp K => match args, hp with
  | [.str k], [] => CondVC (decide (k.length = 32)) (CondVC (decide (sharedV k nineB = 0)) (K (.tup [.str [], .int 1001]) []) (K (.tup [.str (beB 32 (sharedV k nineB)).reverse, .int 0]) [])) (K (.tup [.str [], .int 1000]) [])
  | _, _ => False
def nineS : Spec := fun args hp K => match args, hp with
  | [], [] => K (.str nineB) []
  | _, _ => False
theorem nine_s : SoundC prog 36 nineS := by
  refine sound_f tys_ok fnok_nil rfl func36 rfl call36 (D := pl36) ?_ ?_
  · intro args hp K h
    unfold nineS at h
    split at h
    · exact Nat.le_of_ble_eq_true rfl
    · exact h.elim
  · intro args hp K h
    unfold nineS at h
    split at h
    · repeat ((conv => whnf); first | (refine pre_i ?hc ?_; case hc => first | exact (show planOK _ _ _ = true from by kernel_rfl) | assumption | omega | (unfold fits; omega) | decide +kernel | (constructor <;> first | assumption | omega) | (simp only [off_addO, tysz, off, offE] <;> omega) | (simp only [lens, off_addO, off, offE] <;> omega) | (simp only [off_addO, tysz, lens, off, offE] <;> omega) | (constructor <;> first | assumption | (simp only [off_addO, tysz, lens, off, offE] <;> omega))) | (refine cond_t ?hc ?_; case hc => first | rfl | assumption | (rw [decide_eq_true_eq]; omega) | (rw [decide_eq_false_iff_not]; omega) | (simp <;> omega)) | (refine cond_f ?hc ?_; case hc => first | rfl | assumption | (rw [decide_eq_true_eq]; omega) | (rw [decide_eq_false_iff_not]; omega) | (simp <;> omega)) | refine same_i ?_)
      conv => whnf
      refine final_h (hp' := []) [] h ?_
      repeat ((conv => whnf); first | (refine pre_i ?hc ?_; case hc => first | exact (show planOK _ _ _ = true from by kernel_rfl) | assumption | omega | (unfold fits; omega) | decide +kernel | (constructor <;> first | assumption | omega) | (simp only [off_addO, tysz, off, offE] <;> omega) | (simp only [lens, off_addO, off, offE] <;> omega) | (simp only [off_addO, tysz, lens, off, offE] <;> omega) | (constructor <;> first | assumption | (simp only [off_addO, tysz, lens, off, offE] <;> omega))) | (refine cond_t ?hc ?_; case hc => first | rfl | assumption | (rw [decide_eq_true_eq]; omega) | (rw [decide_eq_false_iff_not]; omega) | (simp <;> omega)) | (refine cond_f ?hc ?_; case hc => first | rfl | assumption | (rw [decide_eq_true_eq]; omega) | (rw [decide_eq_false_iff_not]; omega) | (simp <;> omega)) | refine same_i ?_)
      exact trivial
    · exact h.elim
theorem Public_s : SoundC prog 35 PublicS := by
  refine sound_f tys_ok (fnok_cons Shared_s fnok_nil) rfl func35 rfl call35 (D := pl35) ?_ ?_
  · intro args hp K h
    unfold PublicS at h
    split at h
    · exact Nat.le_of_ble_eq_true rfl
    · exact h.elim
  · intro args hp K h
    unfold PublicS at h
    split at h
    · rename_i k
      obtain ⟨ht, hn⟩ := cond_e h
      have e9 : List.take 1 (List.drop (off []) ((List.replicate 1 0).set (off [(0, ty5.sz)]) (UInt8.ofNat 9))) ++ List.take (Int.toNat 31) (List.drop (off []) (List.replicate (Int.toNat 31) 0)) = nineB := by unfold nineB; rfl
      have l9 : nineB.length = 32 := rfl
      repeat ((conv => whnf); first | (refine pre_i ?hc ?_; case hc => first | exact (show planOK _ _ _ = true from by kernel_rfl) | assumption | omega | (unfold fits; omega) | decide +kernel | (constructor <;> first | assumption | omega) | (simp only [off_addO, tysz, off, offE] <;> omega) | (simp only [lens, off_addO, off, offE] <;> omega) | (simp only [off_addO, tysz, lens, off, offE] <;> omega) | (constructor <;> first | assumption | (simp only [off_addO, tysz, lens, off, offE] <;> omega))) | (refine cond_t ?hc ?_; case hc => first | rfl | assumption | (rw [decide_eq_true_eq]; omega) | (rw [decide_eq_false_iff_not]; omega) | (simp <;> omega)) | (refine cond_f ?hc ?_; case hc => first | rfl | assumption | (rw [decide_eq_true_eq]; omega) | (rw [decide_eq_false_iff_not]; omega) | (simp <;> omega)) | refine same_i ?_)
      conv => whnf
      rw [e9]
      by_cases hk : k.length = 32
      · have ht := ht (decide_eq_true hk)
        obtain ⟨h0, h1⟩ := cond_e ht
        have hd : decide (k.length = 32 ∧ nineB.length = 32) = true := decide_eq_true ⟨hk, l9⟩
        generalize sharedV k nineB = V at *
        by_cases hz0 : V = 0
        · have h0 := h0 (decide_eq_true hz0)
          repeat ((conv => whnf); first | (refine pre_i ?hc ?_; case hc => first | exact (show planOK _ _ _ = true from by kernel_rfl) | assumption | omega | (unfold fits; omega) | decide +kernel | (constructor <;> first | assumption | omega) | (simp only [off_addO, tysz, off, offE] <;> omega) | (simp only [lens, off_addO, off, offE] <;> omega) | (simp only [off_addO, tysz, lens, off, offE] <;> omega) | (constructor <;> first | assumption | (simp only [off_addO, tysz, lens, off, offE] <;> omega))) | (refine cond_t ?hc ?_; case hc => first | rfl | assumption | (rw [decide_eq_true_eq]; omega) | (rw [decide_eq_false_iff_not]; omega) | (simp <;> omega) | exact hd | (rw [hd]; rfl)) | (refine cond_f ?hc ?_; case hc => first | rfl | assumption | (rw [decide_eq_true_eq]; omega) | (rw [decide_eq_false_iff_not]; omega) | (simp <;> omega) | exact hd | (rw [hd]; rfl)) | refine same_i ?_)
          conv => whnf
          refine final_h (hp' := []) [] h0 ?_
          repeat ((conv => whnf); first | (refine pre_i ?hc ?_; case hc => first | exact (show planOK _ _ _ = true from by kernel_rfl) | assumption | omega | (unfold fits; omega) | decide +kernel | (constructor <;> first | assumption | omega) | (simp only [off_addO, tysz, off, offE] <;> omega) | (simp only [lens, off_addO, off, offE] <;> omega) | (simp only [off_addO, tysz, lens, off, offE] <;> omega) | (constructor <;> first | assumption | (simp only [off_addO, tysz, lens, off, offE] <;> omega))) | (refine cond_t ?hc ?_; case hc => first | rfl | assumption | (rw [decide_eq_true_eq]; omega) | (rw [decide_eq_false_iff_not]; omega) | (simp <;> omega)) | (refine cond_f ?hc ?_; case hc => first | rfl | assumption | (rw [decide_eq_true_eq]; omega) | (rw [decide_eq_false_iff_not]; omega) | (simp <;> omega)) | refine same_i ?_)
          exact trivial
        · have h1 := h1 (decide_eq_false hz0)
          repeat ((conv => whnf); first | (refine pre_i ?hc ?_; case hc => first | exact (show planOK _ _ _ = true from by kernel_rfl) | assumption | omega | (unfold fits; omega) | decide +kernel | (constructor <;> first | assumption | omega) | (simp only [off_addO, tysz, off, offE] <;> omega) | (simp only [lens, off_addO, off, offE] <;> omega) | (simp only [off_addO, tysz, lens, off, offE] <;> omega) | (constructor <;> first | assumption | (simp only [off_addO, tysz, lens, off, offE] <;> omega))) | (refine cond_t ?hc ?_; case hc => first | rfl | assumption | (rw [decide_eq_true_eq]; omega) | (rw [decide_eq_false_iff_not]; omega) | (simp <;> omega) | exact hd | (rw [hd]; rfl)) | (refine cond_f ?hc ?_; case hc => first | rfl | assumption | (rw [decide_eq_true_eq]; omega) | (rw [decide_eq_false_iff_not]; omega) | (simp <;> omega) | exact hd | (rw [hd]; rfl)) | refine same_i ?_)
          conv => whnf
          refine final_h (hp' := []) [] h1 ?_
          repeat ((conv => whnf); first | (refine pre_i ?hc ?_; case hc => first | exact (show planOK _ _ _ = true from by kernel_rfl) | assumption | omega | (unfold fits; omega) | decide +kernel | (constructor <;> first | assumption | omega) | (simp only [off_addO, tysz, off, offE] <;> omega) | (simp only [lens, off_addO, off, offE] <;> omega) | (simp only [off_addO, tysz, lens, off, offE] <;> omega) | (constructor <;> first | assumption | (simp only [off_addO, tysz, lens, off, offE] <;> omega))) | (refine cond_t ?hc ?_; case hc => first | rfl | assumption | (rw [decide_eq_true_eq]; omega) | (rw [decide_eq_false_iff_not]; omega) | (simp <;> omega)) | (refine cond_f ?hc ?_; case hc => first | rfl | assumption | (rw [decide_eq_true_eq]; omega) | (rw [decide_eq_false_iff_not]; omega) | (simp <;> omega)) | refine same_i ?_)
          exact trivial
      · have hn := hn (decide_eq_false hk)
        have hd : decide (k.length = 32 ∧ nineB.length = 32) = false := decide_eq_false (fun hh => hk hh.1)
        repeat ((conv => whnf); first | (refine pre_i ?hc ?_; case hc => first | exact (show planOK _ _ _ = true from by kernel_rfl) | assumption | omega | (unfold fits; omega) | decide +kernel | (constructor <;> first | assumption | omega) | (simp only [off_addO, tysz, off, offE] <;> omega) | (simp only [lens, off_addO, off, offE] <;> omega) | (simp only [off_addO, tysz, lens, off, offE] <;> omega) | (constructor <;> first | assumption | (simp only [off_addO, tysz, lens, off, offE] <;> omega))) | (refine cond_t ?hc ?_; case hc => first | rfl | assumption | (rw [decide_eq_true_eq]; omega) | (rw [decide_eq_false_iff_not]; omega) | (simp <;> omega) | exact hd | (rw [hd]; rfl)) | (refine cond_f ?hc ?_; case hc => first | rfl | assumption | (rw [decide_eq_true_eq]; omega) | (rw [decide_eq_false_iff_not]; omega) | (simp <;> omega) | exact hd | (rw [hd]; rfl)) | refine same_i ?_)
        conv => whnf
        refine final_h (hp' := []) [] hn ?_
        repeat ((conv => whnf); first | (refine pre_i ?hc ?_; case hc => first | exact (show planOK _ _ _ = true from by kernel_rfl) | assumption | omega | (unfold fits; omega) | decide +kernel | (constructor <;> first | assumption | omega) | (simp only [off_addO, tysz, off, offE] <;> omega) | (simp only [lens, off_addO, off, offE] <;> omega) | (simp only [off_addO, tysz, lens, off, offE] <;> omega) | (constructor <;> first | assumption | (simp only [off_addO, tysz, lens, off, offE] <;> omega))) | (refine cond_t ?hc ?_; case hc => first | rfl | assumption | (rw [decide_eq_true_eq]; omega) | (rw [decide_eq_false_iff_not]; omega) | (simp <;> omega)) | (refine cond_f ?hc ?_; case hc => first | rfl | assumption | (rw [decide_eq_true_eq]; omega) | (rw [decide_eq_false_iff_not]; omega) | (simp <;> omega)) | refine same_i ?_)
        exact trivial
    · exact h.elim
end Go.Sym.N

namespace Go.Sym.N
open Go Go.Proofs.Try Go.Sym.Num
open Go.Sym.X
set_option maxRecDepth 100000
attribute [local irreducible] lim val mlim md beB beV mont riOf mo toM invL clampV topV ladM fa fs mk sharedV

/-- the orders of the drawn regions of halberdref9.turned -/
def pl65 : List (Nat × List PStep) := []

def trSt (s : List UInt8) : Nat → List UInt8
  | 0 => List.replicate s.length 0
  | i + 1 => (trSt s i).set ((s.length : Int) - 1 - (i : Int)).toNat (s.getD i 0)
theorem trSt_len (s : List UInt8) : ∀ i, (trSt s i).length = s.length
  | 0 => List.length_replicate
  | i + 1 => by simp only [trSt, List.length_set]; exact trSt_len s i
theorem trSt_get (s : List UInt8) : ∀ i, i ≤ s.length → ∀ j, j < s.length → s.length - 1 - j < i → (trSt s i)[j]? = s[s.length - 1 - j]?
  | 0, _, j, _, h => by omega
  | i + 1, hi, j, hj, h => by
    have hx : ((s.length : Int) - 1 - (i : Int)).toNat = s.length - 1 - i := by omega
    simp only [trSt]
    rw [hx, List.getElem?_set, trSt_len]
    by_cases e : s.length - 1 - i = j
    · rw [if_pos e, if_pos (by omega), List.getD_eq_getElem?_getD, show s.length - 1 - j = i by omega, List.getElem?_eq_getElem (by omega)]; rfl
    · rw [if_neg e, trSt_get s i (by omega) j hj (by omega)]
theorem trSt_all (s : List UInt8) : trSt s s.length = s.reverse := by
  apply List.ext_getElem?
  intro j
  by_cases hj : j < s.length
  · rw [trSt_get s _ (Nat.le_refl _) j hj (by omega), List.getElem?_reverse hj]
  · rw [List.getElem?_eq_none (by rw [trSt_len]; omega), List.getElem?_eq_none (by rw [List.length_reverse]; omega)]
theorem rturned_s : SoundC prog 65 turnedS := by
  refine sound_f tys_ok fnok_nil rfl func65 rfl call65 (D := pl65) ?_ ?_
  · intro args hp K h
    unfold turnedS at h
    split at h
    · exact Nat.le_of_ble_eq_true rfl
    · exact h.elim
  · intro args hp K h
    unfold turnedS at h
    split at h
    · rename_i s
      obtain ⟨hs, h⟩ := pre_e h
      have hN : (s.length : Int).toNat = s.length := Int.toNat_natCast _
      repeat ((conv => whnf); first | (refine pre_i ?hc ?_; case hc => first | exact (show planOK _ _ _ = true from by kernel_rfl) | assumption | omega | (unfold fits; omega) | decide +kernel | (constructor <;> first | assumption | omega) | (simp only [off_addO, tysz, off, offE] <;> omega) | (simp only [lens, off_addO, off, offE] <;> omega) | (simp only [off_addO, tysz, lens, off, offE] <;> omega) | (constructor <;> first | assumption | (simp only [off_addO, tysz, lens, off, offE] <;> omega))) | (refine cond_t ?hc ?_; case hc => first | rfl | assumption | (rw [decide_eq_true_eq]; omega) | (rw [decide_eq_false_iff_not]; omega) | (simp <;> omega)) | (refine cond_f ?hc ?_; case hc => first | rfl | assumption | (rw [decide_eq_true_eq]; omega) | (rw [decide_eq_false_iff_not]; omega) | (simp <;> omega)) | refine same_i ?_)
      conv => whnf
      refine loop_h (Ix s.length) (fun q => ⟨[(0, .str s), (3, .sl 0 0 0 [] s.length s.length), (4, .int q.i)], [.mk 5 [.arr8 s.length (trSt s q.i)]]⟩)
        (fun q => s.length - q.i) ⟨0, Nat.zero_le _⟩ [0] ?_ ?_
      · repeat ((conv => whnf); first | (refine pre_i ?hc ?_; case hc => first | exact (show planOK _ _ _ = true from by kernel_rfl) | assumption | omega | (unfold fits; omega) | decide +kernel | (constructor <;> first | assumption | omega) | (simp only [off_addO, tysz, off, offE] <;> omega) | (simp only [lens, off_addO, off, offE] <;> omega) | (simp only [off_addO, tysz, lens, off, offE] <;> omega) | (constructor <;> first | assumption | (simp only [off_addO, tysz, lens, off, offE] <;> omega))) | (refine cond_t ?hc ?_; case hc => first | rfl | assumption | (rw [decide_eq_true_eq]; omega) | (rw [decide_eq_false_iff_not]; omega) | (simp <;> omega)) | (refine cond_f ?hc ?_; case hc => first | rfl | assumption | (rw [decide_eq_true_eq]; omega) | (rw [decide_eq_false_iff_not]; omega) | (simp <;> omega)) | refine same_i ?_)
        exact trivial
      · intro q
        have hi := q.hi
        have hl := trSt_len s q.i
        have hI : ((q.i : Int)).toNat = q.i := Int.toNat_natCast _
        by_cases h4 : q.i < s.length
        · repeat ((conv => whnf); first | (refine pre_i ?hc ?_; case hc => first | exact (show planOK _ _ _ = true from by kernel_rfl) | assumption | omega | (unfold fits; omega) | decide +kernel | (constructor <;> first | assumption | omega) | (simp only [off_addO, tysz, off, offE] <;> omega) | (simp only [lens, off_addO, off, offE] <;> omega) | (simp only [off_addO, tysz, lens, off, offE] <;> omega) | (constructor <;> first | assumption | (simp only [off_addO, tysz, lens, off, offE] <;> omega))) | (refine cond_t ?hc ?_; case hc => first | rfl | assumption | (rw [decide_eq_true_eq]; omega) | (rw [decide_eq_false_iff_not]; omega) | (simp <;> omega)) | (refine cond_f ?hc ?_; case hc => first | rfl | assumption | (rw [decide_eq_true_eq]; omega) | (rw [decide_eq_false_iff_not]; omega) | (simp <;> omega)) | refine same_i ?_)
          conv => whnf
          refine ⟨⟨q.i + 1, h4⟩, [0], ?_, ?_⟩
          · show s.length - (q.i + 1) < s.length - q.i
            omega
          · repeat ((conv => whnf); first | (refine pre_i ?hc ?_; case hc => first | exact (show planOK _ _ _ = true from by kernel_rfl) | assumption | omega | (unfold fits; omega) | decide +kernel | (constructor <;> first | assumption | omega) | (simp only [off_addO, tysz, off, offE] <;> omega) | (simp only [lens, off_addO, off, offE] <;> omega) | (simp only [off_addO, tysz, lens, off, offE] <;> omega) | (constructor <;> first | assumption | (simp only [off_addO, tysz, lens, off, offE] <;> omega))) | (refine cond_t ?hc ?_; case hc => first | rfl | assumption | (rw [decide_eq_true_eq]; omega) | (rw [decide_eq_false_iff_not]; omega) | (simp <;> omega)) | (refine cond_f ?hc ?_; case hc => first | rfl | assumption | (rw [decide_eq_true_eq]; omega) | (rw [decide_eq_false_iff_not]; omega) | (simp <;> omega)) | refine same_i ?_)
            exact trivial
        · have e4 : q.i = s.length := by omega
          have eb : List.take s.length (List.drop (off []) (trSt s q.i)) = s.reverse := by
            rw [e4, trSt_all]
            exact List.take_of_length_le (Nat.le_of_eq List.length_reverse)
          repeat ((conv => whnf); first | (refine pre_i ?hc ?_; case hc => first | exact (show planOK _ _ _ = true from by kernel_rfl) | assumption | omega | (unfold fits; omega) | decide +kernel | (constructor <;> first | assumption | omega) | (simp only [off_addO, tysz, off, offE] <;> omega) | (simp only [lens, off_addO, off, offE] <;> omega) | (simp only [off_addO, tysz, lens, off, offE] <;> omega) | (constructor <;> first | assumption | (simp only [off_addO, tysz, lens, off, offE] <;> omega))) | (refine cond_t ?hc ?_; case hc => first | rfl | assumption | (rw [decide_eq_true_eq]; omega) | (rw [decide_eq_false_iff_not]; omega) | (simp <;> omega)) | (refine cond_f ?hc ?_; case hc => first | rfl | assumption | (rw [decide_eq_true_eq]; omega) | (rw [decide_eq_false_iff_not]; omega) | (simp <;> omega)) | refine same_i ?_)
          conv => whnf
          rw [eb]
          refine final_h (hp' := []) [] h ?_
          repeat ((conv => whnf); first | (refine pre_i ?hc ?_; case hc => first | exact (show planOK _ _ _ = true from by kernel_rfl) | assumption | omega | (unfold fits; omega) | decide +kernel | (constructor <;> first | assumption | omega) | (simp only [off_addO, tysz, off, offE] <;> omega) | (simp only [lens, off_addO, off, offE] <;> omega) | (simp only [off_addO, tysz, lens, off, offE] <;> omega) | (constructor <;> first | assumption | (simp only [off_addO, tysz, lens, off, offE] <;> omega))) | (refine cond_t ?hc ?_; case hc => first | rfl | assumption | (rw [decide_eq_true_eq]; omega) | (rw [decide_eq_false_iff_not]; omega) | (simp <;> omega)) | (refine cond_f ?hc ?_; case hc => first | rfl | assumption | (rw [decide_eq_true_eq]; omega) | (rw [decide_eq_false_iff_not]; omega) | (simp <;> omega)) | refine same_i ?_)
          exact trivial
    · exact h.elim
end Go.Sym.N

namespace Go.Sym.N
open Go Go.Proofs.Try Go.Sym.Num
set_option maxRecDepth 100000
attribute [local irreducible] beV beB md Num32.lim Num32.val Num32.mlim

/-- the orders of the drawn regions of halberdref9.get -/
def pl64 : List (Nat × List PStep) := [(5, [⟨0, []⟩, ⟨1, []⟩, ⟨2, []⟩, ⟨3, [0, 1, 2]⟩, ⟨4, [0, 1, 2]⟩, ⟨5, [0, 1, 2]⟩, ⟨6, [0, 1, 2]⟩, ⟨7, [0, 1, 2]⟩, ⟨8, [0, 1, 2]⟩, ⟨9, [0, 1, 2, 3, 4, 5, 6, 7, 8]⟩, ⟨10, [0, 1, 2, 3, 4, 5, 6, 7, 8, 9]⟩, ⟨11, [0, 1, 2, 3, 4, 5, 6, 7, 8]⟩, ⟨12, [0, 1, 2, 3, 4, 5, 6, 7, 8]⟩, ⟨13, [0, 1, 2]⟩, ⟨14, []⟩, ⟨15, []⟩])]
/-- the orders of the drawn regions of halberdref9.less -/
def pl66 : List (Nat × List PStep) := [(4, [⟨0, []⟩, ⟨1, []⟩, ⟨2, []⟩, ⟨3, [0, 1, 2]⟩, ⟨4, [0, 1, 2]⟩, ⟨5, [0, 1, 2]⟩, ⟨6, []⟩]), (5, [⟨0, []⟩, ⟨1, []⟩, ⟨2, []⟩, ⟨3, [0, 1, 2]⟩, ⟨4, [0, 1, 2]⟩, ⟨5, [0, 1, 2]⟩, ⟨6, []⟩, ⟨7, []⟩])]
/-- the orders of the drawn regions of halberdref9.modulus -/
def pl67 : List (Nat × List PStep) := []
/-- the orders of the drawn regions of halberdref9.Number -/
def pl43 : List (Nat × List PStep) := [(4, [⟨0, []⟩, ⟨1, [0]⟩, ⟨2, [0, 1]⟩, ⟨3, [0, 1]⟩, ⟨4, [0]⟩, ⟨5, []⟩, ⟨6, []⟩])]
/-- the orders of the drawn regions of halberdlaw9.word -/
def pl32 : List (Nat × List PStep) := []
/-- the orders of the drawn regions of halberdlaw9.reduced -/
def pl31 : List (Nat × List PStep) := []
/-- the orders of the drawn regions of halberdlaw0.Num -/
def pl15 : List (Nat × List PStep) := []

def getS : Spec := fun args hp K => match args, hp with
  | [.str s], [] => Pre (s.length = 32) (K (.arr32 8 (Num32.lim (beV s))) [])
  | _, _ => False
def rlessS : Spec := fun args hp K => match args, hp with
  | [.arr32 8 x, .arr32 8 y], [] => Pre (x.length = 8 ∧ y.length = 8) (K (.bool (decide (Num32.val x < Num32.val y))) [])
  | _, _ => False
def rmodS : Spec := fun args hp K => match args, hp with
  | [.int w], [] => K (.arr32 8 (Num32.mlim w)) []
  | _, _ => False
def numberS : Spec := fun args hp K => match args, hp with
  | [.int w, .str s], [] => CondVC (decide ((0 ≤ w ∧ w ≤ 2) ∧ s.length = 32)) (K (.tup [.arr32 8 (Num32.lim (beV s)), .bool (decide (beV s < md w))]) []) (K (.tup [.arr32 8 [0, 0, 0, 0, 0, 0, 0, 0], .bool false]) [])
  | _, _ => False
def numS : Spec := fun args hp K => match args, hp with
  | [.int a], [] => K (.int a) []
  | _, _ => False

theorem num_s : SoundC prog 15 numS := by
  refine sound_f tys_ok fnok_nil rfl func15 rfl call15 (D := pl15) ?_ ?_
  · intro args hp K h
    unfold numS at h
    split at h
    · exact Nat.le_of_ble_eq_true rfl
    · exact h.elim
  · intro args hp K h
    unfold numS at h
    split at h
    · repeat ((conv => whnf); first | (refine pre_i ?hc ?_; case hc => first | exact (show planOK _ _ _ = true from by kernel_rfl) | assumption | omega | (unfold fits; omega) | decide +kernel | (constructor <;> first | assumption | omega) | (simp only [off_addO, tysz, off, offE] <;> omega) | (simp only [lens, off_addO, off, offE] <;> omega) | (simp only [off_addO, tysz, lens, off, offE] <;> omega) | (constructor <;> first | assumption | (simp only [off_addO, tysz, lens, off, offE] <;> omega))) | (refine cond_t ?hc ?_; case hc => first | rfl | assumption | (rw [decide_eq_true_eq]; omega) | (rw [decide_eq_false_iff_not]; omega) | (simp <;> omega)) | (refine cond_f ?hc ?_; case hc => first | rfl | assumption | (rw [decide_eq_true_eq]; omega) | (rw [decide_eq_false_iff_not]; omega) | (simp <;> omega)) | refine same_i ?_)
      conv => whnf
      refine final_h [] h ?_
      repeat ((conv => whnf); first | (refine pre_i ?hc ?_; case hc => first | exact (show planOK _ _ _ = true from by kernel_rfl) | assumption | omega | (unfold fits; omega) | decide +kernel | (constructor <;> first | assumption | omega) | (simp only [off_addO, tysz, off, offE] <;> omega) | (simp only [lens, off_addO, off, offE] <;> omega) | (simp only [off_addO, tysz, lens, off, offE] <;> omega) | (constructor <;> first | assumption | (simp only [off_addO, tysz, lens, off, offE] <;> omega))) | (refine cond_t ?hc ?_; case hc => first | rfl | assumption | (rw [decide_eq_true_eq]; omega) | (rw [decide_eq_false_iff_not]; omega) | (simp <;> omega)) | (refine cond_f ?hc ?_; case hc => first | rfl | assumption | (rw [decide_eq_true_eq]; omega) | (rw [decide_eq_false_iff_not]; omega) | (simp <;> omega)) | refine same_i ?_)
      exact trivial
    · exact h.elim
theorem get_s : SoundC prog 64 getS := by
  refine sound_f tys_ok fnok_nil rfl func64 rfl call64 (D := pl64) ?_ ?_
  · intro args hp K h
    unfold getS at h
    split at h
    · exact Nat.le_of_ble_eq_true rfl
    · exact h.elim
  · intro args hp K h
    unfold getS at h
    split at h
    · rename_i s
      obtain ⟨hs, h⟩ := pre_e h
      repeat ((conv => whnf); first | (refine pre_i ?hc ?_; case hc => first | exact (show planOK _ _ _ = true from by kernel_rfl) | assumption | omega | (unfold fits; omega) | decide +kernel | (constructor <;> first | assumption | omega) | (simp only [off_addO, tysz, off, offE] <;> omega) | (simp only [lens, off_addO, off, offE] <;> omega) | (simp only [off_addO, tysz, lens, off, offE] <;> omega) | (constructor <;> first | assumption | (simp only [off_addO, tysz, lens, off, offE] <;> omega))) | (refine cond_t ?hc ?_; case hc => first | rfl | assumption | (rw [decide_eq_true_eq]; omega) | (rw [decide_eq_false_iff_not]; omega) | (simp <;> omega)) | (refine cond_f ?hc ?_; case hc => first | rfl | assumption | (rw [decide_eq_true_eq]; omega) | (rw [decide_eq_false_iff_not]; omega) | (simp <;> omega)) | refine same_i ?_)
      conv => whnf
      refine loop_h (Ix 32) (fun q => ⟨[(0, .str s), (2, .ptr 0 0 0 []), (3, .ptr 1 0 0 []), (4, .int q.i)], [.mk 72 [.arr32 8 [0, 0, 0, 0, 0, 0, 0, 0]], .mk 72 [.arr32 8 (Num32.getSt s q.i)]]⟩)
        (fun q => 32 - q.i) ⟨0, Nat.zero_le _⟩ [0, 1] ?_ ?_
      · repeat ((conv => whnf); first | (refine pre_i ?hc ?_; case hc => first | exact (show planOK _ _ _ = true from by kernel_rfl) | assumption | omega | (unfold fits; omega) | decide +kernel | (constructor <;> first | assumption | omega) | (simp only [off_addO, tysz, off, offE] <;> omega) | (simp only [lens, off_addO, off, offE] <;> omega) | (simp only [off_addO, tysz, lens, off, offE] <;> omega) | (constructor <;> first | assumption | (simp only [off_addO, tysz, lens, off, offE] <;> omega))) | (refine cond_t ?hc ?_; case hc => first | rfl | assumption | (rw [decide_eq_true_eq]; omega) | (rw [decide_eq_false_iff_not]; omega) | (simp <;> omega)) | (refine cond_f ?hc ?_; case hc => first | rfl | assumption | (rw [decide_eq_true_eq]; omega) | (rw [decide_eq_false_iff_not]; omega) | (simp <;> omega)) | refine same_i ?_)
        exact trivial
      · intro q
        have hi := q.hi
        have hl := Num32.getSt_len s q.i
        by_cases h4 : q.i < 32
        · have hq0 : 0 ≤ (q.i : Int).tdiv 4 := Int.tdiv_nonneg (by omega) (by omega)
          have hq1 : (q.i : Int).tdiv 4 ≤ 7 := by rw [Int.tdiv_eq_ediv_of_nonneg (by omega)]; omega
          have hI : ((q.i : Int)).toNat = q.i := Int.toNat_natCast _
          repeat ((conv => whnf); first | (refine pre_i ?hc ?_; case hc => first | exact (show planOK _ _ _ = true from by kernel_rfl) | assumption | omega | (unfold fits; omega) | decide +kernel | (constructor <;> first | assumption | omega) | (simp only [off_addO, tysz, off, offE] <;> omega) | (simp only [lens, off_addO, off, offE] <;> omega) | (simp only [off_addO, tysz, lens, off, offE] <;> omega) | (constructor <;> first | assumption | (simp only [off_addO, tysz, lens, off, offE] <;> omega))) | (refine cond_t ?hc ?_; case hc => first | rfl | assumption | (rw [decide_eq_true_eq]; omega) | (rw [decide_eq_false_iff_not]; omega) | (simp <;> omega)) | (refine cond_f ?hc ?_; case hc => first | rfl | assumption | (rw [decide_eq_true_eq]; omega) | (rw [decide_eq_false_iff_not]; omega) | (simp <;> omega)) | refine same_i ?_)
          conv => whnf
          refine ⟨⟨q.i + 1, h4⟩, [0, 1], ?_, ?_⟩
          · show 32 - (q.i + 1) < 32 - q.i
            omega
          · repeat ((conv => whnf); first | (refine pre_i ?hc ?_; case hc => first | exact (show planOK _ _ _ = true from by kernel_rfl) | assumption | omega | (unfold fits; omega) | decide +kernel | (constructor <;> first | assumption | omega) | (simp only [off_addO, tysz, off, offE] <;> omega) | (simp only [lens, off_addO, off, offE] <;> omega) | (simp only [off_addO, tysz, lens, off, offE] <;> omega) | (constructor <;> first | assumption | (simp only [off_addO, tysz, lens, off, offE] <;> omega))) | (refine cond_t ?hc ?_; case hc => first | rfl | assumption | (rw [decide_eq_true_eq]; omega) | (rw [decide_eq_false_iff_not]; omega) | (simp <;> omega)) | (refine cond_f ?hc ?_; case hc => first | rfl | assumption | (rw [decide_eq_true_eq]; omega) | (rw [decide_eq_false_iff_not]; omega) | (simp <;> omega)) | refine same_i ?_)
            exact trivial
        · have e4 : q.i = 32 := by omega
          repeat ((conv => whnf); first | (refine pre_i ?hc ?_; case hc => first | exact (show planOK _ _ _ = true from by kernel_rfl) | assumption | omega | (unfold fits; omega) | decide +kernel | (constructor <;> first | assumption | omega) | (simp only [off_addO, tysz, off, offE] <;> omega) | (simp only [lens, off_addO, off, offE] <;> omega) | (simp only [off_addO, tysz, lens, off, offE] <;> omega) | (constructor <;> first | assumption | (simp only [off_addO, tysz, lens, off, offE] <;> omega))) | (refine cond_t ?hc ?_; case hc => first | rfl | assumption | (rw [decide_eq_true_eq]; omega) | (rw [decide_eq_false_iff_not]; omega) | (simp <;> omega)) | (refine cond_f ?hc ?_; case hc => first | rfl | assumption | (rw [decide_eq_true_eq]; omega) | (rw [decide_eq_false_iff_not]; omega) | (simp <;> omega)) | refine same_i ?_)
          conv => whnf
          rw [e4, Num32.get_val hs]
          refine final_h (hp' := []) [] h ?_
          repeat ((conv => whnf); first | (refine pre_i ?hc ?_; case hc => first | exact (show planOK _ _ _ = true from by kernel_rfl) | assumption | omega | (unfold fits; omega) | decide +kernel | (constructor <;> first | assumption | omega) | (simp only [off_addO, tysz, off, offE] <;> omega) | (simp only [lens, off_addO, off, offE] <;> omega) | (simp only [off_addO, tysz, lens, off, offE] <;> omega) | (constructor <;> first | assumption | (simp only [off_addO, tysz, lens, off, offE] <;> omega))) | (refine cond_t ?hc ?_; case hc => first | rfl | assumption | (rw [decide_eq_true_eq]; omega) | (rw [decide_eq_false_iff_not]; omega) | (simp <;> omega)) | (refine cond_f ?hc ?_; case hc => first | rfl | assumption | (rw [decide_eq_true_eq]; omega) | (rw [decide_eq_false_iff_not]; omega) | (simp <;> omega)) | refine same_i ?_)
          exact trivial
    · exact h.elim
structure Lx (x y : List UInt32) where
  j : Nat
  hj : j ≤ 8
  eq : Num32.ltTop x y 8 = Num32.ltTop x y j
theorem rless_s : SoundC prog 66 rlessS := by
  refine sound_f tys_ok fnok_nil rfl func66 rfl call66 (D := pl66) ?_ ?_
  · intro args hp K h
    unfold rlessS at h
    split at h
    · exact Nat.le_of_ble_eq_true rfl
    · exact h.elim
  · intro args hp K h
    unfold rlessS at h
    split at h
    · rename_i x y
      obtain ⟨⟨hx, hy⟩, h⟩ := pre_e h
      rw [← Num32.vt_val hx, ← Num32.vt_val hy, ← Num32.ltTop_eq] at h
      repeat ((conv => whnf); first | (refine pre_i ?hc ?_; case hc => first | exact (show planOK _ _ _ = true from by kernel_rfl) | assumption | omega | (unfold fits; omega) | decide +kernel | (constructor <;> first | assumption | omega) | (simp only [off_addO, tysz, off, offE] <;> omega) | (simp only [lens, off_addO, off, offE] <;> omega) | (simp only [off_addO, tysz, lens, off, offE] <;> omega) | (constructor <;> first | assumption | (simp only [off_addO, tysz, lens, off, offE] <;> omega))) | (refine cond_t ?hc ?_; case hc => first | rfl | assumption | (rw [decide_eq_true_eq]; omega) | (rw [decide_eq_false_iff_not]; omega) | (simp <;> omega)) | (refine cond_f ?hc ?_; case hc => first | rfl | assumption | (rw [decide_eq_true_eq]; omega) | (rw [decide_eq_false_iff_not]; omega) | (simp <;> omega)) | refine same_i ?_)
      conv => whnf
      refine loop_h (Lx x y) (fun q => ⟨[(2, .ptr 0 0 0 []), (3, .ptr 1 0 0 []), (5, .int ((q.j : Int) - 1))], [.mk 72 [.arr32 8 x], .mk 72 [.arr32 8 y]]⟩)
        (fun q => q.j) ⟨8, Nat.le_refl _, rfl⟩ [0, 1] ?_ ?_
      · repeat ((conv => whnf); first | (refine pre_i ?hc ?_; case hc => first | exact (show planOK _ _ _ = true from by kernel_rfl) | assumption | omega | (unfold fits; omega) | decide +kernel | (constructor <;> first | assumption | omega) | (simp only [off_addO, tysz, off, offE] <;> omega) | (simp only [lens, off_addO, off, offE] <;> omega) | (simp only [off_addO, tysz, lens, off, offE] <;> omega) | (constructor <;> first | assumption | (simp only [off_addO, tysz, lens, off, offE] <;> omega))) | (refine cond_t ?hc ?_; case hc => first | rfl | assumption | (rw [decide_eq_true_eq]; omega) | (rw [decide_eq_false_iff_not]; omega) | (simp <;> omega)) | (refine cond_f ?hc ?_; case hc => first | rfl | assumption | (rw [decide_eq_true_eq]; omega) | (rw [decide_eq_false_iff_not]; omega) | (simp <;> omega)) | refine same_i ?_)
        exact trivial
      · intro q
        have hj := q.hj
        have he := q.eq
        by_cases h0 : q.j = 0
        · rw [h0] at he
          rw [he] at h
          repeat ((conv => whnf); first | (refine pre_i ?hc ?_; case hc => first | exact (show planOK _ _ _ = true from by kernel_rfl) | assumption | omega | (unfold fits; omega) | decide +kernel | (constructor <;> first | assumption | omega) | (simp only [off_addO, tysz, off, offE] <;> omega) | (simp only [lens, off_addO, off, offE] <;> omega) | (simp only [off_addO, tysz, lens, off, offE] <;> omega) | (constructor <;> first | assumption | (simp only [off_addO, tysz, lens, off, offE] <;> omega))) | (refine cond_t ?hc ?_; case hc => first | rfl | assumption | (rw [decide_eq_true_eq]; omega) | (rw [decide_eq_false_iff_not]; omega) | (simp <;> omega)) | (refine cond_f ?hc ?_; case hc => first | rfl | assumption | (rw [decide_eq_true_eq]; omega) | (rw [decide_eq_false_iff_not]; omega) | (simp <;> omega)) | refine same_i ?_)
          conv => whnf
          refine final_h (hp' := []) [] h ?_
          repeat ((conv => whnf); first | (refine pre_i ?hc ?_; case hc => first | exact (show planOK _ _ _ = true from by kernel_rfl) | assumption | omega | (unfold fits; omega) | decide +kernel | (constructor <;> first | assumption | omega) | (simp only [off_addO, tysz, off, offE] <;> omega) | (simp only [lens, off_addO, off, offE] <;> omega) | (simp only [off_addO, tysz, lens, off, offE] <;> omega) | (constructor <;> first | assumption | (simp only [off_addO, tysz, lens, off, offE] <;> omega))) | (refine cond_t ?hc ?_; case hc => first | rfl | assumption | (rw [decide_eq_true_eq]; omega) | (rw [decide_eq_false_iff_not]; omega) | (simp <;> omega)) | (refine cond_f ?hc ?_; case hc => first | rfl | assumption | (rw [decide_eq_true_eq]; omega) | (rw [decide_eq_false_iff_not]; omega) | (simp <;> omega)) | refine same_i ?_)
          exact trivial
        · obtain ⟨j, hjj⟩ : ∃ j, q.j = j + 1 := ⟨q.j - 1, by omega⟩
          have e1 : ((q.j : Int) - 1) = (j : Int) := by omega
          have e2 : ((j : Int)).toNat = j := Int.toNat_natCast _
          rw [hjj] at he
          rw [e1]
          by_cases hne : x.getD j 0 = y.getD j 0
          · have hd : decide (x.getD (off (addO [] (j : Int).toNat ty70.sz)) 0 = y.getD (off (addO [] (j : Int).toNat ty70.sz)) 0) = true := decide_eq_true hne
            repeat ((conv => whnf); first | (refine pre_i ?hc ?_; case hc => first | exact (show planOK _ _ _ = true from by kernel_rfl) | assumption | omega | (unfold fits; omega) | decide +kernel | (constructor <;> first | assumption | omega) | (simp only [off_addO, tysz, off, offE] <;> omega) | (simp only [lens, off_addO, off, offE] <;> omega) | (simp only [off_addO, tysz, lens, off, offE] <;> omega) | (constructor <;> first | assumption | (simp only [off_addO, tysz, lens, off, offE] <;> omega))) | (refine cond_t ?hc ?_; case hc => first | rfl | assumption | (rw [decide_eq_true_eq]; omega) | (rw [decide_eq_false_iff_not]; omega) | (simp <;> omega) | exact hd | (rw [hd]; rfl)) | (refine cond_f ?hc ?_; case hc => first | rfl | assumption | (rw [decide_eq_true_eq]; omega) | (rw [decide_eq_false_iff_not]; omega) | (simp <;> omega) | exact hd | (rw [hd]; rfl)) | refine same_i ?_)
            conv => whnf
            refine ⟨⟨j, by omega, by rw [he]; simp only [Num32.ltTop]; rw [if_pos hne]⟩, [0, 1], ?_, ?_⟩
            · show j < q.j
              omega
            · repeat ((conv => whnf); first | (refine pre_i ?hc ?_; case hc => first | exact (show planOK _ _ _ = true from by kernel_rfl) | assumption | omega | (unfold fits; omega) | decide +kernel | (constructor <;> first | assumption | omega) | (simp only [off_addO, tysz, off, offE] <;> omega) | (simp only [lens, off_addO, off, offE] <;> omega) | (simp only [off_addO, tysz, lens, off, offE] <;> omega) | (constructor <;> first | assumption | (simp only [off_addO, tysz, lens, off, offE] <;> omega))) | (refine cond_t ?hc ?_; case hc => first | rfl | assumption | (rw [decide_eq_true_eq]; omega) | (rw [decide_eq_false_iff_not]; omega) | (simp <;> omega)) | (refine cond_f ?hc ?_; case hc => first | rfl | assumption | (rw [decide_eq_true_eq]; omega) | (rw [decide_eq_false_iff_not]; omega) | (simp <;> omega)) | refine same_i ?_)
              exact trivial
          · have hd : decide (x.getD (off (addO [] (j : Int).toNat ty70.sz)) 0 = y.getD (off (addO [] (j : Int).toNat ty70.sz)) 0) = false := decide_eq_false hne
            have hv : Num32.ltTop x y 8 = decide (x.getD j 0 < y.getD j 0) := by rw [he]; simp only [Num32.ltTop]; rw [if_neg hne]
            rw [hv] at h
            repeat ((conv => whnf); first | (refine pre_i ?hc ?_; case hc => first | exact (show planOK _ _ _ = true from by kernel_rfl) | assumption | omega | (unfold fits; omega) | decide +kernel | (constructor <;> first | assumption | omega) | (simp only [off_addO, tysz, off, offE] <;> omega) | (simp only [lens, off_addO, off, offE] <;> omega) | (simp only [off_addO, tysz, lens, off, offE] <;> omega) | (constructor <;> first | assumption | (simp only [off_addO, tysz, lens, off, offE] <;> omega))) | (refine cond_t ?hc ?_; case hc => first | rfl | assumption | (rw [decide_eq_true_eq]; omega) | (rw [decide_eq_false_iff_not]; omega) | (simp <;> omega) | exact hd | (rw [hd]; rfl)) | (refine cond_f ?hc ?_; case hc => first | rfl | assumption | (rw [decide_eq_true_eq]; omega) | (rw [decide_eq_false_iff_not]; omega) | (simp <;> omega) | exact hd | (rw [hd]; rfl)) | refine same_i ?_)
            conv => whnf
            refine final_h (hp' := []) [] h ?_
            repeat ((conv => whnf); first | (refine pre_i ?hc ?_; case hc => first | exact (show planOK _ _ _ = true from by kernel_rfl) | assumption | omega | (unfold fits; omega) | decide +kernel | (constructor <;> first | assumption | omega) | (simp only [off_addO, tysz, off, offE] <;> omega) | (simp only [lens, off_addO, off, offE] <;> omega) | (simp only [off_addO, tysz, lens, off, offE] <;> omega) | (constructor <;> first | assumption | (simp only [off_addO, tysz, lens, off, offE] <;> omega))) | (refine cond_t ?hc ?_; case hc => first | rfl | assumption | (rw [decide_eq_true_eq]; omega) | (rw [decide_eq_false_iff_not]; omega) | (simp <;> omega)) | (refine cond_f ?hc ?_; case hc => first | rfl | assumption | (rw [decide_eq_true_eq]; omega) | (rw [decide_eq_false_iff_not]; omega) | (simp <;> omega)) | refine same_i ?_)
            exact trivial
    · exact h.elim
theorem rmod_s : SoundC prog 67 rmodS := by
  refine sound_f tys_ok fnok_nil rfl func67 rfl call67 (D := pl67) ?_ ?_
  · intro args hp K h
    unfold rmodS at h
    split at h
    · exact Nat.le_of_ble_eq_true rfl
    · exact h.elim
  · intro args hp K h
    unfold rmodS at h
    split at h
    · rename_i w
      by_cases h0 : w = 0
      · have e : Num32.mlim w = Num32.mlim 0 := by rw [h0]
        unfold Num32.mlim at e
        repeat ((conv => whnf); first | (refine pre_i ?hc ?_; case hc => first | exact (show planOK _ _ _ = true from by kernel_rfl) | assumption | omega | (unfold fits; omega) | decide +kernel | (constructor <;> first | assumption | omega) | (simp only [off_addO, tysz, off, offE] <;> omega) | (simp only [lens, off_addO, off, offE] <;> omega) | (simp only [off_addO, tysz, lens, off, offE] <;> omega) | (constructor <;> first | assumption | (simp only [off_addO, tysz, lens, off, offE] <;> omega))) | (refine cond_t ?hc ?_; case hc => first | rfl | assumption | (rw [decide_eq_true_eq]; omega) | (rw [decide_eq_false_iff_not]; omega) | (simp <;> omega)) | (refine cond_f ?hc ?_; case hc => first | rfl | assumption | (rw [decide_eq_true_eq]; omega) | (rw [decide_eq_false_iff_not]; omega) | (simp <;> omega)) | refine same_i ?_)
        conv => whnf
        refine final_h (hp' := []) [] h ?_
        conv => whnf
        refine same_q (by subst h0; unfold Num32.mlim; rfl) ?_
        exact trivial
      · by_cases h1 : w = 1
        · repeat ((conv => whnf); first | (refine pre_i ?hc ?_; case hc => first | exact (show planOK _ _ _ = true from by kernel_rfl) | assumption | omega | (unfold fits; omega) | decide +kernel | (constructor <;> first | assumption | omega) | (simp only [off_addO, tysz, off, offE] <;> omega) | (simp only [lens, off_addO, off, offE] <;> omega) | (simp only [off_addO, tysz, lens, off, offE] <;> omega) | (constructor <;> first | assumption | (simp only [off_addO, tysz, lens, off, offE] <;> omega))) | (refine cond_t ?hc ?_; case hc => first | rfl | assumption | (rw [decide_eq_true_eq]; omega) | (rw [decide_eq_false_iff_not]; omega) | (simp <;> omega)) | (refine cond_f ?hc ?_; case hc => first | rfl | assumption | (rw [decide_eq_true_eq]; omega) | (rw [decide_eq_false_iff_not]; omega) | (simp <;> omega)) | refine same_i ?_)
          conv => whnf
          refine final_h (hp' := []) [] h ?_
          conv => whnf
          refine same_q (by subst h1; unfold Num32.mlim; rfl) ?_
          exact trivial
        · repeat ((conv => whnf); first | (refine pre_i ?hc ?_; case hc => first | exact (show planOK _ _ _ = true from by kernel_rfl) | assumption | omega | (unfold fits; omega) | decide +kernel | (constructor <;> first | assumption | omega) | (simp only [off_addO, tysz, off, offE] <;> omega) | (simp only [lens, off_addO, off, offE] <;> omega) | (simp only [off_addO, tysz, lens, off, offE] <;> omega) | (constructor <;> first | assumption | (simp only [off_addO, tysz, lens, off, offE] <;> omega))) | (refine cond_t ?hc ?_; case hc => first | rfl | assumption | (rw [decide_eq_true_eq]; omega) | (rw [decide_eq_false_iff_not]; omega) | (simp <;> omega)) | (refine cond_f ?hc ?_; case hc => first | rfl | assumption | (rw [decide_eq_true_eq]; omega) | (rw [decide_eq_false_iff_not]; omega) | (simp <;> omega)) | refine same_i ?_)
          conv => whnf
          refine final_h (hp' := []) [] h ?_
          conv => whnf
          refine same_q (by unfold Num32.mlim; rw [if_neg h0, if_neg h1]; rfl) ?_
          exact trivial
    · exact h.elim
theorem number_s : SoundC prog 43 numberS := by
  refine sound_f tys_ok (fnok_cons get_s (fnok_cons rless_s (fnok_cons rmod_s fnok_nil))) rfl func43 rfl call43 (D := pl43) ?_ ?_
  · intro args hp K h
    unfold numberS at h
    split at h
    · exact Nat.le_of_ble_eq_true rfl
    · exact h.elim
  · intro args hp K h
    unfold numberS at h
    split at h
    · rename_i w s
      obtain ⟨ht, hf⟩ := cond_e h
      by_cases hw : 0 ≤ w ∧ w ≤ 2
      · by_cases hs : s.length = 32
        · have hv := beV_lt 32 s hs
          have e1 : Num32.val (Num32.lim (beV s)) = beV s := Num32.val_lim hv
          have e2 := Num32.mlim_val hw
          have p1 : (Num32.lim (beV s)).length = 8 ∧ (Num32.mlim w).length = 8 := ⟨Num32.lim_len _, Num32.mlim_len _⟩
          repeat ((conv => whnf); first | (refine pre_i ?hc ?_; case hc => first | exact (show planOK _ _ _ = true from by kernel_rfl) | assumption | omega | (unfold fits; omega) | decide +kernel | (constructor <;> first | assumption | omega) | (simp only [off_addO, tysz, off, offE] <;> omega) | (simp only [lens, off_addO, off, offE] <;> omega) | (simp only [off_addO, tysz, lens, off, offE] <;> omega) | (constructor <;> first | assumption | (simp only [off_addO, tysz, lens, off, offE] <;> omega))) | (refine cond_t ?hc ?_; case hc => first | rfl | assumption | (rw [decide_eq_true_eq]; omega) | (rw [decide_eq_false_iff_not]; omega) | (simp <;> omega)) | (refine cond_f ?hc ?_; case hc => first | rfl | assumption | (rw [decide_eq_true_eq]; omega) | (rw [decide_eq_false_iff_not]; omega) | (simp <;> omega)) | refine same_i ?_)
          conv => whnf
          rw [e1, e2]
          refine final_h (hp' := []) [] (ht (by rw [decide_eq_true_eq]; exact ⟨hw, hs⟩)) ?_
          repeat ((conv => whnf); first | (refine pre_i ?hc ?_; case hc => first | exact (show planOK _ _ _ = true from by kernel_rfl) | assumption | omega | (unfold fits; omega) | decide +kernel | (constructor <;> first | assumption | omega) | (simp only [off_addO, tysz, off, offE] <;> omega) | (simp only [lens, off_addO, off, offE] <;> omega) | (simp only [off_addO, tysz, lens, off, offE] <;> omega) | (constructor <;> first | assumption | (simp only [off_addO, tysz, lens, off, offE] <;> omega))) | (refine cond_t ?hc ?_; case hc => first | rfl | assumption | (rw [decide_eq_true_eq]; omega) | (rw [decide_eq_false_iff_not]; omega) | (simp <;> omega)) | (refine cond_f ?hc ?_; case hc => first | rfl | assumption | (rw [decide_eq_true_eq]; omega) | (rw [decide_eq_false_iff_not]; omega) | (simp <;> omega)) | refine same_i ?_)
          exact trivial
        · repeat ((conv => whnf); first | (refine pre_i ?hc ?_; case hc => first | exact (show planOK _ _ _ = true from by kernel_rfl) | assumption | omega | (unfold fits; omega) | decide +kernel | (constructor <;> first | assumption | omega) | (simp only [off_addO, tysz, off, offE] <;> omega) | (simp only [lens, off_addO, off, offE] <;> omega) | (simp only [off_addO, tysz, lens, off, offE] <;> omega) | (constructor <;> first | assumption | (simp only [off_addO, tysz, lens, off, offE] <;> omega))) | (refine cond_t ?hc ?_; case hc => first | rfl | assumption | (rw [decide_eq_true_eq]; omega) | (rw [decide_eq_false_iff_not]; omega) | (simp <;> omega)) | (refine cond_f ?hc ?_; case hc => first | rfl | assumption | (rw [decide_eq_true_eq]; omega) | (rw [decide_eq_false_iff_not]; omega) | (simp <;> omega)) | refine same_i ?_)
          conv => whnf
          refine final_h (hp' := []) [] (hf (by rw [decide_eq_false_iff_not]; exact fun hh => hs hh.2)) ?_
          repeat ((conv => whnf); first | (refine pre_i ?hc ?_; case hc => first | exact (show planOK _ _ _ = true from by kernel_rfl) | assumption | omega | (unfold fits; omega) | decide +kernel | (constructor <;> first | assumption | omega) | (simp only [off_addO, tysz, off, offE] <;> omega) | (simp only [lens, off_addO, off, offE] <;> omega) | (simp only [off_addO, tysz, lens, off, offE] <;> omega) | (constructor <;> first | assumption | (simp only [off_addO, tysz, lens, off, offE] <;> omega))) | (refine cond_t ?hc ?_; case hc => first | rfl | assumption | (rw [decide_eq_true_eq]; omega) | (rw [decide_eq_false_iff_not]; omega) | (simp <;> omega)) | (refine cond_f ?hc ?_; case hc => first | rfl | assumption | (rw [decide_eq_true_eq]; omega) | (rw [decide_eq_false_iff_not]; omega) | (simp <;> omega)) | refine same_i ?_)
          exact trivial
      · have hf := hf (by rw [decide_eq_false_iff_not]; exact fun hh => hw hh.1)
        by_cases h0 : w < 0
        · repeat ((conv => whnf); first | (refine pre_i ?hc ?_; case hc => first | exact (show planOK _ _ _ = true from by kernel_rfl) | assumption | omega | (unfold fits; omega) | decide +kernel | (constructor <;> first | assumption | omega) | (simp only [off_addO, tysz, off, offE] <;> omega) | (simp only [lens, off_addO, off, offE] <;> omega) | (simp only [off_addO, tysz, lens, off, offE] <;> omega) | (constructor <;> first | assumption | (simp only [off_addO, tysz, lens, off, offE] <;> omega))) | (refine cond_t ?hc ?_; case hc => first | rfl | assumption | (rw [decide_eq_true_eq]; omega) | (rw [decide_eq_false_iff_not]; omega) | (simp <;> omega)) | (refine cond_f ?hc ?_; case hc => first | rfl | assumption | (rw [decide_eq_true_eq]; omega) | (rw [decide_eq_false_iff_not]; omega) | (simp <;> omega)) | refine same_i ?_)
          conv => whnf
          refine final_h (hp' := []) [] hf ?_
          repeat ((conv => whnf); first | (refine pre_i ?hc ?_; case hc => first | exact (show planOK _ _ _ = true from by kernel_rfl) | assumption | omega | (unfold fits; omega) | decide +kernel | (constructor <;> first | assumption | omega) | (simp only [off_addO, tysz, off, offE] <;> omega) | (simp only [lens, off_addO, off, offE] <;> omega) | (simp only [off_addO, tysz, lens, off, offE] <;> omega) | (constructor <;> first | assumption | (simp only [off_addO, tysz, lens, off, offE] <;> omega))) | (refine cond_t ?hc ?_; case hc => first | rfl | assumption | (rw [decide_eq_true_eq]; omega) | (rw [decide_eq_false_iff_not]; omega) | (simp <;> omega)) | (refine cond_f ?hc ?_; case hc => first | rfl | assumption | (rw [decide_eq_true_eq]; omega) | (rw [decide_eq_false_iff_not]; omega) | (simp <;> omega)) | refine same_i ?_)
          exact trivial
        · repeat ((conv => whnf); first | (refine pre_i ?hc ?_; case hc => first | exact (show planOK _ _ _ = true from by kernel_rfl) | assumption | omega | (unfold fits; omega) | decide +kernel | (constructor <;> first | assumption | omega) | (simp only [off_addO, tysz, off, offE] <;> omega) | (simp only [lens, off_addO, off, offE] <;> omega) | (simp only [off_addO, tysz, lens, off, offE] <;> omega) | (constructor <;> first | assumption | (simp only [off_addO, tysz, lens, off, offE] <;> omega))) | (refine cond_t ?hc ?_; case hc => first | rfl | assumption | (rw [decide_eq_true_eq]; omega) | (rw [decide_eq_false_iff_not]; omega) | (simp <;> omega)) | (refine cond_f ?hc ?_; case hc => first | rfl | assumption | (rw [decide_eq_true_eq]; omega) | (rw [decide_eq_false_iff_not]; omega) | (simp <;> omega)) | refine same_i ?_)
          conv => whnf
          refine final_h (hp' := []) [] hf ?_
          repeat ((conv => whnf); first | (refine pre_i ?hc ?_; case hc => first | exact (show planOK _ _ _ = true from by kernel_rfl) | assumption | omega | (unfold fits; omega) | decide +kernel | (constructor <;> first | assumption | omega) | (simp only [off_addO, tysz, off, offE] <;> omega) | (simp only [lens, off_addO, off, offE] <;> omega) | (simp only [off_addO, tysz, lens, off, offE] <;> omega) | (constructor <;> first | assumption | (simp only [off_addO, tysz, lens, off, offE] <;> omega))) | (refine cond_t ?hc ?_; case hc => first | rfl | assumption | (rw [decide_eq_true_eq]; omega) | (rw [decide_eq_false_iff_not]; omega) | (simp <;> omega)) | (refine cond_f ?hc ?_; case hc => first | rfl | assumption | (rw [decide_eq_true_eq]; omega) | (rw [decide_eq_false_iff_not]; omega) | (simp <;> omega)) | refine same_i ?_)
          exact trivial
    · exact h.elim
end Go.Sym.N

/-
  Numbers in limbs of 32 bits: sums, differences, Montgomery products: plain laws. No program in sight; no condition beyond each lemma's own.
-/
namespace Go.Sym.Num32
open Go.Sym.Num (B4 md low32 high32 lt64 add_toNat mul_toNat mont mont_of mul_bound riOf mo fill fill_all)

def lo (s : UInt64) : UInt64 := s &&& UInt64.ofNat 4294967295
def hi (s : UInt64) : UInt64 := s >>> UInt64.ofNat (UInt64.ofNat 32).toNat
theorem lo_nat (s : UInt64) : (lo s).toNat = s.toNat % 4294967296 := low32 s
theorem hi_nat (s : UInt64) : (hi s).toNat = s.toNat / 4294967296 := high32 s
theorem up_nat (x : UInt32) : x.toUInt64.toNat = x.toNat := UInt32.toNat_toUInt64 x
theorem down_nat (x : UInt64) : x.toUInt32.toNat = x.toNat % 4294967296 := by
  rw [UInt64.toNat_toUInt32]

/-! ### sums and differences -/
def plusSt (x y : List UInt32) : Nat → List UInt32 × UInt64
  | 0 => (x, 0)
  | i + 1 => ((plusSt x y i).1.set i (lo (((plusSt x y i).1.getD i 0).toUInt64 + (y.getD i 0).toUInt64 + (plusSt x y i).2)).toUInt32, hi (((plusSt x y i).1.getD i 0).toUInt64 + (y.getD i 0).toUInt64 + (plusSt x y i).2))
def minusSt (x y : List UInt32) : Nat → List UInt32 × UInt64
  | 0 => (x, 0)
  | i + 1 => ((minusSt x y i).1.set i (lo (((minusSt x y i).1.getD i 0).toUInt64 - (y.getD i 0).toUInt64 - (minusSt x y i).2)).toUInt32, (((minusSt x y i).1.getD i 0).toUInt64 - (y.getD i 0).toUInt64 - (minusSt x y i).2) >>> UInt64.ofNat (UInt64.ofNat 63).toNat)
theorem plusSt_len {x : List UInt32} (y : List UInt32) (h : x.length = 8) : ∀ i, (plusSt x y i).1.length = 8
  | 0 => h
  | i + 1 => by simp only [plusSt, List.length_set]; exact plusSt_len y h i
theorem minusSt_len {x : List UInt32} (y : List UInt32) (h : x.length = 8) : ∀ i, (minusSt x y i).1.length = 8
  | 0 => h
  | i + 1 => by simp only [minusSt, List.length_set]; exact minusSt_len y h i
theorem plusE (x y : UInt32) {c : UInt64} (h : c.toNat ≤ 1) : (lo (x.toUInt64 + y.toUInt64 + c)).toUInt32.toNat + 4294967296 * (hi (x.toUInt64 + y.toUInt64 + c)).toNat = x.toNat + y.toNat + c.toNat ∧ (hi (x.toUInt64 + y.toUInt64 + c)).toNat ≤ 1 := by
  have hx := lt32 x; have hy := lt32 y
  have e1 := add_toNat (x := x.toUInt64) (y := y.toUInt64) (by rw [up_nat, up_nat]; omega)
  rw [up_nat, up_nat] at e1
  have e2 := add_toNat (x := x.toUInt64 + y.toUInt64) (y := c) (by omega)
  rw [down_nat, lo_nat, hi_nat, e2, e1]
  omega
theorem minusE (x y : UInt32) {c : UInt64} (h : c.toNat ≤ 1) : (lo (x.toUInt64 - y.toUInt64 - c)).toUInt32.toNat + y.toNat + c.toNat = x.toNat + 4294967296 * ((x.toUInt64 - y.toUInt64 - c) >>> UInt64.ofNat (UInt64.ofNat 63).toNat).toNat ∧ ((x.toUInt64 - y.toUInt64 - c) >>> UInt64.ofNat (UInt64.ofNat 63).toNat).toNat ≤ 1 := by
  have hx := lt32 x; have hy := lt32 y
  have e63 : (UInt64.ofNat (UInt64.ofNat 63).toNat).toNat = 63 := by decide
  have h63 : ((x.toUInt64 - y.toUInt64 - c) >>> UInt64.ofNat (UInt64.ofNat 63).toNat).toNat = (x.toUInt64 - y.toUInt64 - c).toNat / 9223372036854775808 := by
    rw [UInt64.toNat_shiftRight, e63]; exact Nat.shiftRight_eq_div_pow _ 63
  have ed : (x.toUInt64 - y.toUInt64 - c).toNat = (18446744073709551616 - c.toNat + (18446744073709551616 - y.toNat + x.toNat) % 18446744073709551616) % 18446744073709551616 := by
    rw [UInt64.toNat_sub, UInt64.toNat_sub, up_nat, up_nat]
  rw [h63, down_nat, lo_nat, ed]
  omega
theorem plusSt_val {x y : List UInt32} (hx : x.length = 8) (hy : y.length = 8) : val (plusSt x y 8).1 + B4 * (plusSt x y 8).2.toNat = val x + val y ∧ (plusSt x y 8).2.toNat ≤ 1 := by
  obtain ⟨a0, a1, a2, a3, a4, a5, a6, a7, rfl⟩ := len8 hx
  obtain ⟨b0, b1, b2, b3, b4, b5, b6, b7, rfl⟩ := len8 hy
  obtain ⟨c0, hc0⟩ : ∃ c : UInt64, c = 0 := ⟨_, rfl⟩
  have k0 : c0.toNat ≤ 1 := by rw [hc0]; decide
  have h0 := plusE a0 b0 k0
  obtain ⟨l0, hl0⟩ : ∃ l, l = (lo (a0.toUInt64 + b0.toUInt64 + c0)).toUInt32 := ⟨_, rfl⟩
  obtain ⟨c1, hc1⟩ : ∃ c, c = hi (a0.toUInt64 + b0.toUInt64 + c0) := ⟨_, rfl⟩
  rw [← hl0, ← hc1] at h0
  have k1 := h0.2
  have h1 := plusE a1 b1 k1
  obtain ⟨l1, hl1⟩ : ∃ l, l = (lo (a1.toUInt64 + b1.toUInt64 + c1)).toUInt32 := ⟨_, rfl⟩
  obtain ⟨c2, hc2⟩ : ∃ c, c = hi (a1.toUInt64 + b1.toUInt64 + c1) := ⟨_, rfl⟩
  rw [← hl1, ← hc2] at h1
  have k2 := h1.2
  have h2 := plusE a2 b2 k2
  obtain ⟨l2, hl2⟩ : ∃ l, l = (lo (a2.toUInt64 + b2.toUInt64 + c2)).toUInt32 := ⟨_, rfl⟩
  obtain ⟨c3, hc3⟩ : ∃ c, c = hi (a2.toUInt64 + b2.toUInt64 + c2) := ⟨_, rfl⟩
  rw [← hl2, ← hc3] at h2
  have k3 := h2.2
  have h3 := plusE a3 b3 k3
  obtain ⟨l3, hl3⟩ : ∃ l, l = (lo (a3.toUInt64 + b3.toUInt64 + c3)).toUInt32 := ⟨_, rfl⟩
  obtain ⟨c4, hc4⟩ : ∃ c, c = hi (a3.toUInt64 + b3.toUInt64 + c3) := ⟨_, rfl⟩
  rw [← hl3, ← hc4] at h3
  have k4 := h3.2
  have h4 := plusE a4 b4 k4
  obtain ⟨l4, hl4⟩ : ∃ l, l = (lo (a4.toUInt64 + b4.toUInt64 + c4)).toUInt32 := ⟨_, rfl⟩
  obtain ⟨c5, hc5⟩ : ∃ c, c = hi (a4.toUInt64 + b4.toUInt64 + c4) := ⟨_, rfl⟩
  rw [← hl4, ← hc5] at h4
  have k5 := h4.2
  have h5 := plusE a5 b5 k5
  obtain ⟨l5, hl5⟩ : ∃ l, l = (lo (a5.toUInt64 + b5.toUInt64 + c5)).toUInt32 := ⟨_, rfl⟩
  obtain ⟨c6, hc6⟩ : ∃ c, c = hi (a5.toUInt64 + b5.toUInt64 + c5) := ⟨_, rfl⟩
  rw [← hl5, ← hc6] at h5
  have k6 := h5.2
  have h6 := plusE a6 b6 k6
  obtain ⟨l6, hl6⟩ : ∃ l, l = (lo (a6.toUInt64 + b6.toUInt64 + c6)).toUInt32 := ⟨_, rfl⟩
  obtain ⟨c7, hc7⟩ : ∃ c, c = hi (a6.toUInt64 + b6.toUInt64 + c6) := ⟨_, rfl⟩
  rw [← hl6, ← hc7] at h6
  have k7 := h6.2
  have h7 := plusE a7 b7 k7
  obtain ⟨l7, hl7⟩ : ∃ l, l = (lo (a7.toUInt64 + b7.toUInt64 + c7)).toUInt32 := ⟨_, rfl⟩
  obtain ⟨c8, hc8⟩ : ∃ c, c = hi (a7.toUInt64 + b7.toUInt64 + c7) := ⟨_, rfl⟩
  rw [← hl7, ← hc8] at h7
  have k8 := h7.2
  have s0 : plusSt [a0, a1, a2, a3, a4, a5, a6, a7] [b0, b1, b2, b3, b4, b5, b6, b7] 0 = ([a0, a1, a2, a3, a4, a5, a6, a7], c0) := by rw [hc0]; rfl
  have s1 : plusSt [a0, a1, a2, a3, a4, a5, a6, a7] [b0, b1, b2, b3, b4, b5, b6, b7] 1 = ([l0, a1, a2, a3, a4, a5, a6, a7], c1) := by rw [hl0, hc1, plusSt, s0]; rfl
  have s2 : plusSt [a0, a1, a2, a3, a4, a5, a6, a7] [b0, b1, b2, b3, b4, b5, b6, b7] 2 = ([l0, l1, a2, a3, a4, a5, a6, a7], c2) := by rw [hl1, hc2, plusSt, s1]; rfl
  have s3 : plusSt [a0, a1, a2, a3, a4, a5, a6, a7] [b0, b1, b2, b3, b4, b5, b6, b7] 3 = ([l0, l1, l2, a3, a4, a5, a6, a7], c3) := by rw [hl2, hc3, plusSt, s2]; rfl
  have s4 : plusSt [a0, a1, a2, a3, a4, a5, a6, a7] [b0, b1, b2, b3, b4, b5, b6, b7] 4 = ([l0, l1, l2, l3, a4, a5, a6, a7], c4) := by rw [hl3, hc4, plusSt, s3]; rfl
  have s5 : plusSt [a0, a1, a2, a3, a4, a5, a6, a7] [b0, b1, b2, b3, b4, b5, b6, b7] 5 = ([l0, l1, l2, l3, l4, a5, a6, a7], c5) := by rw [hl4, hc5, plusSt, s4]; rfl
  have s6 : plusSt [a0, a1, a2, a3, a4, a5, a6, a7] [b0, b1, b2, b3, b4, b5, b6, b7] 6 = ([l0, l1, l2, l3, l4, l5, a6, a7], c6) := by rw [hl5, hc6, plusSt, s5]; rfl
  have s7 : plusSt [a0, a1, a2, a3, a4, a5, a6, a7] [b0, b1, b2, b3, b4, b5, b6, b7] 7 = ([l0, l1, l2, l3, l4, l5, l6, a7], c7) := by rw [hl6, hc7, plusSt, s6]; rfl
  have s8 : plusSt [a0, a1, a2, a3, a4, a5, a6, a7] [b0, b1, b2, b3, b4, b5, b6, b7] 8 = ([l0, l1, l2, l3, l4, l5, l6, l7], c8) := by rw [hl7, hc8, plusSt, s7]; rfl
  rw [s8]
  refine ⟨?_, k8⟩
  dsimp only
  rw [val8, val8, val8]
  have z0 : c0.toNat = 0 := by rw [hc0]; rfl
  unfold B4
  omega
theorem minusSt_val {x y : List UInt32} (hx : x.length = 8) (hy : y.length = 8) : val (minusSt x y 8).1 + val y = val x + B4 * (minusSt x y 8).2.toNat ∧ (minusSt x y 8).2.toNat ≤ 1 := by
  obtain ⟨a0, a1, a2, a3, a4, a5, a6, a7, rfl⟩ := len8 hx
  obtain ⟨b0, b1, b2, b3, b4, b5, b6, b7, rfl⟩ := len8 hy
  obtain ⟨c0, hc0⟩ : ∃ c : UInt64, c = 0 := ⟨_, rfl⟩
  have k0 : c0.toNat ≤ 1 := by rw [hc0]; decide
  have h0 := minusE a0 b0 k0
  obtain ⟨l0, hl0⟩ : ∃ l, l = (lo (a0.toUInt64 - b0.toUInt64 - c0)).toUInt32 := ⟨_, rfl⟩
  obtain ⟨c1, hc1⟩ : ∃ c, c = (a0.toUInt64 - b0.toUInt64 - c0) >>> UInt64.ofNat (UInt64.ofNat 63).toNat := ⟨_, rfl⟩
  rw [← hl0, ← hc1] at h0
  have k1 := h0.2
  have h1 := minusE a1 b1 k1
  obtain ⟨l1, hl1⟩ : ∃ l, l = (lo (a1.toUInt64 - b1.toUInt64 - c1)).toUInt32 := ⟨_, rfl⟩
  obtain ⟨c2, hc2⟩ : ∃ c, c = (a1.toUInt64 - b1.toUInt64 - c1) >>> UInt64.ofNat (UInt64.ofNat 63).toNat := ⟨_, rfl⟩
  rw [← hl1, ← hc2] at h1
  have k2 := h1.2
  have h2 := minusE a2 b2 k2
  obtain ⟨l2, hl2⟩ : ∃ l, l = (lo (a2.toUInt64 - b2.toUInt64 - c2)).toUInt32 := ⟨_, rfl⟩
  obtain ⟨c3, hc3⟩ : ∃ c, c = (a2.toUInt64 - b2.toUInt64 - c2) >>> UInt64.ofNat (UInt64.ofNat 63).toNat := ⟨_, rfl⟩
  rw [← hl2, ← hc3] at h2
  have k3 := h2.2
  have h3 := minusE a3 b3 k3
  obtain ⟨l3, hl3⟩ : ∃ l, l = (lo (a3.toUInt64 - b3.toUInt64 - c3)).toUInt32 := ⟨_, rfl⟩
  obtain ⟨c4, hc4⟩ : ∃ c, c = (a3.toUInt64 - b3.toUInt64 - c3) >>> UInt64.ofNat (UInt64.ofNat 63).toNat := ⟨_, rfl⟩
  rw [← hl3, ← hc4] at h3
  have k4 := h3.2
  have h4 := minusE a4 b4 k4
  obtain ⟨l4, hl4⟩ : ∃ l, l = (lo (a4.toUInt64 - b4.toUInt64 - c4)).toUInt32 := ⟨_, rfl⟩
  obtain ⟨c5, hc5⟩ : ∃ c, c = (a4.toUInt64 - b4.toUInt64 - c4) >>> UInt64.ofNat (UInt64.ofNat 63).toNat := ⟨_, rfl⟩
  rw [← hl4, ← hc5] at h4
  have k5 := h4.2
  have h5 := minusE a5 b5 k5
  obtain ⟨l5, hl5⟩ : ∃ l, l = (lo (a5.toUInt64 - b5.toUInt64 - c5)).toUInt32 := ⟨_, rfl⟩
  obtain ⟨c6, hc6⟩ : ∃ c, c = (a5.toUInt64 - b5.toUInt64 - c5) >>> UInt64.ofNat (UInt64.ofNat 63).toNat := ⟨_, rfl⟩
  rw [← hl5, ← hc6] at h5
  have k6 := h5.2
  have h6 := minusE a6 b6 k6
  obtain ⟨l6, hl6⟩ : ∃ l, l = (lo (a6.toUInt64 - b6.toUInt64 - c6)).toUInt32 := ⟨_, rfl⟩
  obtain ⟨c7, hc7⟩ : ∃ c, c = (a6.toUInt64 - b6.toUInt64 - c6) >>> UInt64.ofNat (UInt64.ofNat 63).toNat := ⟨_, rfl⟩
  rw [← hl6, ← hc7] at h6
  have k7 := h6.2
  have h7 := minusE a7 b7 k7
  obtain ⟨l7, hl7⟩ : ∃ l, l = (lo (a7.toUInt64 - b7.toUInt64 - c7)).toUInt32 := ⟨_, rfl⟩
  obtain ⟨c8, hc8⟩ : ∃ c, c = (a7.toUInt64 - b7.toUInt64 - c7) >>> UInt64.ofNat (UInt64.ofNat 63).toNat := ⟨_, rfl⟩
  rw [← hl7, ← hc8] at h7
  have k8 := h7.2
  have s0 : minusSt [a0, a1, a2, a3, a4, a5, a6, a7] [b0, b1, b2, b3, b4, b5, b6, b7] 0 = ([a0, a1, a2, a3, a4, a5, a6, a7], c0) := by rw [hc0]; rfl
  have s1 : minusSt [a0, a1, a2, a3, a4, a5, a6, a7] [b0, b1, b2, b3, b4, b5, b6, b7] 1 = ([l0, a1, a2, a3, a4, a5, a6, a7], c1) := by rw [hl0, hc1, minusSt, s0]; rfl
  have s2 : minusSt [a0, a1, a2, a3, a4, a5, a6, a7] [b0, b1, b2, b3, b4, b5, b6, b7] 2 = ([l0, l1, a2, a3, a4, a5, a6, a7], c2) := by rw [hl1, hc2, minusSt, s1]; rfl
  have s3 : minusSt [a0, a1, a2, a3, a4, a5, a6, a7] [b0, b1, b2, b3, b4, b5, b6, b7] 3 = ([l0, l1, l2, a3, a4, a5, a6, a7], c3) := by rw [hl2, hc3, minusSt, s2]; rfl
  have s4 : minusSt [a0, a1, a2, a3, a4, a5, a6, a7] [b0, b1, b2, b3, b4, b5, b6, b7] 4 = ([l0, l1, l2, l3, a4, a5, a6, a7], c4) := by rw [hl3, hc4, minusSt, s3]; rfl
  have s5 : minusSt [a0, a1, a2, a3, a4, a5, a6, a7] [b0, b1, b2, b3, b4, b5, b6, b7] 5 = ([l0, l1, l2, l3, l4, a5, a6, a7], c5) := by rw [hl4, hc5, minusSt, s4]; rfl
  have s6 : minusSt [a0, a1, a2, a3, a4, a5, a6, a7] [b0, b1, b2, b3, b4, b5, b6, b7] 6 = ([l0, l1, l2, l3, l4, l5, a6, a7], c6) := by rw [hl5, hc6, minusSt, s5]; rfl
  have s7 : minusSt [a0, a1, a2, a3, a4, a5, a6, a7] [b0, b1, b2, b3, b4, b5, b6, b7] 7 = ([l0, l1, l2, l3, l4, l5, l6, a7], c7) := by rw [hl6, hc7, minusSt, s6]; rfl
  have s8 : minusSt [a0, a1, a2, a3, a4, a5, a6, a7] [b0, b1, b2, b3, b4, b5, b6, b7] 8 = ([l0, l1, l2, l3, l4, l5, l6, l7], c8) := by rw [hl7, hc8, minusSt, s7]; rfl
  rw [s8]
  refine ⟨?_, k8⟩
  dsimp only
  rw [val8, val8, val8]
  have z0 : c0.toNat = 0 := by rw [hc0]; rfl
  unfold B4
  omega
theorem minus_of {x y : List UInt32} (hx : x.length = 8) (hy : y.length = 8) : (minusSt x y 8).1 = lim ((val x + (B4 - val y)) % B4) := by
  refine lim_of (minusSt_len y hx 8) ?_
  have e := minusSt_val hx hy
  have l := val_lt (minusSt_len y hx 8)
  have l1 := val_lt hx
  have l2 := val_lt hy
  unfold B4 at *; omega

/-! ### Montgomery's way -/
def in1 (a : List UInt32) (bi : UInt32) (t : List UInt64) : Nat → List UInt64 × UInt64
  | 0 => (t, 0)
  | k + 1 => ((in1 a bi t k).1.set k (lo ((in1 a bi t k).1.getD k 0 + (a.getD k 0).toUInt64 * bi.toUInt64 + (in1 a bi t k).2)), hi ((in1 a bi t k).1.getD k 0 + (a.getD k 0).toUInt64 * bi.toUInt64 + (in1 a bi t k).2))
def in2 (m : List UInt32) (q : UInt64) (t : List UInt64) (c : UInt64) : Nat → List UInt64 × UInt64
  | 0 => (t, c)
  | j + 1 => ((in2 m q t c j).1.set (((j : Int) + 1) - 1).toNat (lo ((in2 m q t c j).1.getD (j + 1) 0 + q * (m.getD (j + 1) 0).toUInt64 + (in2 m q t c j).2)), hi ((in2 m q t c j).1.getD (j + 1) 0 + q * (m.getD (j + 1) 0).toUInt64 + (in2 m q t c j).2))
def mid (t : List UInt64) (c : UInt64) : List UInt64 := (t.set 8 (lo (t.getD 8 0 + c))).set 9 (hi (t.getD 8 0 + c))
def mid1 (a : List UInt32) (bi : UInt32) (t : List UInt64) : List UInt64 := mid (in1 a bi t 8).1 (in1 a bi t 8).2
def mq (a : List UInt32) (bi : UInt32) (k : UInt64) (t : List UInt64) : UInt64 := lo ((mid1 a bi t).getD 0 0 * k)
def c0 (m : List UInt32) (t : List UInt64) (q : UInt64) : UInt64 := hi (t.getD 0 0 + q * (m.getD 0 0).toUInt64)
def in2s (a : List UInt32) (bi : UInt32) (m : List UInt32) (k : UInt64) (t : List UInt64) (j : Nat) : List UInt64 × UInt64 := in2 m (mq a bi k t) (mid1 a bi t) (c0 m (mid1 a bi t) (mq a bi k t)) j
def fin (t : List UInt64) (c : UInt64) : List UInt64 := ((t.set 7 (lo (t.getD 8 0 + c))).set 8 ((t.set 7 (lo (t.getD 8 0 + c))).getD 9 0 + hi (t.getD 8 0 + c))).set 9 0
def mstep (a : List UInt32) (bi : UInt32) (m : List UInt32) (k : UInt64) (t : List UInt64) : List UInt64 := fin (in2s a bi m k t 7).1 (in2s a bi m k t 7).2
def mulSt (a b m : List UInt32) (k : UInt64) : Nat → List UInt64
  | 0 => List.replicate 10 0
  | i + 1 => mstep a (b.getD i 0) m k (mulSt a b m k i)
theorem in1_len {a : List UInt32} {bi : UInt32} {t : List UInt64} (h : t.length = 10) : ∀ k, (in1 a bi t k).1.length = 10
  | 0 => h
  | k + 1 => by simp only [in1, List.length_set]; exact in1_len h k
theorem in2_len {m : List UInt32} {q : UInt64} {t : List UInt64} {c : UInt64} (h : t.length = 10) : ∀ k, (in2 m q t c k).1.length = 10
  | 0 => h
  | k + 1 => by simp only [in2, List.length_set]; exact in2_len h k
theorem mid1_len {a : List UInt32} {bi : UInt32} {t : List UInt64} (h : t.length = 10) : (mid1 a bi t).length = 10 := by
  simp only [mid1, mid, List.length_set]; exact in1_len h 8
theorem mstep_len {a : List UInt32} {bi : UInt32} {m : List UInt32} {k : UInt64} {t : List UInt64} (h : t.length = 10) : (mstep a bi m k t).length = 10 := by
  simp only [mstep, fin, in2s, List.length_set]; exact in2_len (mid1_len h) 7
theorem mulSt_len (a b m : List UInt32) (k : UInt64) : ∀ i, (mulSt a b m k i).length = 10
  | 0 => rfl
  | i + 1 => mstep_len (mulSt_len a b m k i)

theorem macE {t p c : UInt64} {x y : Nat} (hp : p.toNat = x * y) (hx : x < 4294967296) (hy : y < 4294967296) (ht : t.toNat < 4294967296) (hc : c.toNat < 4294967296) :
    (lo (t + p + c)).toNat + 4294967296 * (hi (t + p + c)).toNat = t.toNat + x * y + c.toNat ∧ (lo (t + p + c)).toNat < 4294967296 ∧ (hi (t + p + c)).toNat < 4294967296 := by
  have hpp : x * y ≤ 4294967295 * 4294967295 := Nat.mul_le_mul (by omega) (by omega)
  have e1 := add_toNat (x := t) (y := p) (by omega)
  have e2 := add_toNat (x := t + p) (y := c) (by omega)
  rw [lo_nat, hi_nat, e2, e1, hp]
  omega
theorem prodE (x y : UInt32) : (x.toUInt64 * y.toUInt64).toNat = x.toNat * y.toNat := by
  have hpp : x.toNat * y.toNat ≤ 4294967295 * 4294967295 := Nat.mul_le_mul (by have := lt32 x; omega) (by have := lt32 y; omega)
  rw [mul_toNat (by rw [up_nat, up_nat]; omega), up_nat, up_nat]
theorem prodQ {q : UInt64} (hq : q.toNat < 4294967296) (y : UInt32) : (q * y.toUInt64).toNat = q.toNat * y.toNat := by
  have hpp : q.toNat * y.toNat ≤ 4294967295 * 4294967295 := Nat.mul_le_mul (by omega) (by have := lt32 y; omega)
  rw [mul_toNat (by rw [up_nat]; omega), up_nat]
theorem away {t k m : UInt64} (ht : t.toNat < 4294967296) (hk : k.toNat < 4294967296) (h : (k.toNat * m.toNat) % 4294967296 = 4294967295) : ((lo (t * k)).toNat * m.toNat + t.toNat) % 4294967296 = 0 := by
  have hpp : t.toNat * k.toNat ≤ 4294967295 * 4294967295 := Nat.mul_le_mul (by omega) (by omega)
  rw [lo_nat, mul_toNat (by omega)]
  have h1 : (t.toNat * k.toNat % 4294967296 * m.toNat) % 4294967296 = (t.toNat * 4294967295) % 4294967296 := by
    rw [Nat.mod_mul_mod, Nat.mul_assoc, Nat.mul_mod, h, Nat.mod_mul_mod]
  rw [Nat.add_mod, h1, ← Nat.add_mod, show t.toNat * 4294967295 + t.toNat = 4294967296 * t.toNat by omega]
  exact Nat.mul_mod_right _ _


/-- nine limbs count; the last is naught -/
def small (t : List UInt64) : Prop := t.length = 10 ∧ (∀ i, (t.getD i 0).toNat < 4294967296) ∧ t.getD 9 0 = 0
/-- the first limbs' value -/
def pv (t : List UInt64) : Nat → Nat
  | 0 => 0
  | j + 1 => pv t j + 4294967296 ^ j * (t.getD j 0).toNat
theorem getD_set {α : Type} {l : List α} {i j : Nat} {v z : α} (hi : i < l.length) : (l.set i v).getD j z = if i = j then v else l.getD j z := by
  rw [List.getD_eq_getElem?_getD, List.getElem?_set, List.getD_eq_getElem?_getD]
  by_cases h : i = j
  · subst h; rw [if_pos rfl, if_pos hi, if_pos rfl]; rfl
  · rw [if_neg h, if_neg h]
theorem pv_set {l : List UInt64} {i : Nat} {v : UInt64} (hi : i < l.length) : ∀ j, j ≤ i → pv (l.set i v) j = pv l j
  | 0, _ => rfl
  | j + 1, h => by
    simp only [pv]
    rw [pv_set hi j (by omega), getD_set hi, if_neg (by omega)]
theorem up_pv {X B lo hi s : Nat} (h : lo + B * hi = s) : X * lo + (X * B) * hi = X * s := by
  rw [← h, Nat.mul_add, Nat.mul_assoc]

theorem in1_inv {a : List UInt32} {bi : UInt32} {t : List UInt64} (ht : t.length = 10) (hs : ∀ i, (t.getD i 0).toNat < 4294967296) : ∀ k, k ≤ 9 →
    pv (in1 a bi t k).1 k + 4294967296 ^ k * (in1 a bi t k).2.toNat = pv t k + vt a k * bi.toNat ∧ (in1 a bi t k).2.toNat < 4294967296 ∧ (∀ i, ((in1 a bi t k).1.getD i 0).toNat < 4294967296) ∧ (∀ i, k ≤ i → (in1 a bi t k).1.getD i 0 = t.getD i 0)
  | 0, _ => ⟨by show 0 + 4294967296 ^ 0 * (0 : UInt64).toNat = 0 + 0 * bi.toNat; simp, by show (0 : UInt64).toNat < 4294967296; decide, hs, fun i _ => rfl⟩
  | k + 1, hk => by
    obtain ⟨h1, h2, h3, h4⟩ := in1_inv ht hs k (by omega)
    have hl : k < (in1 a bi t k).1.length := by rw [in1_len ht]; omega
    obtain ⟨e1, e2, e3⟩ := macE (prodE (a.getD k 0) bi) (lt32 _) (lt32 bi) (h3 k) h2
    rw [h4 k (Nat.le_refl _)] at e1 e2 e3
    have e5 := up_pv (X := 4294967296 ^ k) e1
    simp only [in1]
    rw [h4 k (Nat.le_refl _)]
    refine ⟨?_, e3, fun i => ?_, fun i hi => ?_⟩
    · simp only [pv, vt]
      rw [pv_set hl k (Nat.le_refl _), getD_set hl, if_pos rfl, Nat.pow_succ]
      rw [Nat.mul_add, Nat.mul_add] at e5
      have hd : (vt a k + 4294967296 ^ k * (a.getD k 0).toNat) * bi.toNat = vt a k * bi.toNat + 4294967296 ^ k * ((a.getD k 0).toNat * bi.toNat) := by rw [Nat.add_mul, Nat.mul_assoc]
      rw [hd]
      generalize 4294967296 ^ k * ((a.getD k 0).toNat * bi.toNat) = Z1 at *
      omega
    · rw [getD_set hl]
      split
      · exact e2
      · exact h3 i
    · rw [getD_set hl, if_neg (by omega)]; exact h4 i (by omega)

theorem in2_inv {m : List UInt32} {q : UInt64} {t : List UInt64} {c : UInt64} (ht : t.length = 10) (hs : ∀ i, (t.getD i 0).toNat < 4294967296) (hq : q.toNat < 4294967296) (hc : c.toNat < 4294967296)
    (h0 : 4294967296 * c.toNat = (t.getD 0 0).toNat + q.toNat * (m.getD 0 0).toNat) : ∀ j, j ≤ 8 →
    4294967296 * pv (in2 m q t c j).1 j + 4294967296 ^ (j + 1) * (in2 m q t c j).2.toNat = pv t (j + 1) + q.toNat * vt m (j + 1) ∧ (in2 m q t c j).2.toNat < 4294967296 ∧ (∀ i, ((in2 m q t c j).1.getD i 0).toNat < 4294967296) ∧ (∀ i, j ≤ i → (in2 m q t c j).1.getD i 0 = t.getD i 0)
  | 0, _ => ⟨by
      show 4294967296 * 0 + 4294967296 ^ 1 * c.toNat = 0 + 4294967296 ^ 0 * (t.getD 0 0).toNat + q.toNat * (0 + 4294967296 ^ 0 * (m.getD 0 0).toNat)
      simp only [Nat.pow_zero, Nat.pow_one, Nat.one_mul, Nat.zero_add, Nat.mul_zero]; omega, hc, hs, fun i _ => rfl⟩
  | j + 1, hj => by
    obtain ⟨h1, h2, h3, h4⟩ := in2_inv ht hs hq hc h0 j (by omega)
    have hl : j < (in2 m q t c j).1.length := by rw [in2_len ht]; omega
    have hidx : (((j : Int) + 1) - 1).toNat = j := by omega
    obtain ⟨e1, e2, e3⟩ := macE (prodQ hq (m.getD (j + 1) 0)) hq (lt32 _) (h3 (j + 1)) h2
    rw [h4 (j + 1) (by omega)] at e1 e2 e3
    have e5 := up_pv (X := 4294967296 ^ (j + 1)) e1
    simp only [in2]
    rw [h4 (j + 1) (by omega), hidx]
    refine ⟨?_, e3, fun i => ?_, fun i hi => ?_⟩
    · rw [show pv t (j + 1 + 1) = pv t (j + 1) + 4294967296 ^ (j + 1) * (t.getD (j + 1) 0).toNat from rfl, show vt m (j + 1 + 1) = vt m (j + 1) + 4294967296 ^ (j + 1) * (m.getD (j + 1) 0).toNat from rfl]
      simp only [pv]
      rw [pv_set hl j (Nat.le_refl _), getD_set hl, if_pos rfl]
      rw [Nat.mul_add, Nat.mul_add] at e5
      rw [Nat.mul_add q.toNat, Nat.mul_left_comm q.toNat, Nat.mul_add 4294967296, show 4294967296 * (4294967296 ^ j * (lo ((t.getD (j + 1) 0) + q * (m.getD (j + 1) 0).toUInt64 + (in2 m q t c j).2)).toNat) = 4294967296 ^ (j + 1) * (lo ((t.getD (j + 1) 0) + q * (m.getD (j + 1) 0).toUInt64 + (in2 m q t c j).2)).toNat by rw [← Nat.mul_assoc, Nat.pow_succ, Nat.mul_comm 4294967296 (4294967296 ^ j)], Nat.pow_succ 4294967296 (j + 1)]
      simp only [pv] at h1
      generalize 4294967296 ^ (j + 1) * (q.toNat * (m.getD (j + 1) 0).toNat) = Z1 at *
      generalize q.toNat * vt m (j + 1) = Z2 at *
      generalize 4294967296 ^ (j + 1) = X at *
      omega
    · rw [getD_set hl]
      split
      · exact e2
      · exact h3 i
    · rw [getD_set hl, if_neg (by omega)]; exact h4 i (by omega)
def val9 (t : List UInt64) : Nat := pv t 9

/-- one row -/
theorem mstep_val {a m : List UInt32} {t : List UInt64} (ha : a.length = 8) (hm : m.length = 8) (ht : small t) {bi : UInt32} {k : UInt64} (hk1 : k.toNat < 4294967296) (hk : (k.toNat * (m.getD 0 0).toNat) % 4294967296 = 4294967295) :
    small (mstep a bi m k t) ∧ ∃ q, q < 4294967296 ∧ 4294967296 * val9 (mstep a bi m k t) = val9 t + val a * bi.toNat + q * val m := by
  obtain ⟨ht0, ht1, ht2⟩ := ht
  obtain ⟨h1, h2, h3, h4⟩ := in1_inv (a := a) (bi := bi) ht0 ht1 8 (by omega)
  rw [vt_val ha] at h1
  have hL := in1_len (a := a) (bi := bi) ht0 8
  obtain ⟨l, hl⟩ : ∃ l, l = (in1 a bi t 8).1 := ⟨_, rfl⟩
  obtain ⟨c, hc⟩ : ∃ l, l = (in1 a bi t 8).2 := ⟨_, rfl⟩
  rw [← hl, ← hc] at h1
  rw [← hc] at h2
  rw [← hl] at h3 h4 hL
  have e8 : l.getD 8 0 = t.getD 8 0 := h4 8 (by omega)
  have w8 := ht1 8
  have f8 := add_toNat (x := t.getD 8 0) (y := c) (by omega)
  -- the middle
  have hmid : mid1 a bi t = (l.set 8 (lo (t.getD 8 0 + c))).set 9 (hi (t.getD 8 0 + c)) := by rw [mid1, ← hl, ← hc, mid, e8]
  obtain ⟨u, hu⟩ : ∃ u, u = mid1 a bi t := ⟨_, rfl⟩
  have hul : u.length = 10 := by rw [hu]; exact mid1_len ht0
  have hL9 : 9 < (l.set 8 (lo (t.getD 8 0 + c))).length := by rw [List.length_set]; omega
  have u8 : u.getD 8 0 = lo (t.getD 8 0 + c) := by rw [hu, hmid, getD_set hL9, if_neg (by omega), getD_set (by omega), if_pos rfl]
  have u9 : u.getD 9 0 = hi (t.getD 8 0 + c) := by rw [hu, hmid, getD_set hL9, if_pos rfl]
  have hlo : (lo (t.getD 8 0 + c)).toNat = ((t.getD 8 0).toNat + c.toNat) % 4294967296 := by rw [lo_nat, f8]
  have hhi : (hi (t.getD 8 0 + c)).toNat = ((t.getD 8 0).toNat + c.toNat) / 4294967296 := by rw [hi_nat, f8]
  have us : ∀ i, (u.getD i 0).toNat < 4294967296 := fun i => by
    rw [hu, hmid, getD_set hL9]
    split
    · omega
    · rw [getD_set (by omega)]
      split
      · omega
      · exact h3 i
  have upv : pv u 8 = pv l 8 := by rw [hu, hmid, pv_set hL9 8 (by omega), pv_set (by omega) 8 (Nat.le_refl _)]
  have u0 : u.getD 0 0 = l.getD 0 0 := by rw [hu, hmid, getD_set hL9, if_neg (by omega), getD_set (by omega), if_neg (by omega)]
  -- the number that makes the lowest limb go away
  obtain ⟨q, hq⟩ : ∃ q, q = mq a bi k t := ⟨_, rfl⟩
  have hq' : q = lo (u.getD 0 0 * k) := by rw [hq, mq, hu]
  have hq32 : q.toNat < 4294967296 := by rw [hq', lo_nat]; exact Nat.mod_lt _ (by decide)
  have haw := away (t := u.getD 0 0) (k := k) (m := (m.getD 0 0).toUInt64) (us 0) hk1 (by rw [up_nat]; exact hk)
  rw [← hq', up_nat] at haw
  have hpq : q.toNat * (m.getD 0 0).toNat ≤ 4294967295 * 4294967295 := Nat.mul_le_mul (by omega) (by have := lt32 (m.getD 0 0); omega)
  have hus0 := us 0
  have g0 := add_toNat (x := u.getD 0 0) (y := q * (m.getD 0 0).toUInt64) (by rw [prodQ hq32]; omega)
  rw [prodQ hq32] at g0
  obtain ⟨d, hd⟩ : ∃ d, d = c0 m u q := ⟨_, rfl⟩
  have nd : d.toNat = ((u.getD 0 0).toNat + q.toNat * (m.getD 0 0).toNat) / 4294967296 := by rw [hd, c0, hi_nat, g0]
  have hd0 : 4294967296 * d.toNat = (u.getD 0 0).toNat + q.toNat * (m.getD 0 0).toNat := by rw [nd]; omega
  have hd32 : d.toNat < 4294967296 := by rw [nd]; omega
  obtain ⟨g1, g2, g3, g4⟩ := in2_inv (m := m) (q := q) (t := u) (c := d) hul us hq32 hd32 hd0 7 (by omega)
  have hin2 : in2s a bi m k t 7 = in2 m q u d 7 := by rw [in2s, ← hq, ← hu, ← hd]
  have hR := in2_len (m := m) (q := q) (t := u) (c := d) hul 7
  obtain ⟨r, hr⟩ : ∃ l, l = (in2 m q u d 7).1 := ⟨_, rfl⟩
  obtain ⟨e, he⟩ : ∃ l, l = (in2 m q u d 7).2 := ⟨_, rfl⟩
  rw [← hr, ← he] at g1
  rw [← he] at g2
  rw [← hr] at g3 g4 hR
  have r8 : r.getD 8 0 = u.getD 8 0 := g4 8 (by omega)
  have r9 : r.getD 9 0 = u.getD 9 0 := g4 9 (by omega)
  have wu8 := us 8
  have f9 := add_toNat (x := u.getD 8 0) (y := e) (by omega)
  have nlo : (lo (u.getD 8 0 + e)).toNat = ((u.getD 8 0).toNat + e.toNat) % 4294967296 := by rw [lo_nat, f9]
  have nhi : (hi (u.getD 8 0 + e)).toNat = ((u.getD 8 0).toNat + e.toNat) / 4294967296 := by rw [hi_nat, f9]
  have n9 : (u.getD 9 0).toNat = ((t.getD 8 0).toNat + c.toNat) / 4294967296 := by rw [u9, hhi]
  have n8 : (u.getD 8 0).toNat = ((t.getD 8 0).toNat + c.toNat) % 4294967296 := by rw [u8, hlo]
  have f10 := add_toNat (x := u.getD 9 0) (y := hi (u.getD 8 0 + e)) (by omega)
  have hR7 : 7 < r.length := by omega
  have hR8 : 8 < (r.set 7 (lo (u.getD 8 0 + e))).length := by rw [List.length_set]; omega
  have hfin : mstep a bi m k t = ((r.set 7 (lo (u.getD 8 0 + e))).set 8 (u.getD 9 0 + hi (u.getD 8 0 + e))).set 9 0 := by
    rw [mstep, hin2, ← hr, ← he, fin, r8, getD_set hR7, if_neg (by omega), r9]
  have hR9 : 9 < ((r.set 7 (lo (u.getD 8 0 + e))).set 8 (u.getD 9 0 + hi (u.getD 8 0 + e))).length := by rw [List.length_set, List.length_set]; omega
  rw [hfin]
  refine ⟨⟨by rw [List.length_set, List.length_set, List.length_set]; exact hR, fun i => ?_, ?_⟩, q.toNat, hq32, ?_⟩
  · rw [getD_set hR9]
    split
    · decide
    · rw [getD_set hR8]
      split
      · omega
      · rw [getD_set hR7]
        split
        · omega
        · exact g3 i
  · rw [getD_set hR9, if_pos rfl]
  · have k1 : pv (((r.set 7 (lo (u.getD 8 0 + e))).set 8 (u.getD 9 0 + hi (u.getD 8 0 + e))).set 9 0) 9 = pv r 7 + 4294967296 ^ 7 * (lo (u.getD 8 0 + e)).toNat + 4294967296 ^ 8 * (u.getD 9 0 + hi (u.getD 8 0 + e)).toNat := by
      rw [pv_set hR9 9 (Nat.le_refl _)]
      simp only [pv]
      rw [getD_set hR8, getD_set hR8, getD_set hR8, getD_set hR8, getD_set hR8, getD_set hR8, getD_set hR8, getD_set hR8, getD_set hR8]
      simp only [getD_set hR7]
      simp
    have k2 : pv t 9 = pv t 8 + 4294967296 ^ 8 * (t.getD 8 0).toNat := rfl
    have k3 : pv u 8 = pv l 8 := upv
    show 4294967296 * pv _ 9 = pv t 9 + _ + _
    rw [k1, k2, f10]
    have g1 : 4294967296 * pv r 7 + 4294967296 ^ 8 * e.toNat = pv u 8 + q.toNat * vt m 8 := g1
    rw [vt_val hm, k3] at g1
    generalize q.toNat * val m = Z1 at *
    generalize val a * bi.toNat = Z2 at *
    generalize pv r 7 = Y1 at *
    generalize pv l 8 = Y2 at *
    generalize pv t 8 = Y3 at *
    clear hin2 hR hr he hd hu hq hmid us upv u0 hq' haw hfin k1 h3 h4 g3 g4 ht1 hl hc f8 f9 f10 g0 nd hd0 hd32 hpq hus0 hk hk1 hq32
    omega
theorem small0 : small (List.replicate 10 0) := ⟨rfl, fun i => by
  rw [List.getD_eq_getElem?_getD, List.getElem?_replicate]; split <;> decide, rfl⟩
theorem mulSt_small {a b m : List UInt32} (ha : a.length = 8) (hm : m.length = 8) {k : UInt64} (hk1 : k.toNat < 4294967296) (hk : (k.toNat * (m.getD 0 0).toNat) % 4294967296 = 4294967295) : ∀ i, small (mulSt a b m k i)
  | 0 => small0
  | i + 1 => (mstep_val ha hm (mulSt_small ha hm hk1 hk i) hk1 hk).1
theorem rows_val {a b m : List UInt32} (ha : a.length = 8) (hm : m.length = 8) {k : UInt64} (hk1 : k.toNat < 4294967296) (hk : (k.toNat * (m.getD 0 0).toNat) % 4294967296 = 4294967295) : ∀ i,
    ∃ q, q < 4294967296 ^ i ∧ 4294967296 ^ i * val9 (mulSt a b m k i) = val a * vt b i + q * val m
  | 0 => ⟨0, by decide, by
      show 4294967296 ^ 0 * pv (List.replicate 10 0) 9 = val a * 0 + 0 * val m
      have : pv (List.replicate 10 0) 9 = 0 := by decide
      rw [this]; simp⟩
  | i + 1 => by
    obtain ⟨q, h1, h2⟩ := rows_val (b := b) ha hm hk1 hk i
    obtain ⟨p, h3, h4⟩ := (mstep_val ha hm (mulSt_small (b := b) ha hm hk1 hk i) (bi := b.getD i 0) hk1 hk).2
    refine ⟨q + 4294967296 ^ i * p, ?_, ?_⟩
    · rw [Nat.pow_succ]
      have := Nat.mul_le_mul_left (4294967296 ^ i) (show p + 1 ≤ 4294967296 by omega)
      rw [Nat.mul_succ] at this
      omega
    · show 4294967296 ^ (i + 1) * val9 (mstep a (b.getD i 0) m k (mulSt a b m k i)) = _
      rw [Nat.pow_succ, Nat.mul_assoc, h4, Nat.mul_add, Nat.mul_add, h2]
      simp only [vt]
      rw [Nat.mul_add (val a), Nat.add_mul, Nat.mul_assoc (4294967296 ^ i) p, Nat.mul_left_comm (val a) (4294967296 ^ i)]
      omega
theorem mulSt_val {a b m : List UInt32} (ha : a.length = 8) (hb : b.length = 8) (hm : m.length = 8) {k : UInt64} (hk1 : k.toNat < 4294967296) (hk : (k.toNat * (m.getD 0 0).toNat) % 4294967296 = 4294967295) :
    ∃ q, q < B4 ∧ B4 * val9 (mulSt a b m k 8) = val a * val b + q * val m := by
  have := rows_val (b := b) ha hm hk1 hk 8
  rw [vt_val hb] at this
  exact this

/-- the words of the low half -/
def outL (t : List UInt64) (i : Nat) : List UInt32 := fill 0 (fun i => (t.getD i 0).toUInt32) 8 i
theorem outL_len (t : List UInt64) (i : Nat) : (outL t i).length = 8 := Go.Sym.Num.fill_len _ _ _ i
theorem out_val {t : List UInt64} (h : small t) : val9 t = val (outL t 8) + B4 * (t.getD 8 0).toNat := by
  obtain ⟨_, h1, _⟩ := h
  rw [← vt_val (outL_len t 8)]
  have e : ∀ j, j < 8 → ((outL t 8).getD j 0).toNat = (t.getD j 0).toNat := fun j hj => by
    have : (outL t 8).getD j 0 = (t.getD j 0).toUInt32 := by
      unfold outL
      rw [List.getD_eq_getElem?_getD, Go.Sym.Num.fill_get _ _ _ _ _ hj, if_pos hj]; rfl
    rw [this, down_nat, Nat.mod_eq_of_lt (h1 j)]
  have f : ∀ j, j ≤ 8 → vt (outL t 8) j = pv t j := fun j => by
    induction j with
    | zero => intro _; rfl
    | succ j ih => intro hj; simp only [vt, pv]; rw [ih (by omega), e j (by omega)]
  rw [f 8 (Nat.le_refl _)]
  rfl
theorem mul_w {a b m : List UInt32} (ha : a.length = 8) (hb : b.length = 8) (hm : m.length = 8) {k : UInt64} (hk1 : k.toNat < 4294967296) (hk : (k.toNat * (m.getD 0 0).toNat) % 4294967296 = 4294967295)
    {ri : Nat} (hri : (B4 * ri) % val m = 1 % val m) (hlt : val a < val m)
    (h : 0 < ((mulSt a b m k 8).getD 8 0).toNat ∨ ¬ val (outL (mulSt a b m k 8) 8) < val m) : (minusSt (outL (mulSt a b m k 8) 8) m 8).1 = lim (mont (val m) ri (val a) (val b)) := by
  obtain ⟨q, hq, he⟩ := mulSt_val ha hb hm hk1 hk
  have hbd := mul_bound hlt (val_lt hb) hq he
  rw [← mont_of hri he]
  have hs := mulSt_small (b := b) ha hm hk1 hk 8
  have ho := out_val hs
  have lo := outL_len (mulSt a b m k 8) 8
  have e := minusSt_val lo hm
  refine lim_of (minusSt_len m lo 8) ?_
  have l1 := val_lt (minusSt_len m lo 8)
  have l2 := val_lt lo
  have l3 := val_lt hm
  generalize val9 (mulSt a b m k 8) = V at *
  have hge : val m ≤ V := by unfold B4 at *; omega
  rw [Nat.mod_eq_sub_mod hge, Nat.mod_eq_of_lt (by omega)]
  unfold B4 at *; omega
theorem mul_z {a b m : List UInt32} (ha : a.length = 8) (hb : b.length = 8) (hm : m.length = 8) {k : UInt64} (hk1 : k.toNat < 4294967296) (hk : (k.toNat * (m.getD 0 0).toNat) % 4294967296 = 4294967295)
    {ri : Nat} (hri : (B4 * ri) % val m = 1 % val m) (hlt : val a < val m)
    (h : ¬ 0 < ((mulSt a b m k 8).getD 8 0).toNat) (h' : val (outL (mulSt a b m k 8) 8) < val m) : outL (mulSt a b m k 8) 8 = lim (mont (val m) ri (val a) (val b)) := by
  obtain ⟨q, hq, he⟩ := mulSt_val ha hb hm hk1 hk
  rw [← mont_of hri he]
  have hs := mulSt_small (b := b) ha hm hk1 hk 8
  have ho := out_val hs
  refine lim_of (outL_len _ 8) ?_
  have e0 : ((mulSt a b m k 8).getD 8 0).toNat = 0 := by omega
  rw [e0, Nat.mul_zero, Nat.add_zero] at ho
  rw [ho, Nat.mod_eq_of_lt h']
end Go.Sym.Num32
