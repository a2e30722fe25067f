/-
  Contracts of functions of the program, each said of symbolic values; no condition beyond each statement's own.
-/
import Derived.Test.YtofhjelmgekofaaN6
set_option linter.unusedSimpArgs false
set_option linter.unusedVariables false
namespace Go.Sym.N
open Go Go.Proofs.Try Go.Sym.Num
set_option maxRecDepth 100000

theorem ibits_and {a m : Int} (h0 : 0 ≤ m) (h1 : m < 9223372036854775808) : 0 ≤ ibits .and a m ∧ ibits .and a m ≤ m := by
  unfold ibits
  dsimp only
  have hle : (BitVec.ofInt 64 a &&& BitVec.ofInt 64 m).toNat ≤ (BitVec.ofInt 64 m).toNat := by
    rw [BitVec.toNat_and]; exact Nat.and_le_right
  have hm : ((BitVec.ofInt 64 m).toNat : Int) = m := by
    rw [BitVec.toNat_ofInt]
    have : (2 ^ 64 : Nat) = 18446744073709551616 := by decide
    rw [this]
    omega
  rw [wrap_i64 _ (by unfold fits; omega)]
  omega
theorem ibits_255 {a : Int} (h : 0 ≤ a) : ibits .and a 255 = a % 256 := by
  have hb := ibits_and (a := a) (m := 255) (by decide) (by decide)
  unfold ibits at hb ⊢
  dsimp only at hb ⊢
  have hle : (BitVec.ofInt 64 a &&& BitVec.ofInt 64 255).toNat = (BitVec.ofInt 64 a).toNat % 256 := by
    rw [BitVec.toNat_and]; exact Nat.and_two_pow_sub_one_eq_mod _ 8
  rw [hle, wrap_i64 _ (by unfold fits; omega), BitVec.toNat_ofInt]
  have : (2 ^ 64 : Nat) = 18446744073709551616 := by decide
  rw [this]
  omega

/-- eight bytes, written from the end on -/
def fillR (f : Nat → UInt8) : Nat → List UInt8
  | 0 => List.replicate 32 0
  | i + 1 => (fillR f i).set ((31 : Int) - (i : Int)).toNat (f i)
theorem fillR_len (f : Nat → UInt8) : ∀ i, (fillR f i).length = 32
  | 0 => rfl
  | i + 1 => by simp only [fillR, List.length_set]; exact fillR_len f i
theorem fillR_eight (f : Nat → UInt8) : fillR f 8 = List.replicate 24 0 ++ [f 7, f 6, f 5, f 4, f 3, f 2, f 1, f 0] := rfl
def wby (x : Int) (i : Nat) : UInt8 := UInt8.ofInt (ibits .and (x / 2 ^ (8 * (i : Int)).toNat) 255)
theorem beB_zero : ∀ k, beB k 0 = List.replicate k 0
  | 0 => rfl
  | k + 1 => by rw [beB, Nat.zero_div, beB_zero k, List.replicate_succ']; rfl
theorem wby_eq {x : Int} (h : 0 ≤ x) (i : Nat) : wby x i = UInt8.ofNat (x.toNat / 256 ^ i) := by
  obtain ⟨n, rfl⟩ := Int.eq_ofNat_of_zero_le h
  unfold wby
  have e : (8 * (i : Int)).toNat = 8 * i := by omega
  have e2 : ((n : Int) / 2 ^ (8 * i)) = ((n / 256 ^ i : Nat) : Int) := by
    have e4 : (2 : Int) ^ (8 * i) = ((2 ^ (8 * i) : Nat) : Int) := by simp
    rw [e4, Nat.pow_mul, show (2 ^ 8 : Nat) = 256 by decide]
    rfl
  rw [e, e2, ibits_255 (Int.natCast_nonneg _), Int.toNat_natCast]
  generalize n / 256 ^ i = v
  apply UInt8.toNat_inj.1
  have : ((v : Int) % 256) = ((v % 256 : Nat) : Int) := by omega
  rw [this, UInt8.toNat_ofNat']
  have h8 := ofInt_8 ((v % 256 : Nat) : Int)
  have : (2 ^ 8 : Nat) = 256 := by decide
  rw [this]; omega
theorem word_val {x : Int} (h : 0 ≤ x) (h1 : x < 9223372036854775808) : fillR (wby x) 8 = beB 32 x.toNat := by
  have p8 : (256 ^ 8 : Nat) = 18446744073709551616 := by decide
  rw [fillR_eight, show (32 : Nat) = 24 + 8 from rfl, beB_add, p8, Nat.div_eq_of_lt (by omega), beB_zero]
  congr 1
  simp only [wby_eq h, beB, List.nil_append, List.cons_append, Nat.div_div_eq_div_mul]
  simp


def wordS : Spec := fun args hp K => match args, hp with
  | [.int x], [] => Pre (0 ≤ x ∧ x < 9223372036854775808) (K (.str (beB 32 x.toNat)) [])
  | _, _ => False
theorem word_s : SoundC prog 32 wordS := by
  refine sound_f tys_ok fnok_nil rfl func32 rfl call32 (D := pl32) ?_ ?_
  · intro args hp K h
    unfold wordS at h
    split at h
    · exact Nat.le_of_ble_eq_true rfl
    · exact h.elim
  · intro args hp K h
    unfold wordS at h
    split at h
    · rename_i x
      obtain ⟨⟨h0, h1⟩, h⟩ := pre_e h
      repeat ((conv => whnf); first | (refine pre_i ?hc ?_; case hc => first | exact (show planOK _ _ _ = true from by kernel_rfl) | assumption | omega | (unfold fits; omega) | decide +kernel | (constructor <;> first | assumption | omega) | (simp only [off_addO, ty3, ty4, ty5, ty9, ty24, ty35, ty41, ty42, ty50, ty67, ty69, ty70, ty71, ty72, ty77, ty78, ty79, ty94, ty97, ty108, off, offE] <;> omega) | (simp only [List.length_append, List.length_take, List.length_drop, List.length_nil, List.length_cons, List.length_replicate, List.length_set, off_addO, off, offE] <;> omega) | (simp only [off_addO, ty3, ty4, ty5, ty9, ty24, ty35, ty41, ty42, ty50, ty67, ty69, ty70, ty71, ty72, ty77, ty78, ty79, ty94, ty97, ty108, List.length_append, List.length_take, List.length_drop, List.length_nil, List.length_cons, List.length_replicate, List.length_set, off, offE] <;> omega) | (constructor <;> first | assumption | (simp only [off_addO, ty3, ty4, ty5, ty9, ty24, ty35, ty41, ty42, ty50, ty67, ty69, ty70, ty71, ty72, ty77, ty78, ty79, ty94, ty97, ty108, List.length_append, List.length_take, List.length_drop, List.length_nil, List.length_cons, List.length_replicate, List.length_set, off, offE] <;> omega))) | (refine cond_t ?hc ?_; case hc => first | rfl | assumption | (rw [decide_eq_true_eq]; omega) | (rw [decide_eq_false_iff_not]; omega) | (simp <;> omega)) | (refine cond_f ?hc ?_; case hc => first | rfl | assumption | (rw [decide_eq_true_eq]; omega) | (rw [decide_eq_false_iff_not]; omega) | (simp <;> omega)) | refine same_i ?_)
      conv => whnf
      refine loop_h (Ix 8) (fun q => ⟨[(0, .int x), (3, .sl 0 0 0 [] 32 32), (4, .int q.i)], [.mk 5 [.arr8 32 (fillR (wby x) q.i)]]⟩)
        (fun q => 8 - q.i) ⟨0, Nat.zero_le _⟩ [0] ?_ ?_
      · repeat ((conv => whnf); first | (refine pre_i ?hc ?_; case hc => first | exact (show planOK _ _ _ = true from by kernel_rfl) | assumption | omega | (unfold fits; omega) | decide +kernel | (constructor <;> first | assumption | omega) | (simp only [off_addO, ty3, ty4, ty5, ty9, ty24, ty35, ty41, ty42, ty50, ty67, ty69, ty70, ty71, ty72, ty77, ty78, ty79, ty94, ty97, ty108, off, offE] <;> omega) | (simp only [List.length_append, List.length_take, List.length_drop, List.length_nil, List.length_cons, List.length_replicate, List.length_set, off_addO, off, offE] <;> omega) | (simp only [off_addO, ty3, ty4, ty5, ty9, ty24, ty35, ty41, ty42, ty50, ty67, ty69, ty70, ty71, ty72, ty77, ty78, ty79, ty94, ty97, ty108, List.length_append, List.length_take, List.length_drop, List.length_nil, List.length_cons, List.length_replicate, List.length_set, off, offE] <;> omega) | (constructor <;> first | assumption | (simp only [off_addO, ty3, ty4, ty5, ty9, ty24, ty35, ty41, ty42, ty50, ty67, ty69, ty70, ty71, ty72, ty77, ty78, ty79, ty94, ty97, ty108, List.length_append, List.length_take, List.length_drop, List.length_nil, List.length_cons, List.length_replicate, List.length_set, off, offE] <;> omega))) | (refine cond_t ?hc ?_; case hc => first | rfl | assumption | (rw [decide_eq_true_eq]; omega) | (rw [decide_eq_false_iff_not]; omega) | (simp <;> omega)) | (refine cond_f ?hc ?_; case hc => first | rfl | assumption | (rw [decide_eq_true_eq]; omega) | (rw [decide_eq_false_iff_not]; omega) | (simp <;> omega)) | refine same_i ?_)
        exact trivial
      · intro q
        have hi := q.hi
        have hl := fillR_len (wby x) q.i
        by_cases h4 : q.i < 8
        · repeat ((conv => whnf); first | (refine pre_i ?hc ?_; case hc => first | exact (show planOK _ _ _ = true from by kernel_rfl) | assumption | omega | (unfold fits; omega) | decide +kernel | (constructor <;> first | assumption | omega) | (simp only [off_addO, ty3, ty4, ty5, ty9, ty24, ty35, ty41, ty42, ty50, ty67, ty69, ty70, ty71, ty72, ty77, ty78, ty79, ty94, ty97, ty108, off, offE] <;> omega) | (simp only [List.length_append, List.length_take, List.length_drop, List.length_nil, List.length_cons, List.length_replicate, List.length_set, off_addO, off, offE] <;> omega) | (simp only [off_addO, ty3, ty4, ty5, ty9, ty24, ty35, ty41, ty42, ty50, ty67, ty69, ty70, ty71, ty72, ty77, ty78, ty79, ty94, ty97, ty108, List.length_append, List.length_take, List.length_drop, List.length_nil, List.length_cons, List.length_replicate, List.length_set, off, offE] <;> omega) | (constructor <;> first | assumption | (simp only [off_addO, ty3, ty4, ty5, ty9, ty24, ty35, ty41, ty42, ty50, ty67, ty69, ty70, ty71, ty72, ty77, ty78, ty79, ty94, ty97, ty108, List.length_append, List.length_take, List.length_drop, List.length_nil, List.length_cons, List.length_replicate, List.length_set, off, offE] <;> omega))) | (refine cond_t ?hc ?_; case hc => first | rfl | assumption | (rw [decide_eq_true_eq]; omega) | (rw [decide_eq_false_iff_not]; omega) | (simp <;> omega)) | (refine cond_f ?hc ?_; case hc => first | rfl | assumption | (rw [decide_eq_true_eq]; omega) | (rw [decide_eq_false_iff_not]; omega) | (simp <;> omega)) | refine same_i ?_)
          conv => whnf
          refine ⟨⟨q.i + 1, h4⟩, [0], ?_, ?_⟩
          · show 8 - (q.i + 1) < 8 - q.i
            omega
          · repeat ((conv => whnf); first | (refine pre_i ?hc ?_; case hc => first | exact (show planOK _ _ _ = true from by kernel_rfl) | assumption | omega | (unfold fits; omega) | decide +kernel | (constructor <;> first | assumption | omega) | (simp only [off_addO, ty3, ty4, ty5, ty9, ty24, ty35, ty41, ty42, ty50, ty67, ty69, ty70, ty71, ty72, ty77, ty78, ty79, ty94, ty97, ty108, off, offE] <;> omega) | (simp only [List.length_append, List.length_take, List.length_drop, List.length_nil, List.length_cons, List.length_replicate, List.length_set, off_addO, off, offE] <;> omega) | (simp only [off_addO, ty3, ty4, ty5, ty9, ty24, ty35, ty41, ty42, ty50, ty67, ty69, ty70, ty71, ty72, ty77, ty78, ty79, ty94, ty97, ty108, List.length_append, List.length_take, List.length_drop, List.length_nil, List.length_cons, List.length_replicate, List.length_set, off, offE] <;> omega) | (constructor <;> first | assumption | (simp only [off_addO, ty3, ty4, ty5, ty9, ty24, ty35, ty41, ty42, ty50, ty67, ty69, ty70, ty71, ty72, ty77, ty78, ty79, ty94, ty97, ty108, List.length_append, List.length_take, List.length_drop, List.length_nil, List.length_cons, List.length_replicate, List.length_set, off, offE] <;> omega))) | (refine cond_t ?hc ?_; case hc => first | rfl | assumption | (rw [decide_eq_true_eq]; omega) | (rw [decide_eq_false_iff_not]; omega) | (simp <;> omega)) | (refine cond_f ?hc ?_; case hc => first | rfl | assumption | (rw [decide_eq_true_eq]; omega) | (rw [decide_eq_false_iff_not]; omega) | (simp <;> omega)) | refine same_i ?_)
            exact trivial
        · have e4 : q.i = 8 := by omega
          have eb : List.take 32 (List.drop (off []) (fillR (wby x) q.i)) = beB 32 x.toNat := by
            rw [e4, word_val h0 h1]
            exact List.take_of_length_le (Nat.le_of_eq (beB_len 32 _))
          repeat ((conv => whnf); first | (refine pre_i ?hc ?_; case hc => first | exact (show planOK _ _ _ = true from by kernel_rfl) | assumption | omega | (unfold fits; omega) | decide +kernel | (constructor <;> first | assumption | omega) | (simp only [off_addO, ty3, ty4, ty5, ty9, ty24, ty35, ty41, ty42, ty50, ty67, ty69, ty70, ty71, ty72, ty77, ty78, ty79, ty94, ty97, ty108, off, offE] <;> omega) | (simp only [List.length_append, List.length_take, List.length_drop, List.length_nil, List.length_cons, List.length_replicate, List.length_set, off_addO, off, offE] <;> omega) | (simp only [off_addO, ty3, ty4, ty5, ty9, ty24, ty35, ty41, ty42, ty50, ty67, ty69, ty70, ty71, ty72, ty77, ty78, ty79, ty94, ty97, ty108, List.length_append, List.length_take, List.length_drop, List.length_nil, List.length_cons, List.length_replicate, List.length_set, off, offE] <;> omega) | (constructor <;> first | assumption | (simp only [off_addO, ty3, ty4, ty5, ty9, ty24, ty35, ty41, ty42, ty50, ty67, ty69, ty70, ty71, ty72, ty77, ty78, ty79, ty94, ty97, ty108, List.length_append, List.length_take, List.length_drop, List.length_nil, List.length_cons, List.length_replicate, List.length_set, off, offE] <;> omega))) | (refine cond_t ?hc ?_; case hc => first | rfl | assumption | (rw [decide_eq_true_eq]; omega) | (rw [decide_eq_false_iff_not]; omega) | (simp <;> omega)) | (refine cond_f ?hc ?_; case hc => first | rfl | assumption | (rw [decide_eq_true_eq]; omega) | (rw [decide_eq_false_iff_not]; omega) | (simp <;> omega)) | refine same_i ?_)
          conv => whnf
          rw [eb]
          refine final_h (hp' := []) [] h ?_
          repeat ((conv => whnf); first | (refine pre_i ?hc ?_; case hc => first | exact (show planOK _ _ _ = true from by kernel_rfl) | assumption | omega | (unfold fits; omega) | decide +kernel | (constructor <;> first | assumption | omega) | (simp only [off_addO, ty3, ty4, ty5, ty9, ty24, ty35, ty41, ty42, ty50, ty67, ty69, ty70, ty71, ty72, ty77, ty78, ty79, ty94, ty97, ty108, off, offE] <;> omega) | (simp only [List.length_append, List.length_take, List.length_drop, List.length_nil, List.length_cons, List.length_replicate, List.length_set, off_addO, off, offE] <;> omega) | (simp only [off_addO, ty3, ty4, ty5, ty9, ty24, ty35, ty41, ty42, ty50, ty67, ty69, ty70, ty71, ty72, ty77, ty78, ty79, ty94, ty97, ty108, List.length_append, List.length_take, List.length_drop, List.length_nil, List.length_cons, List.length_replicate, List.length_set, off, offE] <;> omega) | (constructor <;> first | assumption | (simp only [off_addO, ty3, ty4, ty5, ty9, ty24, ty35, ty41, ty42, ty50, ty67, ty69, ty70, ty71, ty72, ty77, ty78, ty79, ty94, ty97, ty108, List.length_append, List.length_take, List.length_drop, List.length_nil, List.length_cons, List.length_replicate, List.length_set, off, offE] <;> omega))) | (refine cond_t ?hc ?_; case hc => first | rfl | assumption | (rw [decide_eq_true_eq]; omega) | (rw [decide_eq_false_iff_not]; omega) | (simp <;> omega)) | (refine cond_f ?hc ?_; case hc => first | rfl | assumption | (rw [decide_eq_true_eq]; omega) | (rw [decide_eq_false_iff_not]; omega) | (simp <;> omega)) | refine same_i ?_)
          exact trivial
    · exact h.elim

/-- some number below the modulus -/
def reducedS : Spec := fun args hp K => match args, hp with
  | [.int w, .str s], [] => Pre (0 ≤ w ∧ w ≤ 2) (AllVC fun v : Nat => v < md w → K (.str (beB 32 v)) [])
  | _, _ => False
/-- bytes from the end on -/
def fillE (f : Nat → UInt8) : Nat → List UInt8
  | 0 => List.replicate 32 0
  | i + 1 => (fillE f i).set ((31 : Int) - (i : Int)).toNat (f i)
theorem fillE_len (f : Nat → UInt8) : ∀ i, (fillE f i).length = 32
  | 0 => rfl
  | i + 1 => by simp only [fillE, List.length_set]; exact fillE_len f i
theorem beV_cons : ∀ (n : Nat) (b : UInt8) (t : List UInt8), t.length = n → beV (b :: t) = b.toNat * 256 ^ n + beV t := fun n b t h => by
  have := beV_app n t [b] h
  simp only [List.singleton_append] at this
  rw [this]; simp [beV]
theorem small_top {s : List UInt8} (h : s.length = 32) {w : Int} (hw : 0 ≤ w ∧ w ≤ 2) : beV (s.set 0 0) < md w := by
  cases s with
  | nil => cases h
  | cons b t =>
    have ht : t.length = 31 := by simpa using h
    have hl := beV_lt 31 t ht
    rw [List.set_cons_zero, beV_cons 31 0 t ht]
    have : (256 : Nat) ^ 31 < md w := by rcases w3 hw with rfl | rfl | rfl <;> decide +kernel
    have z : (0 : UInt8).toNat = 0 := rfl
    rw [z]; omega
theorem reduced_s : SoundC prog 31 reducedS := by
  refine sound_f tys_ok (fnok_cons number_s fnok_nil) rfl func31 rfl call31 (D := pl31) ?_ ?_
  · intro args hp K h
    unfold reducedS at h
    split at h
    · exact Nat.le_of_ble_eq_true rfl
    · exact h.elim
  · intro args hp K h
    unfold reducedS at h
    split at h
    · rename_i w s
      obtain ⟨hw, h⟩ := pre_e h
      have h := all_e h
      repeat ((conv => whnf); first | (refine pre_i ?hc ?_; case hc => first | exact (show planOK _ _ _ = true from by kernel_rfl) | assumption | omega | (unfold fits; omega) | decide +kernel | (constructor <;> first | assumption | omega) | (simp only [off_addO, ty3, ty4, ty5, ty9, ty24, ty35, ty41, ty42, ty50, ty67, ty69, ty70, ty71, ty72, ty77, ty78, ty79, ty94, ty97, ty108, off, offE] <;> omega) | (simp only [List.length_append, List.length_take, List.length_drop, List.length_nil, List.length_cons, List.length_replicate, List.length_set, off_addO, off, offE] <;> omega) | (simp only [off_addO, ty3, ty4, ty5, ty9, ty24, ty35, ty41, ty42, ty50, ty67, ty69, ty70, ty71, ty72, ty77, ty78, ty79, ty94, ty97, ty108, List.length_append, List.length_take, List.length_drop, List.length_nil, List.length_cons, List.length_replicate, List.length_set, off, offE] <;> omega) | (constructor <;> first | assumption | (simp only [off_addO, ty3, ty4, ty5, ty9, ty24, ty35, ty41, ty42, ty50, ty67, ty69, ty70, ty71, ty72, ty77, ty78, ty79, ty94, ty97, ty108, List.length_append, List.length_take, List.length_drop, List.length_nil, List.length_cons, List.length_replicate, List.length_set, off, offE] <;> omega))) | (refine cond_t ?hc ?_; case hc => first | rfl | assumption | (rw [decide_eq_true_eq]; omega) | (rw [decide_eq_false_iff_not]; omega) | (simp <;> omega)) | (refine cond_f ?hc ?_; case hc => first | rfl | assumption | (rw [decide_eq_true_eq]; omega) | (rw [decide_eq_false_iff_not]; omega) | (simp <;> omega)) | refine same_i ?_)
      conv => whnf
      refine loop_h (Ix 32) (fun q => ⟨[(0, .int w), (1, .str s), (5, .sl 0 0 0 [] 32 32), (6, .int q.i)], [.mk 5 [.arr8 32 (fillE (fun i => s.getD i 0) q.i)]]⟩)
        (fun q => 32 - q.i) ⟨0, Nat.zero_le _⟩ [0] ?_ ?_
      · repeat ((conv => whnf); first | (refine pre_i ?hc ?_; case hc => first | exact (show planOK _ _ _ = true from by kernel_rfl) | assumption | omega | (unfold fits; omega) | decide +kernel | (constructor <;> first | assumption | omega) | (simp only [off_addO, ty3, ty4, ty5, ty9, ty24, ty35, ty41, ty42, ty50, ty67, ty69, ty70, ty71, ty72, ty77, ty78, ty79, ty94, ty97, ty108, off, offE] <;> omega) | (simp only [List.length_append, List.length_take, List.length_drop, List.length_nil, List.length_cons, List.length_replicate, List.length_set, off_addO, off, offE] <;> omega) | (simp only [off_addO, ty3, ty4, ty5, ty9, ty24, ty35, ty41, ty42, ty50, ty67, ty69, ty70, ty71, ty72, ty77, ty78, ty79, ty94, ty97, ty108, List.length_append, List.length_take, List.length_drop, List.length_nil, List.length_cons, List.length_replicate, List.length_set, off, offE] <;> omega) | (constructor <;> first | assumption | (simp only [off_addO, ty3, ty4, ty5, ty9, ty24, ty35, ty41, ty42, ty50, ty67, ty69, ty70, ty71, ty72, ty77, ty78, ty79, ty94, ty97, ty108, List.length_append, List.length_take, List.length_drop, List.length_nil, List.length_cons, List.length_replicate, List.length_set, off, offE] <;> omega))) | (refine cond_t ?hc ?_; case hc => first | rfl | assumption | (rw [decide_eq_true_eq]; omega) | (rw [decide_eq_false_iff_not]; omega) | (simp <;> omega)) | (refine cond_f ?hc ?_; case hc => first | rfl | assumption | (rw [decide_eq_true_eq]; omega) | (rw [decide_eq_false_iff_not]; omega) | (simp <;> omega)) | refine same_i ?_)
        exact trivial
      · intro q
        have hi := q.hi
        have hl := fillE_len (fun i => s.getD i 0) q.i
        have hI : ((q.i : Int)).toNat = q.i := Int.toNat_natCast _
        by_cases h4 : q.i < 32 ∧ q.i < s.length
        · obtain ⟨h4, h5⟩ := h4
          repeat ((conv => whnf); first | (refine pre_i ?hc ?_; case hc => first | exact (show planOK _ _ _ = true from by kernel_rfl) | assumption | omega | (unfold fits; omega) | decide +kernel | (constructor <;> first | assumption | omega) | (simp only [off_addO, ty3, ty4, ty5, ty9, ty24, ty35, ty41, ty42, ty50, ty67, ty69, ty70, ty71, ty72, ty77, ty78, ty79, ty94, ty97, ty108, off, offE] <;> omega) | (simp only [List.length_append, List.length_take, List.length_drop, List.length_nil, List.length_cons, List.length_replicate, List.length_set, off_addO, off, offE] <;> omega) | (simp only [off_addO, ty3, ty4, ty5, ty9, ty24, ty35, ty41, ty42, ty50, ty67, ty69, ty70, ty71, ty72, ty77, ty78, ty79, ty94, ty97, ty108, List.length_append, List.length_take, List.length_drop, List.length_nil, List.length_cons, List.length_replicate, List.length_set, off, offE] <;> omega) | (constructor <;> first | assumption | (simp only [off_addO, ty3, ty4, ty5, ty9, ty24, ty35, ty41, ty42, ty50, ty67, ty69, ty70, ty71, ty72, ty77, ty78, ty79, ty94, ty97, ty108, List.length_append, List.length_take, List.length_drop, List.length_nil, List.length_cons, List.length_replicate, List.length_set, off, offE] <;> omega))) | (refine cond_t ?hc ?_; case hc => first | rfl | assumption | (rw [decide_eq_true_eq]; omega) | (rw [decide_eq_false_iff_not]; omega) | (simp <;> omega)) | (refine cond_f ?hc ?_; case hc => first | rfl | assumption | (rw [decide_eq_true_eq]; omega) | (rw [decide_eq_false_iff_not]; omega) | (simp <;> omega)) | refine same_i ?_)
          conv => whnf
          refine ⟨⟨q.i + 1, h4⟩, [0], ?_, ?_⟩
          · show 32 - (q.i + 1) < 32 - q.i
            omega
          · repeat ((conv => whnf); first | (refine pre_i ?hc ?_; case hc => first | exact (show planOK _ _ _ = true from by kernel_rfl) | assumption | omega | (unfold fits; omega) | decide +kernel | (constructor <;> first | assumption | omega) | (simp only [off_addO, ty3, ty4, ty5, ty9, ty24, ty35, ty41, ty42, ty50, ty67, ty69, ty70, ty71, ty72, ty77, ty78, ty79, ty94, ty97, ty108, off, offE] <;> omega) | (simp only [List.length_append, List.length_take, List.length_drop, List.length_nil, List.length_cons, List.length_replicate, List.length_set, off_addO, off, offE] <;> omega) | (simp only [off_addO, ty3, ty4, ty5, ty9, ty24, ty35, ty41, ty42, ty50, ty67, ty69, ty70, ty71, ty72, ty77, ty78, ty79, ty94, ty97, ty108, List.length_append, List.length_take, List.length_drop, List.length_nil, List.length_cons, List.length_replicate, List.length_set, off, offE] <;> omega) | (constructor <;> first | assumption | (simp only [off_addO, ty3, ty4, ty5, ty9, ty24, ty35, ty41, ty42, ty50, ty67, ty69, ty70, ty71, ty72, ty77, ty78, ty79, ty94, ty97, ty108, List.length_append, List.length_take, List.length_drop, List.length_nil, List.length_cons, List.length_replicate, List.length_set, off, offE] <;> omega))) | (refine cond_t ?hc ?_; case hc => first | rfl | assumption | (rw [decide_eq_true_eq]; omega) | (rw [decide_eq_false_iff_not]; omega) | (simp <;> omega)) | (refine cond_f ?hc ?_; case hc => first | rfl | assumption | (rw [decide_eq_true_eq]; omega) | (rw [decide_eq_false_iff_not]; omega) | (simp <;> omega)) | refine same_i ?_)
            exact trivial
        · obtain ⟨B, hB⟩ : ∃ B, B = (fillE (fun i => s.getD i 0) q.i).set 0 ((fillE (fun i => s.getD i 0) q.i).getD 0 0 &&& UInt8.ofNat 127) := ⟨_, rfl⟩
          have hBl : B.length = 32 := by rw [hB, List.length_set]; exact hl
          have eB2 : (fillE (fun i => s.getD i 0) q.i).set (off (addO [] (Int.toNat 0) ty5.sz)) ((fillE (fun i => s.getD i 0) q.i).getD (off (addO [] (Int.toNat 0) ty5.sz)) 0 &&& UInt8.ofNat 127) = B := hB.symm
          have eB3 : List.take 32 (List.drop (off []) B) = B := List.take_of_length_le (Nat.le_of_eq hBl)
          have hC : (B.set 0 0).length = 32 := by rw [List.length_set]; exact hBl
          have eC : List.take 32 (List.drop (off []) (B.set 0 0)) = B.set 0 0 := List.take_of_length_le (Nat.le_of_eq hC)
          by_cases h6 : q.i < 32
          all_goals
            repeat ((conv => whnf); first | (refine pre_i ?hc ?_; case hc => first | exact (show planOK _ _ _ = true from by kernel_rfl) | assumption | omega | (unfold fits; omega) | decide +kernel | (constructor <;> first | assumption | omega) | (simp only [off_addO, ty3, ty4, ty5, ty9, ty24, ty35, ty41, ty42, ty50, ty67, ty69, ty70, ty71, ty72, ty77, ty78, ty79, ty94, ty97, ty108, off, offE] <;> omega) | (simp only [List.length_append, List.length_take, List.length_drop, List.length_nil, List.length_cons, List.length_replicate, List.length_set, off_addO, off, offE] <;> omega) | (simp only [off_addO, ty3, ty4, ty5, ty9, ty24, ty35, ty41, ty42, ty50, ty67, ty69, ty70, ty71, ty72, ty77, ty78, ty79, ty94, ty97, ty108, List.length_append, List.length_take, List.length_drop, List.length_nil, List.length_cons, List.length_replicate, List.length_set, off, offE] <;> omega) | (constructor <;> first | assumption | (simp only [off_addO, ty3, ty4, ty5, ty9, ty24, ty35, ty41, ty42, ty50, ty67, ty69, ty70, ty71, ty72, ty77, ty78, ty79, ty94, ty97, ty108, List.length_append, List.length_take, List.length_drop, List.length_nil, List.length_cons, List.length_replicate, List.length_set, off, offE] <;> omega))) | (refine cond_t ?hc ?_; case hc => first | rfl | assumption | (rw [decide_eq_true_eq]; omega) | (rw [decide_eq_false_iff_not]; omega) | (simp <;> omega)) | (refine cond_f ?hc ?_; case hc => first | rfl | assumption | (rw [decide_eq_true_eq]; omega) | (rw [decide_eq_false_iff_not]; omega) | (simp <;> omega)) | refine same_i ?_)
            conv => whnf
            rw [eB2, eB3]
            refine cond_t (by rw [decide_eq_true_eq]; exact ⟨hw, hBl⟩) ?_
            by_cases hlt : beV B < md w
            · have h := h (beV B) hlt
              rw [beB_beV 32 B hBl] at h
              repeat ((conv => whnf); first | (refine pre_i ?hc ?_; case hc => first | exact (show planOK _ _ _ = true from by kernel_rfl) | assumption | omega | (unfold fits; omega) | decide +kernel | (constructor <;> first | assumption | omega) | (simp only [off_addO, ty3, ty4, ty5, ty9, ty24, ty35, ty41, ty42, ty50, ty67, ty69, ty70, ty71, ty72, ty77, ty78, ty79, ty94, ty97, ty108, off, offE] <;> omega) | (simp only [List.length_append, List.length_take, List.length_drop, List.length_nil, List.length_cons, List.length_replicate, List.length_set, off_addO, off, offE] <;> omega) | (simp only [off_addO, ty3, ty4, ty5, ty9, ty24, ty35, ty41, ty42, ty50, ty67, ty69, ty70, ty71, ty72, ty77, ty78, ty79, ty94, ty97, ty108, List.length_append, List.length_take, List.length_drop, List.length_nil, List.length_cons, List.length_replicate, List.length_set, off, offE] <;> omega) | (constructor <;> first | assumption | (simp only [off_addO, ty3, ty4, ty5, ty9, ty24, ty35, ty41, ty42, ty50, ty67, ty69, ty70, ty71, ty72, ty77, ty78, ty79, ty94, ty97, ty108, List.length_append, List.length_take, List.length_drop, List.length_nil, List.length_cons, List.length_replicate, List.length_set, off, offE] <;> omega))) | (refine cond_t ?hc ?_; case hc => first | rfl | assumption | (rw [decide_eq_true_eq]; omega) | (rw [decide_eq_false_iff_not]; omega) | (simp <;> omega)) | (refine cond_f ?hc ?_; case hc => first | rfl | assumption | (rw [decide_eq_true_eq]; omega) | (rw [decide_eq_false_iff_not]; omega) | (simp <;> omega)) | refine same_i ?_)
              conv => whnf
              refine final_h (hp' := []) [] h ?_
              repeat ((conv => whnf); first | (refine pre_i ?hc ?_; case hc => first | exact (show planOK _ _ _ = true from by kernel_rfl) | assumption | omega | (unfold fits; omega) | decide +kernel | (constructor <;> first | assumption | omega) | (simp only [off_addO, ty3, ty4, ty5, ty9, ty24, ty35, ty41, ty42, ty50, ty67, ty69, ty70, ty71, ty72, ty77, ty78, ty79, ty94, ty97, ty108, off, offE] <;> omega) | (simp only [List.length_append, List.length_take, List.length_drop, List.length_nil, List.length_cons, List.length_replicate, List.length_set, off_addO, off, offE] <;> omega) | (simp only [off_addO, ty3, ty4, ty5, ty9, ty24, ty35, ty41, ty42, ty50, ty67, ty69, ty70, ty71, ty72, ty77, ty78, ty79, ty94, ty97, ty108, List.length_append, List.length_take, List.length_drop, List.length_nil, List.length_cons, List.length_replicate, List.length_set, off, offE] <;> omega) | (constructor <;> first | assumption | (simp only [off_addO, ty3, ty4, ty5, ty9, ty24, ty35, ty41, ty42, ty50, ty67, ty69, ty70, ty71, ty72, ty77, ty78, ty79, ty94, ty97, ty108, List.length_append, List.length_take, List.length_drop, List.length_nil, List.length_cons, List.length_replicate, List.length_set, off, offE] <;> omega))) | (refine cond_t ?hc ?_; case hc => first | rfl | assumption | (rw [decide_eq_true_eq]; omega) | (rw [decide_eq_false_iff_not]; omega) | (simp <;> omega)) | (refine cond_f ?hc ?_; case hc => first | rfl | assumption | (rw [decide_eq_true_eq]; omega) | (rw [decide_eq_false_iff_not]; omega) | (simp <;> omega)) | refine same_i ?_)
              conv => whnf
              refine same_q (by rw [eB3]; rfl) ?_
              exact trivial
            · have h := h (beV (B.set 0 0)) (small_top hBl hw)
              rw [beB_beV 32 (B.set 0 0) hC] at h
              repeat ((conv => whnf); first | (refine pre_i ?hc ?_; case hc => first | exact (show planOK _ _ _ = true from by kernel_rfl) | assumption | omega | (unfold fits; omega) | decide +kernel | (constructor <;> first | assumption | omega) | (simp only [off_addO, ty3, ty4, ty5, ty9, ty24, ty35, ty41, ty42, ty50, ty67, ty69, ty70, ty71, ty72, ty77, ty78, ty79, ty94, ty97, ty108, off, offE] <;> omega) | (simp only [List.length_append, List.length_take, List.length_drop, List.length_nil, List.length_cons, List.length_replicate, List.length_set, off_addO, off, offE] <;> omega) | (simp only [off_addO, ty3, ty4, ty5, ty9, ty24, ty35, ty41, ty42, ty50, ty67, ty69, ty70, ty71, ty72, ty77, ty78, ty79, ty94, ty97, ty108, List.length_append, List.length_take, List.length_drop, List.length_nil, List.length_cons, List.length_replicate, List.length_set, off, offE] <;> omega) | (constructor <;> first | assumption | (simp only [off_addO, ty3, ty4, ty5, ty9, ty24, ty35, ty41, ty42, ty50, ty67, ty69, ty70, ty71, ty72, ty77, ty78, ty79, ty94, ty97, ty108, List.length_append, List.length_take, List.length_drop, List.length_nil, List.length_cons, List.length_replicate, List.length_set, off, offE] <;> omega))) | (refine cond_t ?hc ?_; case hc => first | rfl | assumption | (rw [decide_eq_true_eq]; omega) | (rw [decide_eq_false_iff_not]; omega) | (simp <;> omega)) | (refine cond_f ?hc ?_; case hc => first | rfl | assumption | (rw [decide_eq_true_eq]; omega) | (rw [decide_eq_false_iff_not]; omega) | (simp <;> omega)) | refine same_i ?_)
              conv => whnf
              refine final_h (hp' := []) [] h ?_
              repeat ((conv => whnf); first | (refine pre_i ?hc ?_; case hc => first | exact (show planOK _ _ _ = true from by kernel_rfl) | assumption | omega | (unfold fits; omega) | decide +kernel | (constructor <;> first | assumption | omega) | (simp only [off_addO, ty3, ty4, ty5, ty9, ty24, ty35, ty41, ty42, ty50, ty67, ty69, ty70, ty71, ty72, ty77, ty78, ty79, ty94, ty97, ty108, off, offE] <;> omega) | (simp only [List.length_append, List.length_take, List.length_drop, List.length_nil, List.length_cons, List.length_replicate, List.length_set, off_addO, off, offE] <;> omega) | (simp only [off_addO, ty3, ty4, ty5, ty9, ty24, ty35, ty41, ty42, ty50, ty67, ty69, ty70, ty71, ty72, ty77, ty78, ty79, ty94, ty97, ty108, List.length_append, List.length_take, List.length_drop, List.length_nil, List.length_cons, List.length_replicate, List.length_set, off, offE] <;> omega) | (constructor <;> first | assumption | (simp only [off_addO, ty3, ty4, ty5, ty9, ty24, ty35, ty41, ty42, ty50, ty67, ty69, ty70, ty71, ty72, ty77, ty78, ty79, ty94, ty97, ty108, List.length_append, List.length_take, List.length_drop, List.length_nil, List.length_cons, List.length_replicate, List.length_set, off, offE] <;> omega))) | (refine cond_t ?hc ?_; case hc => first | rfl | assumption | (rw [decide_eq_true_eq]; omega) | (rw [decide_eq_false_iff_not]; omega) | (simp <;> omega)) | (refine cond_f ?hc ?_; case hc => first | rfl | assumption | (rw [decide_eq_true_eq]; omega) | (rw [decide_eq_false_iff_not]; omega) | (simp <;> omega)) | refine same_i ?_)
              conv => whnf
              refine same_q (by rw [← eC]; rfl) ?_
              exact trivial
    · exact h.elim
end Go.Sym.N
