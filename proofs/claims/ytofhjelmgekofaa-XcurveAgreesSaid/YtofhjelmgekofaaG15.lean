/-
  Contracts of functions of the program, each said of symbolic values, and plain laws; no condition beyond each statement's own.
-/
import Derived.Test.YtofhjelmgekofaaG14
set_option linter.unusedSimpArgs false
set_option linter.unusedVariables false
namespace Go.Sym.N
open Go Go.Proofs.Try Go.Sym.Num
open Go.Sym.X
set_option maxRecDepth 100000
attribute [local irreducible] md beB beV mo toM clampV topV ladM sharedV nineB

/-- the orders of the drawn regions of halberdlaw10.XcurveAgrees -/
def pl11 : List (Nat × List PStep) := [(3, [⟨0, []⟩, ⟨1, [0]⟩, ⟨2, [1]⟩, ⟨3, []⟩])]

theorem sharedV_nine (A : List UInt8) : sharedV A nineB = ladM (clampV (beV A.reverse)) (toM (md 2) 9) := by
  unfold sharedV
  have e2 : topV (beV nineB.reverse) % md 2 = 9 := by decide +kernel
  rw [e2]
theorem sharedV_own (A B : List UInt8) : sharedV A (beB 32 (sharedV B nineB)).reverse = ladM (clampV (beV A.reverse)) (toM (md 2) (ladM (clampV (beV B.reverse)) (toM (md 2) 9))) := by
  rw [sharedV_nine]
  have hV := ladM_lt (clampV (beV B.reverse)) (toM (md 2) 9)
  generalize ladM (clampV (beV B.reverse)) (toM (md 2) 9) = V at *
  have hm : md 2 = mX := by unfold md; rfl
  unfold sharedV
  rw [List.reverse_reverse, beV_beB]
  have e : (256 ^ 32 : Nat) = 115792089237316195423570985008687907853269984665640564039457584007913129639936 := by decide
  have hT : topV (V % 256 ^ 32) % md 2 = V := by
    rw [hm] at hV ⊢
    unfold mX at *
    rw [e]
    unfold topV
    omega
  rw [hT]
theorem own_n (A : List UInt8) : ¬ sharedV A nineB = 0 := by rw [sharedV_nine]; exact Ed.own_ne _
theorem own_s (A B : List UInt8) : ¬ sharedV A (beB 32 (sharedV B nineB)).reverse = 0 := by rw [sharedV_own]; exact Ed.shared_ne _ _
theorem own_eq (A B : List UInt8) : sharedV A (beB 32 (sharedV B nineB)).reverse = sharedV B (beB 32 (sharedV A nineB)).reverse := by rw [sharedV_own, sharedV_own]; exact Ed.agree _ _
theorem low8 {m : UInt8} (h : m.toNat < 8) (a : UInt8) : (a ^^^ m) &&& UInt8.ofNat 248 = a &&& UInt8.ofNat 248 := by
  have k : ∀ n, n < 8 → ∀ a, a < 256 → (a ^^^ n) &&& 248 = a &&& 248 := by decide +kernel
  apply UInt8.toNat_inj.1
  rw [UInt8.toNat_and, UInt8.toNat_and, UInt8.toNat_xor, show (UInt8.ofNat 248).toNat = 248 by decide]
  exact k _ h _ (by have := a.toNat_lt; simpa using this)
theorem high8 {u v : UInt8} (hu : u = 0 ∨ u = 128) (hv : v = 0 ∨ v = 64) (b : UInt8) : (b ^^^ u ^^^ v) &&& UInt8.ofNat 127 ||| UInt8.ofNat 64 = b &&& UInt8.ofNat 127 ||| UInt8.ofNat 64 := by
  have k : ∀ b, b < 256 → ((b ^^^ 0 ^^^ 0) &&& 127 ||| 64 = b &&& 127 ||| 64 ∧ (b ^^^ 0 ^^^ 64) &&& 127 ||| 64 = b &&& 127 ||| 64 ∧ (b ^^^ 128 ^^^ 0) &&& 127 ||| 64 = b &&& 127 ||| 64 ∧ (b ^^^ 128 ^^^ 64) &&& 127 ||| 64 = b &&& 127 ||| 64) := by decide +kernel
  have hb := k _ (show b.toNat < 256 by have := b.toNat_lt; simpa using this)
  apply UInt8.toNat_inj.1
  rw [UInt8.toNat_or, UInt8.toNat_or, UInt8.toNat_and, UInt8.toNat_and, UInt8.toNat_xor, UInt8.toNat_xor, show (UInt8.ofNat 127).toNat = 127 by decide, show (UInt8.ofNat 64).toNat = 64 by decide]
  rcases hu with rfl | rfl <;> rcases hv with rfl | rfl
  · exact hb.1
  · exact hb.2.1
  · exact hb.2.2.1
  · exact hb.2.2.2
theorem clamp_same {A : List UInt8} (h : A.length = 32) {m u v : UInt8} (hm : m.toNat < 8) (hu : u = 0 ∨ u = 128) (hv : v = 0 ∨ v = 64) :
    clampB ((A.set 0 (A.getD 0 0 ^^^ m)).set 31 ((A.set 0 (A.getD 0 0 ^^^ m)).getD 31 0 ^^^ u ^^^ v)) = clampB A := by
  obtain ⟨a, t, rfl⟩ : ∃ a t, A = a :: t := by
    match A, h with
    | a :: t, _ => exact ⟨a, t, rfl⟩
  obtain ⟨n, b, rfl⟩ := snoc_of t (by simp at h; omega)
  have hn : n.length = 30 := by simpa using h
  have e : ∀ c, (n ++ [c]).getD 30 0 = c := fun c => by
    rw [List.getD_eq_getElem?_getD, List.getElem?_append_right (by omega), hn]; rfl
  have es : ∀ c c', (n ++ [c]).set 30 c' = n ++ [c'] := fun c c' => by
    rw [List.set_append_right _ _ (by omega), hn]; rfl
  unfold clampB
  simp only [List.set_cons_zero, List.getD_cons_zero, List.getD_cons_succ, List.set_cons_succ, e, es]
  rw [low8 hm, high8 hu hv]
theorem shared_same {A A' : List UInt8} (h : A.length = 32) (h' : A'.length = 32) (hc : clampB A' = clampB A) : sharedV A' nineB = sharedV A nineB := by
  unfold sharedV
  rw [← clamp_val h, ← clamp_val h', hc]
theorem xcurveAgrees_vc (w : World) (x y : List UInt8) (z : Int) :
    fnVC (lawG f11.ntmps tys lawFnX w []) pl11 (codeOf f11) f11.results.toList [.str x, .str y, .int z] [] (fun r _ => r = .bool true) := by
  repeat ((conv => whnf); first | (refine pre_i ?hc ?_; case hc => first | exact (show planOK _ _ _ = true from by kernel_rfl) | assumption | omega | (unfold fits; omega) | decide +kernel | (constructor <;> first | assumption | omega) | (simp only [off_addO, tysz, off, offE] <;> omega) | (simp only [lens, off_addO, off, offE] <;> omega) | (simp only [off_addO, tysz, lens, off, offE] <;> omega) | (constructor <;> first | assumption | (simp only [off_addO, tysz, lens, off, offE] <;> omega))) | (refine cond_t ?hc ?_; case hc => first | rfl | assumption | (rw [decide_eq_true_eq]; omega) | (rw [decide_eq_false_iff_not]; omega) | (simp <;> omega)) | (refine cond_f ?hc ?_; case hc => first | rfl | assumption | (rw [decide_eq_true_eq]; omega) | (rw [decide_eq_false_iff_not]; omega) | (simp <;> omega)) | refine same_i ?_)
  conv => whnf
  refine loop_h (Ix 32) (fun q => ⟨[(0, .str x), (1, .str y), (2, .int z), (7, .sl 0 0 0 [] 32 32), (8, .sl 1 0 0 [] 32 32), (9, .int q.i)],
    [.mk 5 [.arr8 32 (cpSt x q.i)], .mk 5 [.arr8 32 (cpSt y q.i)]]⟩)
    (fun q => 32 - q.i) ⟨0, Nat.zero_le _⟩ [0, 1] ?_ ?_
  · repeat ((conv => whnf); first | (refine pre_i ?hc ?_; case hc => first | exact (show planOK _ _ _ = true from by kernel_rfl) | assumption | omega | (unfold fits; omega) | decide +kernel | (constructor <;> first | assumption | omega) | (simp only [off_addO, tysz, off, offE] <;> omega) | (simp only [lens, off_addO, off, offE] <;> omega) | (simp only [off_addO, tysz, lens, off, offE] <;> omega) | (constructor <;> first | assumption | (simp only [off_addO, tysz, lens, off, offE] <;> omega))) | (refine cond_t ?hc ?_; case hc => first | rfl | assumption | (rw [decide_eq_true_eq]; omega) | (rw [decide_eq_false_iff_not]; omega) | (simp <;> omega)) | (refine cond_f ?hc ?_; case hc => first | rfl | assumption | (rw [decide_eq_true_eq]; omega) | (rw [decide_eq_false_iff_not]; omega) | (simp <;> omega)) | refine same_i ?_)
    exact trivial
  · intro q
    have hi := q.hi
    have hlx := cpSt_len x q.i
    have hly := cpSt_len y q.i
    have hI : ((q.i : Int)).toNat = q.i := Int.toNat_natCast _
    by_cases h4 : q.i < 32
    · by_cases h1 : q.i < x.length
      · by_cases h2 : q.i < y.length
        · repeat ((conv => whnf); first | (refine pre_i ?hc ?_; case hc => first | exact (show planOK _ _ _ = true from by kernel_rfl) | assumption | omega | (unfold fits; omega) | decide +kernel | (constructor <;> first | assumption | omega) | (simp only [off_addO, tysz, off, offE] <;> omega) | (simp only [lens, off_addO, off, offE] <;> omega) | (simp only [off_addO, tysz, lens, off, offE] <;> omega) | (constructor <;> first | assumption | (simp only [off_addO, tysz, lens, off, offE] <;> omega))) | (refine cond_t ?hc ?_; case hc => first | rfl | assumption | (rw [decide_eq_true_eq]; omega) | (rw [decide_eq_false_iff_not]; omega) | (simp <;> omega)) | (refine cond_f ?hc ?_; case hc => first | rfl | assumption | (rw [decide_eq_true_eq]; omega) | (rw [decide_eq_false_iff_not]; omega) | (simp <;> omega)) | refine same_i ?_)
          conv => whnf
          refine ⟨⟨q.i + 1, h4⟩, [0, 1], ?_, ?_⟩
          · show 32 - (q.i + 1) < 32 - q.i
            omega
          · repeat ((conv => whnf); first | (refine pre_i ?hc ?_; case hc => first | exact (show planOK _ _ _ = true from by kernel_rfl) | assumption | omega | (unfold fits; omega) | decide +kernel | (constructor <;> first | assumption | omega) | (simp only [off_addO, tysz, off, offE] <;> omega) | (simp only [lens, off_addO, off, offE] <;> omega) | (simp only [off_addO, tysz, lens, off, offE] <;> omega) | (constructor <;> first | assumption | (simp only [off_addO, tysz, lens, off, offE] <;> omega))) | (refine cond_t ?hc ?_; case hc => first | rfl | assumption | (rw [decide_eq_true_eq]; omega) | (rw [decide_eq_false_iff_not]; omega) | (simp <;> omega)) | (refine cond_f ?hc ?_; case hc => first | rfl | assumption | (rw [decide_eq_true_eq]; omega) | (rw [decide_eq_false_iff_not]; omega) | (simp <;> omega)) | refine same_i ?_)
            conv => whnf
            refine same_q (by rw [cpSt_t h1]; rfl) ?_
            repeat ((conv => whnf); first | (refine pre_i ?hc ?_; case hc => first | exact (show planOK _ _ _ = true from by kernel_rfl) | assumption | omega | (unfold fits; omega) | decide +kernel | (constructor <;> first | assumption | omega) | (simp only [off_addO, tysz, off, offE] <;> omega) | (simp only [lens, off_addO, off, offE] <;> omega) | (simp only [off_addO, tysz, lens, off, offE] <;> omega) | (constructor <;> first | assumption | (simp only [off_addO, tysz, lens, off, offE] <;> omega))) | (refine cond_t ?hc ?_; case hc => first | rfl | assumption | (rw [decide_eq_true_eq]; omega) | (rw [decide_eq_false_iff_not]; omega) | (simp <;> omega)) | (refine cond_f ?hc ?_; case hc => first | rfl | assumption | (rw [decide_eq_true_eq]; omega) | (rw [decide_eq_false_iff_not]; omega) | (simp <;> omega)) | refine same_i ?_)
            conv => whnf
            refine same_q (by rw [cpSt_t h2]; rfl) ?_
            repeat ((conv => whnf); first | (refine pre_i ?hc ?_; case hc => first | exact (show planOK _ _ _ = true from by kernel_rfl) | assumption | omega | (unfold fits; omega) | decide +kernel | (constructor <;> first | assumption | omega) | (simp only [off_addO, tysz, off, offE] <;> omega) | (simp only [lens, off_addO, off, offE] <;> omega) | (simp only [off_addO, tysz, lens, off, offE] <;> omega) | (constructor <;> first | assumption | (simp only [off_addO, tysz, lens, off, offE] <;> omega))) | (refine cond_t ?hc ?_; case hc => first | rfl | assumption | (rw [decide_eq_true_eq]; omega) | (rw [decide_eq_false_iff_not]; omega) | (simp <;> omega)) | (refine cond_f ?hc ?_; case hc => first | rfl | assumption | (rw [decide_eq_true_eq]; omega) | (rw [decide_eq_false_iff_not]; omega) | (simp <;> omega)) | refine same_i ?_)
            exact trivial
        · repeat ((conv => whnf); first | (refine pre_i ?hc ?_; case hc => first | exact (show planOK _ _ _ = true from by kernel_rfl) | assumption | omega | (unfold fits; omega) | decide +kernel | (constructor <;> first | assumption | omega) | (simp only [off_addO, tysz, off, offE] <;> omega) | (simp only [lens, off_addO, off, offE] <;> omega) | (simp only [off_addO, tysz, lens, off, offE] <;> omega) | (constructor <;> first | assumption | (simp only [off_addO, tysz, lens, off, offE] <;> omega))) | (refine cond_t ?hc ?_; case hc => first | rfl | assumption | (rw [decide_eq_true_eq]; omega) | (rw [decide_eq_false_iff_not]; omega) | (simp <;> omega)) | (refine cond_f ?hc ?_; case hc => first | rfl | assumption | (rw [decide_eq_true_eq]; omega) | (rw [decide_eq_false_iff_not]; omega) | (simp <;> omega)) | refine same_i ?_)
          conv => whnf
          refine ⟨⟨q.i + 1, h4⟩, [0, 1], ?_, ?_⟩
          · show 32 - (q.i + 1) < 32 - q.i
            omega
          · repeat ((conv => whnf); first | (refine pre_i ?hc ?_; case hc => first | exact (show planOK _ _ _ = true from by kernel_rfl) | assumption | omega | (unfold fits; omega) | decide +kernel | (constructor <;> first | assumption | omega) | (simp only [off_addO, tysz, off, offE] <;> omega) | (simp only [lens, off_addO, off, offE] <;> omega) | (simp only [off_addO, tysz, lens, off, offE] <;> omega) | (constructor <;> first | assumption | (simp only [off_addO, tysz, lens, off, offE] <;> omega))) | (refine cond_t ?hc ?_; case hc => first | rfl | assumption | (rw [decide_eq_true_eq]; omega) | (rw [decide_eq_false_iff_not]; omega) | (simp <;> omega)) | (refine cond_f ?hc ?_; case hc => first | rfl | assumption | (rw [decide_eq_true_eq]; omega) | (rw [decide_eq_false_iff_not]; omega) | (simp <;> omega)) | refine same_i ?_)
            conv => whnf
            refine same_q (by rw [cpSt_t h1]; rfl) ?_
            repeat ((conv => whnf); first | (refine pre_i ?hc ?_; case hc => first | exact (show planOK _ _ _ = true from by kernel_rfl) | assumption | omega | (unfold fits; omega) | decide +kernel | (constructor <;> first | assumption | omega) | (simp only [off_addO, tysz, off, offE] <;> omega) | (simp only [lens, off_addO, off, offE] <;> omega) | (simp only [off_addO, tysz, lens, off, offE] <;> omega) | (constructor <;> first | assumption | (simp only [off_addO, tysz, lens, off, offE] <;> omega))) | (refine cond_t ?hc ?_; case hc => first | rfl | assumption | (rw [decide_eq_true_eq]; omega) | (rw [decide_eq_false_iff_not]; omega) | (simp <;> omega)) | (refine cond_f ?hc ?_; case hc => first | rfl | assumption | (rw [decide_eq_true_eq]; omega) | (rw [decide_eq_false_iff_not]; omega) | (simp <;> omega)) | refine same_i ?_)
            conv => whnf
            refine same_q (by rw [cpSt_f h2]; rfl) ?_
            repeat ((conv => whnf); first | (refine pre_i ?hc ?_; case hc => first | exact (show planOK _ _ _ = true from by kernel_rfl) | assumption | omega | (unfold fits; omega) | decide +kernel | (constructor <;> first | assumption | omega) | (simp only [off_addO, tysz, off, offE] <;> omega) | (simp only [lens, off_addO, off, offE] <;> omega) | (simp only [off_addO, tysz, lens, off, offE] <;> omega) | (constructor <;> first | assumption | (simp only [off_addO, tysz, lens, off, offE] <;> omega))) | (refine cond_t ?hc ?_; case hc => first | rfl | assumption | (rw [decide_eq_true_eq]; omega) | (rw [decide_eq_false_iff_not]; omega) | (simp <;> omega)) | (refine cond_f ?hc ?_; case hc => first | rfl | assumption | (rw [decide_eq_true_eq]; omega) | (rw [decide_eq_false_iff_not]; omega) | (simp <;> omega)) | refine same_i ?_)
            exact trivial
      · by_cases h2 : q.i < y.length
        · repeat ((conv => whnf); first | (refine pre_i ?hc ?_; case hc => first | exact (show planOK _ _ _ = true from by kernel_rfl) | assumption | omega | (unfold fits; omega) | decide +kernel | (constructor <;> first | assumption | omega) | (simp only [off_addO, tysz, off, offE] <;> omega) | (simp only [lens, off_addO, off, offE] <;> omega) | (simp only [off_addO, tysz, lens, off, offE] <;> omega) | (constructor <;> first | assumption | (simp only [off_addO, tysz, lens, off, offE] <;> omega))) | (refine cond_t ?hc ?_; case hc => first | rfl | assumption | (rw [decide_eq_true_eq]; omega) | (rw [decide_eq_false_iff_not]; omega) | (simp <;> omega)) | (refine cond_f ?hc ?_; case hc => first | rfl | assumption | (rw [decide_eq_true_eq]; omega) | (rw [decide_eq_false_iff_not]; omega) | (simp <;> omega)) | refine same_i ?_)
          conv => whnf
          refine ⟨⟨q.i + 1, h4⟩, [0, 1], ?_, ?_⟩
          · show 32 - (q.i + 1) < 32 - q.i
            omega
          · repeat ((conv => whnf); first | (refine pre_i ?hc ?_; case hc => first | exact (show planOK _ _ _ = true from by kernel_rfl) | assumption | omega | (unfold fits; omega) | decide +kernel | (constructor <;> first | assumption | omega) | (simp only [off_addO, tysz, off, offE] <;> omega) | (simp only [lens, off_addO, off, offE] <;> omega) | (simp only [off_addO, tysz, lens, off, offE] <;> omega) | (constructor <;> first | assumption | (simp only [off_addO, tysz, lens, off, offE] <;> omega))) | (refine cond_t ?hc ?_; case hc => first | rfl | assumption | (rw [decide_eq_true_eq]; omega) | (rw [decide_eq_false_iff_not]; omega) | (simp <;> omega)) | (refine cond_f ?hc ?_; case hc => first | rfl | assumption | (rw [decide_eq_true_eq]; omega) | (rw [decide_eq_false_iff_not]; omega) | (simp <;> omega)) | refine same_i ?_)
            conv => whnf
            refine same_q (by rw [cpSt_f h1]; rfl) ?_
            repeat ((conv => whnf); first | (refine pre_i ?hc ?_; case hc => first | exact (show planOK _ _ _ = true from by kernel_rfl) | assumption | omega | (unfold fits; omega) | decide +kernel | (constructor <;> first | assumption | omega) | (simp only [off_addO, tysz, off, offE] <;> omega) | (simp only [lens, off_addO, off, offE] <;> omega) | (simp only [off_addO, tysz, lens, off, offE] <;> omega) | (constructor <;> first | assumption | (simp only [off_addO, tysz, lens, off, offE] <;> omega))) | (refine cond_t ?hc ?_; case hc => first | rfl | assumption | (rw [decide_eq_true_eq]; omega) | (rw [decide_eq_false_iff_not]; omega) | (simp <;> omega)) | (refine cond_f ?hc ?_; case hc => first | rfl | assumption | (rw [decide_eq_true_eq]; omega) | (rw [decide_eq_false_iff_not]; omega) | (simp <;> omega)) | refine same_i ?_)
            conv => whnf
            refine same_q (by rw [cpSt_t h2]; rfl) ?_
            repeat ((conv => whnf); first | (refine pre_i ?hc ?_; case hc => first | exact (show planOK _ _ _ = true from by kernel_rfl) | assumption | omega | (unfold fits; omega) | decide +kernel | (constructor <;> first | assumption | omega) | (simp only [off_addO, tysz, off, offE] <;> omega) | (simp only [lens, off_addO, off, offE] <;> omega) | (simp only [off_addO, tysz, lens, off, offE] <;> omega) | (constructor <;> first | assumption | (simp only [off_addO, tysz, lens, off, offE] <;> omega))) | (refine cond_t ?hc ?_; case hc => first | rfl | assumption | (rw [decide_eq_true_eq]; omega) | (rw [decide_eq_false_iff_not]; omega) | (simp <;> omega)) | (refine cond_f ?hc ?_; case hc => first | rfl | assumption | (rw [decide_eq_true_eq]; omega) | (rw [decide_eq_false_iff_not]; omega) | (simp <;> omega)) | refine same_i ?_)
            exact trivial
        · repeat ((conv => whnf); first | (refine pre_i ?hc ?_; case hc => first | exact (show planOK _ _ _ = true from by kernel_rfl) | assumption | omega | (unfold fits; omega) | decide +kernel | (constructor <;> first | assumption | omega) | (simp only [off_addO, tysz, off, offE] <;> omega) | (simp only [lens, off_addO, off, offE] <;> omega) | (simp only [off_addO, tysz, lens, off, offE] <;> omega) | (constructor <;> first | assumption | (simp only [off_addO, tysz, lens, off, offE] <;> omega))) | (refine cond_t ?hc ?_; case hc => first | rfl | assumption | (rw [decide_eq_true_eq]; omega) | (rw [decide_eq_false_iff_not]; omega) | (simp <;> omega)) | (refine cond_f ?hc ?_; case hc => first | rfl | assumption | (rw [decide_eq_true_eq]; omega) | (rw [decide_eq_false_iff_not]; omega) | (simp <;> omega)) | refine same_i ?_)
          conv => whnf
          refine ⟨⟨q.i + 1, h4⟩, [0, 1], ?_, ?_⟩
          · show 32 - (q.i + 1) < 32 - q.i
            omega
          · repeat ((conv => whnf); first | (refine pre_i ?hc ?_; case hc => first | exact (show planOK _ _ _ = true from by kernel_rfl) | assumption | omega | (unfold fits; omega) | decide +kernel | (constructor <;> first | assumption | omega) | (simp only [off_addO, tysz, off, offE] <;> omega) | (simp only [lens, off_addO, off, offE] <;> omega) | (simp only [off_addO, tysz, lens, off, offE] <;> omega) | (constructor <;> first | assumption | (simp only [off_addO, tysz, lens, off, offE] <;> omega))) | (refine cond_t ?hc ?_; case hc => first | rfl | assumption | (rw [decide_eq_true_eq]; omega) | (rw [decide_eq_false_iff_not]; omega) | (simp <;> omega)) | (refine cond_f ?hc ?_; case hc => first | rfl | assumption | (rw [decide_eq_true_eq]; omega) | (rw [decide_eq_false_iff_not]; omega) | (simp <;> omega)) | refine same_i ?_)
            conv => whnf
            refine same_q (by rw [cpSt_f h1]; rfl) ?_
            repeat ((conv => whnf); first | (refine pre_i ?hc ?_; case hc => first | exact (show planOK _ _ _ = true from by kernel_rfl) | assumption | omega | (unfold fits; omega) | decide +kernel | (constructor <;> first | assumption | omega) | (simp only [off_addO, tysz, off, offE] <;> omega) | (simp only [lens, off_addO, off, offE] <;> omega) | (simp only [off_addO, tysz, lens, off, offE] <;> omega) | (constructor <;> first | assumption | (simp only [off_addO, tysz, lens, off, offE] <;> omega))) | (refine cond_t ?hc ?_; case hc => first | rfl | assumption | (rw [decide_eq_true_eq]; omega) | (rw [decide_eq_false_iff_not]; omega) | (simp <;> omega)) | (refine cond_f ?hc ?_; case hc => first | rfl | assumption | (rw [decide_eq_true_eq]; omega) | (rw [decide_eq_false_iff_not]; omega) | (simp <;> omega)) | refine same_i ?_)
            conv => whnf
            refine same_q (by rw [cpSt_f h2]; rfl) ?_
            repeat ((conv => whnf); first | (refine pre_i ?hc ?_; case hc => first | exact (show planOK _ _ _ = true from by kernel_rfl) | assumption | omega | (unfold fits; omega) | decide +kernel | (constructor <;> first | assumption | omega) | (simp only [off_addO, tysz, off, offE] <;> omega) | (simp only [lens, off_addO, off, offE] <;> omega) | (simp only [off_addO, tysz, lens, off, offE] <;> omega) | (constructor <;> first | assumption | (simp only [off_addO, tysz, lens, off, offE] <;> omega))) | (refine cond_t ?hc ?_; case hc => first | rfl | assumption | (rw [decide_eq_true_eq]; omega) | (rw [decide_eq_false_iff_not]; omega) | (simp <;> omega)) | (refine cond_f ?hc ?_; case hc => first | rfl | assumption | (rw [decide_eq_true_eq]; omega) | (rw [decide_eq_false_iff_not]; omega) | (simp <;> omega)) | refine same_i ?_)
            exact trivial
    · have e4 : q.i = 32 := by omega
      rw [e4] at hlx hly
      have ta : List.take 32 (List.drop (off []) (cpSt x 32)) = cpSt x 32 := List.take_of_length_le (Nat.le_of_eq hlx)
      have tb : List.take 32 (List.drop (off []) (cpSt y 32)) = cpSt y 32 := List.take_of_length_le (Nat.le_of_eq hly)
      rw [e4]
      generalize cpSt x 32 = A at *
      generalize cpSt y 32 = B at *
      have n1 : decide (sharedV A nineB = 0) = false := decide_eq_false (own_n A)
      have n2 : decide (sharedV B nineB = 0) = false := decide_eq_false (own_n B)
      have n3 : decide (sharedV A (beB 32 (sharedV B nineB)).reverse = 0) = false := decide_eq_false (own_s A B)
      have n4 : decide (sharedV B (beB 32 (sharedV A nineB)).reverse = 0) = false := decide_eq_false (own_s B A)
      have l1 : decide (A.length = 32) = true := decide_eq_true hlx
      have l2 : decide (B.length = 32) = true := decide_eq_true hly
      have l3 : decide (A.length = 32 ∧ (beB 32 (sharedV B nineB)).reverse.length = 32) = true := decide_eq_true ⟨hlx, by rw [List.length_reverse, beB_len]⟩
      have l4 : decide (B.length = 32 ∧ (beB 32 (sharedV A nineB)).reverse.length = 32) = true := decide_eq_true ⟨hly, by rw [List.length_reverse, beB_len]⟩
      repeat ((conv => whnf); first | (refine pre_i ?hc ?_; case hc => first | exact (show planOK _ _ _ = true from by kernel_rfl) | assumption | omega | (unfold fits; omega) | decide +kernel | (constructor <;> first | assumption | omega) | (simp only [off_addO, tysz, off, offE] <;> omega) | (simp only [lens, off_addO, off, offE] <;> omega) | (simp only [off_addO, tysz, lens, off, offE] <;> omega) | (constructor <;> first | assumption | (simp only [off_addO, tysz, lens, off, offE] <;> omega))) | (refine cond_t ?hc ?_; case hc => first | rfl | assumption | (rw [decide_eq_true_eq]; omega) | (rw [decide_eq_false_iff_not]; omega) | (simp <;> omega)) | (refine cond_f ?hc ?_; case hc => first | rfl | assumption | (rw [decide_eq_true_eq]; omega) | (rw [decide_eq_false_iff_not]; omega) | (simp <;> omega)) | refine same_i ?_)
      conv => whnf
      rw [ta]
      repeat ((conv => whnf); first | (refine pre_i ?hc ?_; case hc => first | exact (show planOK _ _ _ = true from by kernel_rfl) | assumption | omega | (unfold fits; omega) | decide +kernel | (constructor <;> first | assumption | omega) | (simp only [off_addO, tysz, off, offE] <;> omega) | (simp only [lens, off_addO, off, offE] <;> omega) | (simp only [off_addO, tysz, lens, off, offE] <;> omega) | (constructor <;> first | assumption | (simp only [off_addO, tysz, lens, off, offE] <;> omega))) | (refine cond_t ?hc ?_; case hc => first | rfl | assumption | (rw [decide_eq_true_eq]; omega) | (rw [decide_eq_false_iff_not]; omega) | (simp <;> omega) | exact l1 | exact n1) | (refine cond_f ?hc ?_; case hc => first | rfl | assumption | (rw [decide_eq_true_eq]; omega) | (rw [decide_eq_false_iff_not]; omega) | (simp <;> omega) | exact l1 | exact n1) | refine same_i ?_)
      conv => whnf
      rw [tb]
      repeat ((conv => whnf); first | (refine pre_i ?hc ?_; case hc => first | exact (show planOK _ _ _ = true from by kernel_rfl) | assumption | omega | (unfold fits; omega) | decide +kernel | (constructor <;> first | assumption | omega) | (simp only [off_addO, tysz, off, offE] <;> omega) | (simp only [lens, off_addO, off, offE] <;> omega) | (simp only [off_addO, tysz, lens, off, offE] <;> omega) | (constructor <;> first | assumption | (simp only [off_addO, tysz, lens, off, offE] <;> omega))) | (refine cond_t ?hc ?_; case hc => first | rfl | assumption | (rw [decide_eq_true_eq]; omega) | (rw [decide_eq_false_iff_not]; omega) | (simp <;> omega) | exact l2 | exact n2) | (refine cond_f ?hc ?_; case hc => first | rfl | assumption | (rw [decide_eq_true_eq]; omega) | (rw [decide_eq_false_iff_not]; omega) | (simp <;> omega) | exact l2 | exact n2) | refine same_i ?_)
      conv => whnf
      rw [ta]
      repeat ((conv => whnf); first | (refine pre_i ?hc ?_; case hc => first | exact (show planOK _ _ _ = true from by kernel_rfl) | assumption | omega | (unfold fits; omega) | decide +kernel | (constructor <;> first | assumption | omega) | (simp only [off_addO, tysz, off, offE] <;> omega) | (simp only [lens, off_addO, off, offE] <;> omega) | (simp only [off_addO, tysz, lens, off, offE] <;> omega) | (constructor <;> first | assumption | (simp only [off_addO, tysz, lens, off, offE] <;> omega))) | (refine cond_t ?hc ?_; case hc => first | rfl | assumption | (rw [decide_eq_true_eq]; omega) | (rw [decide_eq_false_iff_not]; omega) | (simp <;> omega) | exact l3 | exact n3) | (refine cond_f ?hc ?_; case hc => first | rfl | assumption | (rw [decide_eq_true_eq]; omega) | (rw [decide_eq_false_iff_not]; omega) | (simp <;> omega) | exact l3 | exact n3) | refine same_i ?_)
      conv => whnf
      rw [tb]
      repeat ((conv => whnf); first | (refine pre_i ?hc ?_; case hc => first | exact (show planOK _ _ _ = true from by kernel_rfl) | assumption | omega | (unfold fits; omega) | decide +kernel | (constructor <;> first | assumption | omega) | (simp only [off_addO, tysz, off, offE] <;> omega) | (simp only [lens, off_addO, off, offE] <;> omega) | (simp only [off_addO, tysz, lens, off, offE] <;> omega) | (constructor <;> first | assumption | (simp only [off_addO, tysz, lens, off, offE] <;> omega))) | (refine cond_t ?hc ?_; case hc => first | rfl | assumption | (rw [decide_eq_true_eq]; omega) | (rw [decide_eq_false_iff_not]; omega) | (simp <;> omega) | exact l4 | exact n4) | (refine cond_f ?hc ?_; case hc => first | rfl | assumption | (rw [decide_eq_true_eq]; omega) | (rw [decide_eq_false_iff_not]; omega) | (simp <;> omega) | exact l4 | exact n4) | refine same_i ?_)
      conv => whnf
      have b7 := ibits_and (a := z) (m := 7) (by decide) (by decide)
      have b1 := ibits_and (a := z / 2 ^ (UInt64.ofNat 3).toNat) (m := 1) (by decide) (by decide)
      have b2 := ibits_and (a := z / 2 ^ (UInt64.ofNat 4).toNat) (m := 1) (by decide) (by decide)
      obtain ⟨m, hm⟩ : ∃ m, m = UInt8.ofInt (ibits .and z 7) := ⟨_, rfl⟩
      obtain ⟨u, hu⟩ : ∃ u, u = UInt8.ofInt (ibits .and (z / 2 ^ (UInt64.ofNat 3).toNat) 1) <<< UInt8.ofNat (UInt64.ofNat 7).toNat := ⟨_, rfl⟩
      obtain ⟨v, hv⟩ : ∃ v, v = UInt8.ofInt (ibits .and (z / 2 ^ (UInt64.ofNat 4).toNat) 1) <<< UInt8.ofNat (UInt64.ofNat 6).toNat := ⟨_, rfl⟩
      have km : m.toNat < 8 := by
        have k : ∀ n : Nat, n < 8 → (UInt8.ofInt ((n : Nat) : Int)).toNat < 8 := by decide +kernel
        have := k (ibits .and z 7).toNat (by omega)
        rw [Int.toNat_of_nonneg (by omega)] at this
        rw [hm]; exact this
      have ku : u = 0 ∨ u = 128 := by
        rw [hu]
        obtain e | e : ibits .and (z / 2 ^ (UInt64.ofNat 3).toNat) 1 = 0 ∨ ibits .and (z / 2 ^ (UInt64.ofNat 3).toNat) 1 = 1 := by omega
        · rw [e]; left; decide +kernel
        · rw [e]; right; decide +kernel
      have kv : v = 0 ∨ v = 64 := by
        rw [hv]
        obtain e | e : ibits .and (z / 2 ^ (UInt64.ofNat 4).toNat) 1 = 0 ∨ ibits .and (z / 2 ^ (UInt64.ofNat 4).toNat) 1 = 1 := by omega
        · rw [e]; left; decide +kernel
        · rw [e]; right; decide +kernel
      obtain ⟨A', hA'⟩ : ∃ A', A' = (A.set 0 (A.getD 0 0 ^^^ m)).set 31 ((A.set 0 (A.getD 0 0 ^^^ m)).getD 31 0 ^^^ u ^^^ v) := ⟨_, rfl⟩
      have hlA : A'.length = 32 := by rw [hA', List.length_set, List.length_set]; exact hlx
      have tA : List.take 32 (List.drop (off []) ((A.set (off (addO [] (Int.toNat 0) ty5.sz)) (A.getD (off (addO [] (Int.toNat 0) ty5.sz)) 0 ^^^ UInt8.ofInt (ibits .and z 7))).set (off (addO [] (Int.toNat 31) ty5.sz)) ((A.set (off (addO [] (Int.toNat 0) ty5.sz)) (A.getD (off (addO [] (Int.toNat 0) ty5.sz)) 0 ^^^ UInt8.ofInt (ibits .and z 7))).getD (off (addO [] (Int.toNat 31) ty5.sz)) 0 ^^^ UInt8.ofInt (ibits .and (z / 2 ^ (UInt64.ofNat 3).toNat) 1) <<< UInt8.ofNat (UInt64.ofNat 7).toNat ^^^ UInt8.ofInt (ibits .and (z / 2 ^ (UInt64.ofNat 4).toNat) 1) <<< UInt8.ofNat (UInt64.ofNat 6).toNat))) = A' := by
        rw [← hm, ← hu, ← hv, hA']
        exact List.take_of_length_le (by rw [List.length_drop, List.length_set, List.length_set, hlx]; decide)
      have hS : sharedV A' nineB = sharedV A nineB := shared_same hlx hlA (by rw [hA']; exact clamp_same hlx km ku kv)
      have l5 : decide (A'.length = 32) = true := decide_eq_true hlA
      have n5 : decide (sharedV A' nineB = 0) = false := by rw [hS]; exact n1
      have d6 : decide ((beB 32 (sharedV A (beB 32 (sharedV B nineB)).reverse)).reverse = (beB 32 (sharedV B (beB 32 (sharedV A nineB)).reverse)).reverse) = true := decide_eq_true (by rw [own_eq])
      have d7 : decide ((beB 32 (sharedV A' nineB)).reverse = (beB 32 (sharedV A nineB)).reverse) = true := decide_eq_true (by rw [hS])
      rw [tA]
      repeat ((conv => whnf); first | (refine pre_i ?hc ?_; case hc => first | exact (show planOK _ _ _ = true from by kernel_rfl) | assumption | omega | (unfold fits; omega) | decide +kernel | (constructor <;> first | assumption | omega) | (simp only [off_addO, tysz, off, offE] <;> omega) | (simp only [lens, off_addO, off, offE] <;> omega) | (simp only [off_addO, tysz, lens, off, offE] <;> omega) | (constructor <;> first | assumption | (simp only [off_addO, tysz, lens, off, offE] <;> omega))) | (refine cond_t ?hc ?_; case hc => first | rfl | assumption | (rw [decide_eq_true_eq]; omega) | (rw [decide_eq_false_iff_not]; omega) | (simp <;> omega) | exact l5 | exact n5 | exact d6 | (rw [d6]; rfl) | exact d7 | (rw [d7]; rfl)) | (refine cond_f ?hc ?_; case hc => first | rfl | assumption | (rw [decide_eq_true_eq]; omega) | (rw [decide_eq_false_iff_not]; omega) | (simp <;> omega) | exact l5 | exact n5 | exact d6 | (rw [d6]; rfl) | exact d7 | (rw [d7]; rfl)) | refine same_i ?_)
      conv => whnf
      rw [d7]
      refine final_h (hp' := []) [] rfl ?_
      repeat ((conv => whnf); first | (refine pre_i ?hc ?_; case hc => first | exact (show planOK _ _ _ = true from by kernel_rfl) | assumption | omega | (unfold fits; omega) | decide +kernel | (constructor <;> first | assumption | omega) | (simp only [off_addO, tysz, off, offE] <;> omega) | (simp only [lens, off_addO, off, offE] <;> omega) | (simp only [off_addO, tysz, lens, off, offE] <;> omega) | (constructor <;> first | assumption | (simp only [off_addO, tysz, lens, off, offE] <;> omega))) | (refine cond_t ?hc ?_; case hc => first | rfl | assumption | (rw [decide_eq_true_eq]; omega) | (rw [decide_eq_false_iff_not]; omega) | (simp <;> omega)) | (refine cond_f ?hc ?_; case hc => first | rfl | assumption | (rw [decide_eq_true_eq]; omega) | (rw [decide_eq_false_iff_not]; omega) | (simp <;> omega)) | refine same_i ?_)
      exact trivial
theorem xcurveAgrees_end (w : World) (x : List UInt8) (_ : x.length ≤ 140737488351232) (y : List UInt8) (_ : y.length ≤ 140737488351232) (z : Int) (_ : -9223372036854775808 ≤ z ∧ z ≤ 9223372036854775807) :
    fnVC (lawG f11.ntmps tys lawFnX w []) pl11 (codeOf f11) f11.results.toList [.str x, .str y, .int z] [] (fun r _ => r = .bool true) := xcurveAgrees_vc w x y z
end Go.Sym.N
