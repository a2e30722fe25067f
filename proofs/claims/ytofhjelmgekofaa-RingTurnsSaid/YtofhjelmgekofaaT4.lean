/-
  Contracts of functions of the program, each said of symbolic values; no condition beyond each statement's own.
-/
import Derived.Test.YtofhjelmgekofaaT3
namespace Go.Sym.R
open Go Go.Proofs.Try Go.Sym.Ring
set_option maxRecDepth 100000

theorem same_q {v u : SV} {p : Prop} (e : v = u) (h : p) : Same v u p := by subst e; exact same_i h
theorem slO_le (m a : Nat) : slO m a ≤ a := by unfold slO; split <;> omega
theorem slO_eq {m a : Nat} (h : m ≠ a) : slO m a = a := by unfold slO; rw [if_neg h]
theorem tmod_nat {x : Int} {n : Nat} (h : 0 ≤ x) : (x.tmod n).toNat = x.toNat % n := by
  obtain ⟨k, rfl⟩ := Int.eq_ofNat_of_zero_le h
  rw [← Int.ofNat_tmod]; exact Int.toNat_natCast _

/-- the bytes that two parts are -/
theorem parts_one {l : List UInt8} {n : Nat} {b h a k : Int} (hl : l.length = n) (hb : 0 ≤ b) (hb' : b < n) (hh : 0 ≤ h) (hh' : h ≤ n) (ha : 0 ≤ a) (hk : 0 ≤ k) (hak : k ≤ h - a) (hp : (b + a).tmod n + k ≤ n) :
    (l.drop (off [(slO ((b + a).tmod n + k).toNat ((b + a).tmod n).toNat, 1)])).take (((b + a).tmod n + k).toNat - ((b + a).tmod n).toNat) = ((content l b.toNat h.toNat).drop a.toNat).take k.toNat := by
  have hm0 : 0 ≤ (b + a).tmod n := Int.tmod_nonneg _ (by omega)
  have e0 : ((b + a).tmod n).toNat = (b.toNat + a.toNat) % n := by rw [tmod_nat (by omega)]; congr 1; omega
  have e1 : ((b + a).tmod n + k).toNat - ((b + a).tmod n).toNat = k.toNat := by omega
  rw [e1]
  by_cases h0 : k = 0
  · subst h0; simp
  · rw [slO_eq (by omega), e0]
    simp only [off, offE, Nat.add_zero]
    subst hl
    exact peek_one (by omega) (by omega) (by omega) (by omega)
theorem parts_two {l : List UInt8} {n : Nat} {b h a k : Int} (hl : l.length = n) (hb : 0 ≤ b) (hb' : b < n) (hh : 0 ≤ h) (hh' : h ≤ n) (ha : 0 ≤ a) (hk : 0 ≤ k) (hak : k ≤ h - a) (hp : ¬ (b + a).tmod n + k ≤ n) :
    (l.drop (off [(slO n ((b + a).tmod n).toNat, 1)])).take (n - ((b + a).tmod n).toNat) ++ (l.drop (off [])).take (k - n + (b + a).tmod n).toNat = ((content l b.toNat h.toNat).drop a.toNat).take k.toNat := by
  have hm0 : 0 ≤ (b + a).tmod n := Int.tmod_nonneg _ (by omega)
  have hm1 : (b + a).tmod n < n := Int.tmod_lt_of_pos _ (by omega)
  have e0 : ((b + a).tmod n).toNat = (b.toNat + a.toNat) % n := by rw [tmod_nat (by omega)]; congr 1; omega
  have e1 : (k - n + (b + a).tmod n).toNat = k.toNat - (n - ((b + a).tmod n).toNat) := by omega
  rw [e1, slO_eq (by omega), e0]
  simp only [off, offE, Nat.add_zero, List.drop_zero]
  subst hl
  exact peek_two (by omega) (by omega) (by omega) (by omega)

def peekS : Spec := fun args hp K => match args, hp with
  | [.nilptr, .int a, .int k], [] => K (.tup [.str [], .int 1]) []
  | [.ptr 0 0 0 [], .int a, .int k], [.mk t [.sl 1 0 0 [] n c, .int b, .int h], .mk u [.arr8 m l]] =>
    Pre (ringOK n c m l b h) (CondVC (decide (0 ≤ a ∧ 0 ≤ k ∧ a ≤ h ∧ k ≤ h - a))
      (K (.tup [.str (((content l b.toNat h.toNat).drop a.toNat).take k.toNat), .int 0]) [.mk t [.sl 1 0 0 [] n c, .int b, .int h], .mk u [.arr8 m l]])
      (K (.tup [.str [], .int 2200]) [.mk t [.sl 1 0 0 [] n c, .int b, .int h], .mk u [.arr8 m l]]))
  | _, _ => False

theorem peek_s : SoundC prog 19 peekS := by
  refine sound_f tys_ok (fnok_cons may_s (fnok_cons parts_s fnok_nil)) rfl func19 rfl call19 (D := []) ?_ ?_
  · intro args hp K h
    unfold peekS at h
    split at h
    · exact Nat.le_of_ble_eq_true rfl
    · exact Nat.le_of_ble_eq_true rfl
    · exact h.elim
  · intro args hp K h
    unfold peekS at h
    split at h
    · repeat ((conv => whnf); first | (refine pre_i ?hc ?_; case hc => first | assumption | omega | (unfold fits; omega) | decide +kernel | (constructor <;> first | assumption | omega) | (simp only [off_addO, ty3, ty4, ty5, ty9, ty23, ty24, ty35, ty63, ty71, ty79, off, offE] <;> omega) | (simp only [List.length_append, List.length_take, List.length_drop, List.length_nil, List.length_cons, List.length_replicate, List.length_set, off_addO, off, offE] <;> omega)) | (refine cond_t ?hc ?_; case hc => first | rfl | assumption | (rw [decide_eq_true_eq]; omega) | (rw [decide_eq_false_iff_not]; omega) | (simp <;> omega)) | (refine cond_f ?hc ?_; case hc => first | rfl | assumption | (rw [decide_eq_true_eq]; omega) | (rw [decide_eq_false_iff_not]; omega) | (simp <;> omega)) | refine same_i ?_)
      refine final_h [] h ?_
      repeat ((conv => whnf); first | (refine pre_i ?hc ?_; case hc => first | assumption | omega | (unfold fits; omega) | decide +kernel | (constructor <;> first | assumption | omega) | (simp only [off_addO, ty3, ty4, ty5, ty9, ty23, ty24, ty35, ty63, ty71, ty79, off, offE] <;> omega) | (simp only [List.length_append, List.length_take, List.length_drop, List.length_nil, List.length_cons, List.length_replicate, List.length_set, off_addO, off, offE] <;> omega)) | (refine cond_t ?hc ?_; case hc => first | rfl | assumption | (rw [decide_eq_true_eq]; omega) | (rw [decide_eq_false_iff_not]; omega) | (simp <;> omega)) | (refine cond_f ?hc ?_; case hc => first | rfl | assumption | (rw [decide_eq_true_eq]; omega) | (rw [decide_eq_false_iff_not]; omega) | (simp <;> omega)) | refine same_i ?_)
      exact trivial
    · rename_i a k t n c b hh u m l
      obtain ⟨h0', h⟩ := pre_e h
      have h0 := h0'
      unfold ringOK at h0
      obtain ⟨ht, hf⟩ := cond_e h
      repeat ((conv => whnf); first | (refine pre_i ?hc ?_; case hc => first | assumption | omega | (unfold fits; omega) | decide +kernel | (constructor <;> first | assumption | omega) | (simp only [off_addO, ty3, ty4, ty5, ty9, ty23, ty24, ty35, ty63, ty71, ty79, off, offE] <;> omega) | (simp only [List.length_append, List.length_take, List.length_drop, List.length_nil, List.length_cons, List.length_replicate, List.length_set, off_addO, off, offE] <;> omega)) | (refine cond_t ?hc ?_; case hc => first | rfl | assumption | (rw [decide_eq_true_eq]; omega) | (rw [decide_eq_false_iff_not]; omega) | (simp <;> omega)) | (refine cond_f ?hc ?_; case hc => first | rfl | assumption | (rw [decide_eq_true_eq]; omega) | (rw [decide_eq_false_iff_not]; omega) | (simp <;> omega)) | refine same_i ?_)
      refine cond_i (fun hc => ?_) (fun hc => ?_)
      · have ht := ht hc
        rw [decide_eq_true_eq] at hc
        repeat ((conv => whnf); first | (refine pre_i ?hc ?_; case hc => first | assumption | omega | (unfold fits; omega) | decide +kernel | (constructor <;> first | assumption | omega) | (simp only [off_addO, ty3, ty4, ty5, ty9, ty23, ty24, ty35, ty63, ty71, ty79, off, offE] <;> omega) | (simp only [List.length_append, List.length_take, List.length_drop, List.length_nil, List.length_cons, List.length_replicate, List.length_set, off_addO, off, offE] <;> omega)) | (refine cond_t ?hc ?_; case hc => first | rfl | assumption | (rw [decide_eq_true_eq]; omega) | (rw [decide_eq_false_iff_not]; omega) | (simp <;> omega)) | (refine cond_f ?hc ?_; case hc => first | rfl | assumption | (rw [decide_eq_true_eq]; omega) | (rw [decide_eq_false_iff_not]; omega) | (simp <;> omega)) | refine same_i ?_)
        have hm0 : 0 ≤ (b + a).tmod n := Int.tmod_nonneg _ (by omega)
        have hm1 : (b + a).tmod n < n := Int.tmod_lt_of_pos _ (by omega)
        refine cond_i (fun hd => ?_) (fun hd => ?_)
        · rw [decide_eq_true_eq] at hd
          have hs := slO_le ((b + a).tmod n + k).toNat ((b + a).tmod n).toNat
          repeat ((conv => whnf); first | (refine pre_i ?hc ?_; case hc => first | assumption | omega | (unfold fits; omega) | decide +kernel | (constructor <;> first | assumption | omega) | (simp only [off_addO, ty3, ty4, ty5, ty9, ty23, ty24, ty35, ty63, ty71, ty79, off, offE] <;> omega) | (simp only [List.length_append, List.length_take, List.length_drop, List.length_nil, List.length_cons, List.length_replicate, List.length_set, off_addO, off, offE] <;> omega)) | (refine cond_t ?hc ?_; case hc => first | rfl | assumption | (rw [decide_eq_true_eq]; omega) | (rw [decide_eq_false_iff_not]; omega) | (simp <;> omega)) | (refine cond_f ?hc ?_; case hc => first | rfl | assumption | (rw [decide_eq_true_eq]; omega) | (rw [decide_eq_false_iff_not]; omega) | (simp <;> omega)) | refine same_i ?_)
          refine final_h [0, 1] ht ?_
          repeat ((conv => whnf); first | (refine pre_i ?hc ?_; case hc => first | assumption | omega | (unfold fits; omega) | decide +kernel | (constructor <;> first | assumption | omega) | (simp only [off_addO, ty3, ty4, ty5, ty9, ty23, ty24, ty35, ty63, ty71, ty79, off, offE] <;> omega) | (simp only [List.length_append, List.length_take, List.length_drop, List.length_nil, List.length_cons, List.length_replicate, List.length_set, off_addO, off, offE] <;> omega)) | (refine cond_t ?hc ?_; case hc => first | rfl | assumption | (rw [decide_eq_true_eq]; omega) | (rw [decide_eq_false_iff_not]; omega) | (simp <;> omega)) | (refine cond_f ?hc ?_; case hc => first | rfl | assumption | (rw [decide_eq_true_eq]; omega) | (rw [decide_eq_false_iff_not]; omega) | (simp <;> omega)) | refine same_i ?_)
          conv => whnf
          refine same_q (by rw [parts_one (n := n) (h := hh) (by omega) (by omega) (by omega) (by omega) (by omega) (by omega) (by omega) (by omega) hd, List.append_nil]; rfl) ?_
          repeat ((conv => whnf); first | (refine pre_i ?hc ?_; case hc => first | assumption | omega | (unfold fits; omega) | decide +kernel | (constructor <;> first | assumption | omega) | (simp only [off_addO, ty3, ty4, ty5, ty9, ty23, ty24, ty35, ty63, ty71, ty79, off, offE] <;> omega) | (simp only [List.length_append, List.length_take, List.length_drop, List.length_nil, List.length_cons, List.length_replicate, List.length_set, off_addO, off, offE] <;> omega)) | (refine cond_t ?hc ?_; case hc => first | rfl | assumption | (rw [decide_eq_true_eq]; omega) | (rw [decide_eq_false_iff_not]; omega) | (simp <;> omega)) | (refine cond_f ?hc ?_; case hc => first | rfl | assumption | (rw [decide_eq_true_eq]; omega) | (rw [decide_eq_false_iff_not]; omega) | (simp <;> omega)) | refine same_i ?_)
          exact trivial
        · rw [decide_eq_false_iff_not] at hd
          have hs := slO_le c ((b + a).tmod n).toNat
          have hcn : c = n := by omega
          subst hcn
          repeat ((conv => whnf); first | (refine pre_i ?hc ?_; case hc => first | assumption | omega | (unfold fits; omega) | decide +kernel | (constructor <;> first | assumption | omega) | (simp only [off_addO, ty3, ty4, ty5, ty9, ty23, ty24, ty35, ty63, ty71, ty79, off, offE] <;> omega) | (simp only [List.length_append, List.length_take, List.length_drop, List.length_nil, List.length_cons, List.length_replicate, List.length_set, off_addO, off, offE] <;> omega)) | (refine cond_t ?hc ?_; case hc => first | rfl | assumption | (rw [decide_eq_true_eq]; omega) | (rw [decide_eq_false_iff_not]; omega) | (simp <;> omega)) | (refine cond_f ?hc ?_; case hc => first | rfl | assumption | (rw [decide_eq_true_eq]; omega) | (rw [decide_eq_false_iff_not]; omega) | (simp <;> omega)) | refine same_i ?_)
          refine final_h [0, 1] ht ?_
          repeat ((conv => whnf); first | (refine pre_i ?hc ?_; case hc => first | assumption | omega | (unfold fits; omega) | decide +kernel | (constructor <;> first | assumption | omega) | (simp only [off_addO, ty3, ty4, ty5, ty9, ty23, ty24, ty35, ty63, ty71, ty79, off, offE] <;> omega) | (simp only [List.length_append, List.length_take, List.length_drop, List.length_nil, List.length_cons, List.length_replicate, List.length_set, off_addO, off, offE] <;> omega)) | (refine cond_t ?hc ?_; case hc => first | rfl | assumption | (rw [decide_eq_true_eq]; omega) | (rw [decide_eq_false_iff_not]; omega) | (simp <;> omega)) | (refine cond_f ?hc ?_; case hc => first | rfl | assumption | (rw [decide_eq_true_eq]; omega) | (rw [decide_eq_false_iff_not]; omega) | (simp <;> omega)) | refine same_i ?_)
          conv => whnf
          refine same_q (by rw [parts_two (h := hh) (by omega) (by omega) (by omega) (by omega) (by omega) (by omega) (by omega) (by omega) hd]; rfl) ?_
          repeat ((conv => whnf); first | (refine pre_i ?hc ?_; case hc => first | assumption | omega | (unfold fits; omega) | decide +kernel | (constructor <;> first | assumption | omega) | (simp only [off_addO, ty3, ty4, ty5, ty9, ty23, ty24, ty35, ty63, ty71, ty79, off, offE] <;> omega) | (simp only [List.length_append, List.length_take, List.length_drop, List.length_nil, List.length_cons, List.length_replicate, List.length_set, off_addO, off, offE] <;> omega)) | (refine cond_t ?hc ?_; case hc => first | rfl | assumption | (rw [decide_eq_true_eq]; omega) | (rw [decide_eq_false_iff_not]; omega) | (simp <;> omega)) | (refine cond_f ?hc ?_; case hc => first | rfl | assumption | (rw [decide_eq_true_eq]; omega) | (rw [decide_eq_false_iff_not]; omega) | (simp <;> omega)) | refine same_i ?_)
          exact trivial
      · have hf := hf hc
        repeat ((conv => whnf); first | (refine pre_i ?hc ?_; case hc => first | assumption | omega | (unfold fits; omega) | decide +kernel | (constructor <;> first | assumption | omega) | (simp only [off_addO, ty3, ty4, ty5, ty9, ty23, ty24, ty35, ty63, ty71, ty79, off, offE] <;> omega) | (simp only [List.length_append, List.length_take, List.length_drop, List.length_nil, List.length_cons, List.length_replicate, List.length_set, off_addO, off, offE] <;> omega)) | (refine cond_t ?hc ?_; case hc => first | rfl | assumption | (rw [decide_eq_true_eq]; omega) | (rw [decide_eq_false_iff_not]; omega) | (simp <;> omega)) | (refine cond_f ?hc ?_; case hc => first | rfl | assumption | (rw [decide_eq_true_eq]; omega) | (rw [decide_eq_false_iff_not]; omega) | (simp <;> omega)) | refine same_i ?_)
        refine final_h [0, 1] hf ?_
        repeat ((conv => whnf); first | (refine pre_i ?hc ?_; case hc => first | assumption | omega | (unfold fits; omega) | decide +kernel | (constructor <;> first | assumption | omega) | (simp only [off_addO, ty3, ty4, ty5, ty9, ty23, ty24, ty35, ty63, ty71, ty79, off, offE] <;> omega) | (simp only [List.length_append, List.length_take, List.length_drop, List.length_nil, List.length_cons, List.length_replicate, List.length_set, off_addO, off, offE] <;> omega)) | (refine cond_t ?hc ?_; case hc => first | rfl | assumption | (rw [decide_eq_true_eq]; omega) | (rw [decide_eq_false_iff_not]; omega) | (simp <;> omega)) | (refine cond_f ?hc ?_; case hc => first | rfl | assumption | (rw [decide_eq_true_eq]; omega) | (rw [decide_eq_false_iff_not]; omega) | (simp <;> omega)) | refine same_i ?_)
        exact trivial
    · exact h.elim
end Go.Sym.R
