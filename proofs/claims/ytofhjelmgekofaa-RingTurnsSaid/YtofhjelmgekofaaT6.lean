/-
  Contracts of functions of the program, each said of symbolic values; no condition beyond each statement's own.
-/
import Derived.Test.YtofhjelmgekofaaT5
namespace Go.Sym.R
open Go Go.Proofs.Try Go.Sym.Ring
set_option maxRecDepth 100000

def putS : Spec := fun args hp K => match args, hp with
  | [.nilptr, .str s], [] => K (.int 0) []
  | [.ptr 0 0 0 [], .str s], [.mk t [.sl 1 0 0 [] n c, .int b, .int h], .mk u [.arr8 m l]] =>
    Pre (ringOK n c m l b h) (AllVC fun l' : List UInt8 => (l'.length = n ∧ content l' b.toNat (h + min (s.length : Int) (n - h)).toNat = content l b.toNat h.toNat ++ s.take (min (s.length : Int) (n - h)).toNat) →
      K (.int (min (s.length : Int) (n - h))) [.mk t [.sl 1 0 0 [] n c, .int b, .int (h + min (s.length : Int) (n - h))], .mk u [.arr8 m l']])
  | _, _ => False

/-- the orders of the drawn regions of ring.Ring).Put -/
def pl17 : List (Nat × List PStep) := [(4, [⟨0, []⟩, ⟨1, [0]⟩, ⟨2, [0]⟩, ⟨3, [0]⟩, ⟨4, [0]⟩, ⟨5, [0, 1, 2, 3, 4]⟩, ⟨6, [0, 1, 2, 3, 4]⟩, ⟨7, [0, 1, 2, 3, 4]⟩, ⟨8, [0, 1, 2, 3, 4]⟩, ⟨9, [0]⟩, ⟨10, [0, 1, 2, 3, 4, 5, 6, 7, 8, 9]⟩, ⟨11, []⟩, ⟨12, []⟩, ⟨13, []⟩, ⟨14, [13]⟩, ⟨15, [14]⟩, ⟨16, []⟩])]

theorem splice_len {α : Type} {l m : List α} {i : Nat} (h : i + m.length ≤ l.length) : (splice l i m).length = l.length := by
  simp [splice]; omega
theorem splice_get {α : Type} {l m : List α} {i : Nat} (h : i + m.length ≤ l.length) (j : Nat) : (splice l i m)[j]? = if i ≤ j ∧ j < i + m.length then m[j - i]? else l[j]? := by
  unfold splice
  by_cases h1 : j < i
  · rw [if_neg (by omega), List.append_assoc, List.getElem?_append_left (by simp; omega), List.getElem?_take, if_pos h1]
  · by_cases h2 : j < i + m.length
    · rw [if_pos (by omega), List.getElem?_append_left (by simp; omega), List.getElem?_append_right (by simp; omega)]
      congr 1; simp <;> omega
    · rw [if_neg (by omega), List.getElem?_append_right (by simp; omega), List.getElem?_drop]
      congr 1; simp <;> omega
theorem put_one {l s : List UInt8} {n : Nat} {b h k : Int} (hl : l.length = n) (hb : 0 ≤ b) (hb' : b < n) (hh : 0 ≤ h) (hh' : h ≤ n) (hk : 0 ≤ k) (hks : k ≤ s.length) (hkn : k ≤ n - h) (hp : (b + h).tmod n + k ≤ n) :
    (splice l (off [(slO ((b + h).tmod n + k).toNat ((b + h).tmod n).toNat, 1)]) (List.take (min (List.take k.toNat s).length (((b + h).tmod n + k).toNat - ((b + h).tmod n).toNat)) (List.take k.toNat s))).length = n ∧
    content (splice l (off [(slO ((b + h).tmod n + k).toNat ((b + h).tmod n).toNat, 1)]) (List.take (min (List.take k.toNat s).length (((b + h).tmod n + k).toNat - ((b + h).tmod n).toNat)) (List.take k.toNat s))) b.toNat (h + k).toNat = content l b.toNat h.toNat ++ s.take k.toNat := by
  have hm0 : 0 ≤ (b + h).tmod n := Int.tmod_nonneg _ (by omega)
  have hm1 : (b + h).tmod n < n := Int.tmod_lt_of_pos _ (by omega)
  have e0 : ((b + h).tmod n).toNat = (b.toNat + h.toNat) % n := by rw [tmod_nat (by omega)]; congr 1; omega
  have e1 : ((b + h).tmod n + k).toNat - ((b + h).tmod n).toNat = k.toNat := by omega
  have e2 : (h + k).toNat = h.toNat + (s.take k.toNat).length := by simp; omega
  have e3 : List.take (min (List.take k.toNat s).length k.toNat) (List.take k.toNat s) = s.take k.toNat := by
    rw [List.take_of_length_le]; simp <;> omega
  rw [e1, e3, e2]
  by_cases h0 : k = 0
  · subst h0
    simp only [Int.toNat_zero, List.take_zero, List.append_nil, List.length_nil, Nat.add_zero]
    have : splice l (off [(slO ((b + h).tmod n + 0).toNat ((b + h).tmod n).toNat, 1)]) [] = l := by simp [splice]
    rw [this]; exact ⟨hl, rfl⟩
  · rw [slO_eq (by omega), e0]
    have hoff : off [((b.toNat + h.toNat) % n, 1)] = (b.toNat + h.toNat) % n := by simp [off, offE]
    rw [hoff]
    have hlen : (s.take k.toNat).length = k.toNat := by simp; omega
    have hfit : (b.toNat + h.toNat) % n + (s.take k.toNat).length ≤ l.length := by omega
    refine ⟨by rw [splice_len hfit, hl], ?_⟩
    subst hl
    refine put_get (by omega) (by omega) (splice_len hfit) fun i hi => ?_
    rw [splice_get hfit]
    have hpl := place (n := l.length) (b := b.toNat) (a := h.toNat) (by omega) (by omega)
    generalize (b.toNat + h.toNat) % l.length = p at *
    by_cases hpi : p ≤ i
    · have : (i + l.length - p) % l.length = i - p := by rw [Nat.mod_eq_sub_mod (by omega), Nat.mod_eq_of_lt (by omega)]; omega
      rw [this]
      by_cases h3 : i < p + (s.take k.toNat).length
      · rw [if_pos ⟨hpi, h3⟩, if_pos (by omega)]
      · rw [if_neg (by omega), if_neg (by omega)]
    · have : (i + l.length - p) % l.length = i + l.length - p := Nat.mod_eq_of_lt (by omega)
      rw [this, if_neg (by omega), if_neg (by omega)]
theorem put_two_len {l s : List UInt8} {n : Nat} {b h k : Int} (hl : l.length = n) (hb : 0 ≤ b) (hb' : b < n) (hh : 0 ≤ h) (hh' : h ≤ n) (hk : 0 ≤ k) (hks : k ≤ s.length) (hkn : k ≤ n - h) (hp : ¬ (b + h).tmod n + k ≤ n) :
    off [] + min (List.take (k.toNat - ((min (List.take k.toNat s).length (n - ((b + h).tmod n).toNat) : Nat) : Int).toNat) (List.drop ((min (List.take k.toNat s).length (n - ((b + h).tmod n).toNat) : Nat) : Int).toNat s)).length (k - n + (b + h).tmod n).toNat ≤
      (splice l (off [(slO n ((b + h).tmod n).toNat, 1)]) (List.take (min (List.take k.toNat s).length (n - ((b + h).tmod n).toNat)) (List.take k.toNat s))).length := by
  have hm0 : 0 ≤ (b + h).tmod n := Int.tmod_nonneg _ (by omega)
  have hm1 : (b + h).tmod n < n := Int.tmod_lt_of_pos _ (by omega)
  rw [splice_len]
  · simp only [off, List.length_take, List.length_drop]; omega
  · rw [slO_eq (by omega)]
    simp only [off, offE, List.length_take]; omega

theorem put_two {l s : List UInt8} {n : Nat} {b h k : Int} (hl : l.length = n) (hb : 0 ≤ b) (hb' : b < n) (hh : 0 ≤ h) (hh' : h ≤ n) (hk : 0 ≤ k) (hks : k ≤ s.length) (hkn : k ≤ n - h) (hp : ¬ (b + h).tmod n + k ≤ n) :
    (splice (splice l (off [(slO n ((b + h).tmod n).toNat, 1)]) (List.take (min (List.take k.toNat s).length (n - ((b + h).tmod n).toNat)) (List.take k.toNat s))) (off []) (List.take (min (List.take (k.toNat - ((min (List.take k.toNat s).length (n - ((b + h).tmod n).toNat) : Nat) : Int).toNat) (List.drop ((min (List.take k.toNat s).length (n - ((b + h).tmod n).toNat) : Nat) : Int).toNat s)).length (k - n + (b + h).tmod n).toNat) (List.take (k.toNat - ((min (List.take k.toNat s).length (n - ((b + h).tmod n).toNat) : Nat) : Int).toNat) (List.drop ((min (List.take k.toNat s).length (n - ((b + h).tmod n).toNat) : Nat) : Int).toNat s)))).length = n ∧ content (splice (splice l (off [(slO n ((b + h).tmod n).toNat, 1)]) (List.take (min (List.take k.toNat s).length (n - ((b + h).tmod n).toNat)) (List.take k.toNat s))) (off []) (List.take (min (List.take (k.toNat - ((min (List.take k.toNat s).length (n - ((b + h).tmod n).toNat) : Nat) : Int).toNat) (List.drop ((min (List.take k.toNat s).length (n - ((b + h).tmod n).toNat) : Nat) : Int).toNat s)).length (k - n + (b + h).tmod n).toNat) (List.take (k.toNat - ((min (List.take k.toNat s).length (n - ((b + h).tmod n).toNat) : Nat) : Int).toNat) (List.drop ((min (List.take k.toNat s).length (n - ((b + h).tmod n).toNat) : Nat) : Int).toNat s)))) b.toNat (h + k).toNat = content l b.toNat h.toNat ++ s.take k.toNat := by
  have hm0 : 0 ≤ (b + h).tmod n := Int.tmod_nonneg _ (by omega)
  have hm1 : (b + h).tmod n < n := Int.tmod_lt_of_pos _ (by omega)
  have e0 : ((b + h).tmod n).toNat = (b.toNat + h.toNat) % n := by rw [tmod_nat (by omega)]; congr 1; omega
  have hpp : (b.toNat + h.toNat) % n < n := Nat.mod_lt _ (by omega)
  have hpk : n < (b.toNat + h.toNat) % n + k.toNat := by omega
  have e5 : (k - n + (b + h).tmod n).toNat = k.toNat - (n - (b.toNat + h.toNat) % n) := by omega
  have e2 : (h + k).toNat = h.toNat + (s.take k.toNat).length := by simp; omega
  rw [e5, slO_eq (by omega), e0, e2]
  have hoff : off [((b.toNat + h.toNat) % n, 1)] = (b.toNat + h.toNat) % n := by simp [off, offE]
  have hpl := place (n := n) (b := b.toNat) (a := h.toNat) (by omega) (by omega)
  have hks' : k.toNat ≤ s.length := by omega
  have hkn' : k.toNat ≤ n - h.toNat := by omega
  have hhn : h.toNat ≤ n := by omega
  have hbn : b.toNat < n := by omega
  rw [hoff]
  generalize k.toNat = k' at *
  generalize h.toNat = h' at *
  generalize b.toNat = b' at *
  have e3 : (min (List.take k' s).length (n - (b' + h') % n)) = n - (b' + h') % n := by simp; omega
  rw [e3]
  have e4 : ((n - (b' + h') % n : Nat) : Int).toNat = n - (b' + h') % n := Int.toNat_natCast _
  rw [e4]
  have e6 : off [] = 0 := rfl
  rw [e6]
  generalize hq : (b' + h') % n = p at *
  have f1 : (List.take (n - p) (List.take k' s)).length = n - p := by simp; omega
  have f2 : (List.take (min (List.take (k' - (n - p)) (List.drop (n - p) s)).length (k' - (n - p))) (List.take (k' - (n - p)) (List.drop (n - p) s))).length = k' - (n - p) := by simp; omega
  have g1 : p + (List.take (n - p) (List.take k' s)).length ≤ l.length := by omega
  have g2 : 0 + (List.take (min (List.take (k' - (n - p)) (List.drop (n - p) s)).length (k' - (n - p))) (List.take (k' - (n - p)) (List.drop (n - p) s))).length ≤ (splice l p (List.take (n - p) (List.take k' s))).length := by
    rw [splice_len g1]; omega
  have hlen : (s.take k').length = k' := by simp; omega
  refine ⟨by rw [splice_len g2, splice_len g1, hl], ?_⟩
  subst hl
  refine put_get (by omega) (by omega) (by rw [splice_len g2, splice_len g1]) fun i hi => ?_
  rw [hq, splice_get g2, splice_get g1, f1, f2, hlen]
  by_cases hpi : p ≤ i
  · have : (i + l.length - p) % l.length = i - p := by rw [Nat.mod_eq_sub_mod (by omega), Nat.mod_eq_of_lt (by omega)]; omega
    rw [this, if_neg (by omega), if_pos (by omega), if_pos (by omega), List.getElem?_take, if_pos (by omega)]
  · have : (i + l.length - p) % l.length = i + l.length - p := Nat.mod_eq_of_lt (by omega)
    rw [this]
    by_cases h3 : i < k' - (l.length - p)
    · rw [if_pos (by omega), if_pos (by omega), List.getElem?_take, if_pos (by simp; omega), List.getElem?_take, if_pos (by omega), List.getElem?_drop, List.getElem?_take, if_pos (by omega)]
      congr 1; omega
    · rw [if_neg (by omega), if_neg (by omega), if_neg (by omega)]

theorem put_s : SoundC prog 17 putS := by
  refine sound_f tys_ok (fnok_cons parts_s (fnok_cons room_s fnok_nil)) rfl func17 rfl call17 (D := pl17) ?_ ?_
  · intro args hp K h
    unfold putS at h
    split at h
    · exact Nat.le_of_ble_eq_true rfl
    · exact Nat.le_of_ble_eq_true rfl
    · exact h.elim
  · intro args hp K h
    unfold putS at h
    split at h
    · repeat ((conv => whnf); first | (refine pre_i ?hc ?_; case hc => first | assumption | omega | (unfold fits; omega) | decide +kernel | (constructor <;> first | assumption | omega) | (simp only [off_addO, ty3, ty4, ty5, ty9, ty23, ty24, ty35, ty63, ty71, ty79, off, offE] <;> omega) | (simp only [List.length_append, List.length_take, List.length_drop, List.length_nil, List.length_cons, List.length_replicate, List.length_set, off_addO, off, offE] <;> omega)) | (refine cond_t ?hc ?_; case hc => first | rfl | assumption | (rw [decide_eq_true_eq]; omega) | (rw [decide_eq_false_iff_not]; omega) | (simp <;> omega)) | (refine cond_f ?hc ?_; case hc => first | rfl | assumption | (rw [decide_eq_true_eq]; omega) | (rw [decide_eq_false_iff_not]; omega) | (simp <;> omega)) | refine same_i ?_)
      refine final_h [] h ?_
      repeat ((conv => whnf); first | (refine pre_i ?hc ?_; case hc => first | assumption | omega | (unfold fits; omega) | decide +kernel | (constructor <;> first | assumption | omega) | (simp only [off_addO, ty3, ty4, ty5, ty9, ty23, ty24, ty35, ty63, ty71, ty79, off, offE] <;> omega) | (simp only [List.length_append, List.length_take, List.length_drop, List.length_nil, List.length_cons, List.length_replicate, List.length_set, off_addO, off, offE] <;> omega)) | (refine cond_t ?hc ?_; case hc => first | rfl | assumption | (rw [decide_eq_true_eq]; omega) | (rw [decide_eq_false_iff_not]; omega) | (simp <;> omega)) | (refine cond_f ?hc ?_; case hc => first | rfl | assumption | (rw [decide_eq_true_eq]; omega) | (rw [decide_eq_false_iff_not]; omega) | (simp <;> omega)) | refine same_i ?_)
      exact trivial
    · rename_i s t n c b hh u m l
      obtain ⟨h0', h⟩ := pre_e h
      have h0 := h0'
      unfold ringOK at h0
      have h := all_e h
      generalize hkm : min (s.length : Int) (n - hh) = km at h
      have hm0 : 0 ≤ (b + hh).tmod n := Int.tmod_nonneg _ (by omega)
      have hm1 : (b + hh).tmod n < n := Int.tmod_lt_of_pos _ (by omega)
      repeat ((conv => whnf); first | (refine pre_i ?hc ?_; case hc => first | assumption | omega | (unfold fits; omega) | decide +kernel | (constructor <;> first | assumption | omega) | (simp only [off_addO, ty3, ty4, ty5, ty9, ty23, ty24, ty35, ty63, ty71, ty79, off, offE] <;> omega) | (simp only [List.length_append, List.length_take, List.length_drop, List.length_nil, List.length_cons, List.length_replicate, List.length_set, off_addO, off, offE] <;> omega)) | (refine cond_t ?hc ?_; case hc => first | rfl | assumption | (rw [decide_eq_true_eq]; omega) | (rw [decide_eq_false_iff_not]; omega) | (simp <;> omega)) | (refine cond_f ?hc ?_; case hc => first | rfl | assumption | (rw [decide_eq_true_eq]; omega) | (rw [decide_eq_false_iff_not]; omega) | (simp <;> omega)) | refine same_i ?_)
      rw [hkm]
      repeat ((conv => whnf); first | (refine pre_i ?hc ?_; case hc => first | assumption | omega | (unfold fits; omega) | decide +kernel | (constructor <;> first | assumption | omega) | (simp only [off_addO, ty3, ty4, ty5, ty9, ty23, ty24, ty35, ty63, ty71, ty79, off, offE] <;> omega) | (simp only [List.length_append, List.length_take, List.length_drop, List.length_nil, List.length_cons, List.length_replicate, List.length_set, off_addO, off, offE] <;> omega)) | (refine cond_t ?hc ?_; case hc => first | rfl | assumption | (rw [decide_eq_true_eq]; omega) | (rw [decide_eq_false_iff_not]; omega) | (simp <;> omega)) | (refine cond_f ?hc ?_; case hc => first | rfl | assumption | (rw [decide_eq_true_eq]; omega) | (rw [decide_eq_false_iff_not]; omega) | (simp <;> omega)) | refine same_i ?_)
      refine cond_i (fun hd => ?_) (fun hd => ?_)
      · rw [decide_eq_true_eq] at hd
        have hs := slO_le ((b + hh).tmod n + km).toNat ((b + hh).tmod n).toNat
        repeat ((conv => whnf); first | (refine pre_i ?hc ?_; case hc => first | assumption | omega | (unfold fits; omega) | decide +kernel | (constructor <;> first | assumption | omega) | (simp only [off_addO, ty3, ty4, ty5, ty9, ty23, ty24, ty35, ty63, ty71, ty79, off, offE] <;> omega) | (simp only [List.length_append, List.length_take, List.length_drop, List.length_nil, List.length_cons, List.length_replicate, List.length_set, off_addO, off, offE] <;> omega)) | (refine cond_t ?hc ?_; case hc => first | rfl | assumption | (rw [decide_eq_true_eq]; omega) | (rw [decide_eq_false_iff_not]; omega) | (simp <;> omega)) | (refine cond_f ?hc ?_; case hc => first | rfl | assumption | (rw [decide_eq_true_eq]; omega) | (rw [decide_eq_false_iff_not]; omega) | (simp <;> omega)) | refine same_i ?_)
        refine final_h [0, 1] (h (splice l (off [(slO ((b + hh).tmod n + km).toNat ((b + hh).tmod n).toNat, 1)]) (List.take (min (List.take km.toNat s).length (((b + hh).tmod n + km).toNat - ((b + hh).tmod n).toNat)) (List.take km.toNat s))) ?_) ?_
        · exact put_one (by omega) (by omega) (by omega) (by omega) (by omega) (by omega) (by omega) (by omega) hd
        repeat ((conv => whnf); first | (refine pre_i ?hc ?_; case hc => first | assumption | omega | (unfold fits; omega) | decide +kernel | (constructor <;> first | assumption | omega) | (simp only [off_addO, ty3, ty4, ty5, ty9, ty23, ty24, ty35, ty63, ty71, ty79, off, offE] <;> omega) | (simp only [List.length_append, List.length_take, List.length_drop, List.length_nil, List.length_cons, List.length_replicate, List.length_set, off_addO, off, offE] <;> omega)) | (refine cond_t ?hc ?_; case hc => first | rfl | assumption | (rw [decide_eq_true_eq]; omega) | (rw [decide_eq_false_iff_not]; omega) | (simp <;> omega)) | (refine cond_f ?hc ?_; case hc => first | rfl | assumption | (rw [decide_eq_true_eq]; omega) | (rw [decide_eq_false_iff_not]; omega) | (simp <;> omega)) | refine same_i ?_)
        exact trivial
      · rw [decide_eq_false_iff_not] at hd
        have hs := slO_le c ((b + hh).tmod n).toNat
        have hcn : c = n := by omega
        subst hcn
        repeat ((conv => whnf); first | (refine pre_i ?hc ?_; case hc => first | assumption | omega | (unfold fits; omega) | decide +kernel | (constructor <;> first | assumption | omega) | (simp only [off_addO, ty3, ty4, ty5, ty9, ty23, ty24, ty35, ty63, ty71, ty79, off, offE] <;> omega) | (simp only [List.length_append, List.length_take, List.length_drop, List.length_nil, List.length_cons, List.length_replicate, List.length_set, off_addO, off, offE] <;> omega)) | (refine cond_t ?hc ?_; case hc => first | rfl | assumption | (rw [decide_eq_true_eq]; omega) | (rw [decide_eq_false_iff_not]; omega) | (simp <;> omega)) | (refine cond_f ?hc ?_; case hc => first | rfl | assumption | (rw [decide_eq_true_eq]; omega) | (rw [decide_eq_false_iff_not]; omega) | (simp <;> omega)) | refine same_i ?_)
        conv => whnf
        refine pre_i (put_two_len (by omega) (by omega) (by omega) (by omega) (by omega) (by omega) (by omega) (by omega) hd) ?_
        repeat ((conv => whnf); first | (refine pre_i ?hc ?_; case hc => first | assumption | omega | (unfold fits; omega) | decide +kernel | (constructor <;> first | assumption | omega) | (simp only [off_addO, ty3, ty4, ty5, ty9, ty23, ty24, ty35, ty63, ty71, ty79, off, offE] <;> omega) | (simp only [List.length_append, List.length_take, List.length_drop, List.length_nil, List.length_cons, List.length_replicate, List.length_set, off_addO, off, offE] <;> omega)) | (refine cond_t ?hc ?_; case hc => first | rfl | assumption | (rw [decide_eq_true_eq]; omega) | (rw [decide_eq_false_iff_not]; omega) | (simp <;> omega)) | (refine cond_f ?hc ?_; case hc => first | rfl | assumption | (rw [decide_eq_true_eq]; omega) | (rw [decide_eq_false_iff_not]; omega) | (simp <;> omega)) | refine same_i ?_)
        refine final_h [0, 1] (h (splice (splice l (off [(slO c ((b + hh).tmod c).toNat, 1)]) (List.take (min (List.take km.toNat s).length (c - ((b + hh).tmod c).toNat)) (List.take km.toNat s))) (off []) (List.take (min (List.take (km.toNat - ((min (List.take km.toNat s).length (c - ((b + hh).tmod c).toNat) : Nat) : Int).toNat) (List.drop ((min (List.take km.toNat s).length (c - ((b + hh).tmod c).toNat) : Nat) : Int).toNat s)).length (km - c + (b + hh).tmod c).toNat) (List.take (km.toNat - ((min (List.take km.toNat s).length (c - ((b + hh).tmod c).toNat) : Nat) : Int).toNat) (List.drop ((min (List.take km.toNat s).length (c - ((b + hh).tmod c).toNat) : Nat) : Int).toNat s)))) ?_) ?_
        · exact put_two (by omega) (by omega) (by omega) (by omega) (by omega) (by omega) (by omega) (by omega) hd
        repeat ((conv => whnf); first | (refine pre_i ?hc ?_; case hc => first | assumption | omega | (unfold fits; omega) | decide +kernel | (constructor <;> first | assumption | omega) | (simp only [off_addO, ty3, ty4, ty5, ty9, ty23, ty24, ty35, ty63, ty71, ty79, off, offE] <;> omega) | (simp only [List.length_append, List.length_take, List.length_drop, List.length_nil, List.length_cons, List.length_replicate, List.length_set, off_addO, off, offE] <;> omega)) | (refine cond_t ?hc ?_; case hc => first | rfl | assumption | (rw [decide_eq_true_eq]; omega) | (rw [decide_eq_false_iff_not]; omega) | (simp <;> omega)) | (refine cond_f ?hc ?_; case hc => first | rfl | assumption | (rw [decide_eq_true_eq]; omega) | (rw [decide_eq_false_iff_not]; omega) | (simp <;> omega)) | refine same_i ?_)
        exact trivial
    · exact h.elim
end Go.Sym.R
