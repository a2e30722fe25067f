/-
  A round row of bytes, as a list: what is held, from a place on, around. No program in sight.
-/
import GoSem.Core.Value
namespace Go.Sym.Ring

def rot (l : List UInt8) (b : Nat) : List UInt8 := l.drop b ++ l.take b
def content (l : List UInt8) (b h : Nat) : List UInt8 := (rot l b).take h

theorem content_len {l : List UInt8} {b h : Nat} (hb : b ≤ l.length) (hh : h ≤ l.length) : (content l b h).length = h := by
  simp [content, rot]; omega
theorem content_get {l : List UInt8} {b h i : Nat} (hb : b < l.length) (hi : i < h) (hh : h ≤ l.length) : (content l b h)[i]? = if b + i < l.length then l[b + i]? else l[b + i - l.length]? := by
  unfold content rot
  rw [List.getElem?_take, if_pos hi]
  split
  · rename_i hlt
    rw [List.getElem?_append_left (by simp; omega), List.getElem?_drop]
  · rename_i hge
    rw [List.getElem?_append_right (by simp; omega), List.getElem?_take, if_pos (by simp; omega)]
    congr 1
    simp; omega
theorem content_none {l : List UInt8} {b h i : Nat} (hb : b ≤ l.length) (hi : h ≤ i) (hh : h ≤ l.length) : (content l b h)[i]? = none := by
  rw [List.getElem?_eq_none]; rw [content_len hb hh]; exact hi

theorem place {b a n : Nat} (hb : b < n) (ha : a ≤ n) : (b + a) % n = if b + a < n then b + a else b + a - n := by
  split
  · exact Nat.mod_eq_of_lt ‹_›
  · rw [Nat.mod_eq_sub_mod (by omega), Nat.mod_eq_of_lt (by omega)]

theorem peek_one {l : List UInt8} {b h a k : Nat} (hb : b < l.length) (hh : h ≤ l.length) (hk : a + k ≤ h) (hp : (b + a) % l.length + k ≤ l.length) :
    (l.drop ((b + a) % l.length)).take k = ((content l b h).drop a).take k := by
  rw [place hb (by omega)] at hp ⊢
  apply List.ext_getElem?
  intro i
  rw [List.getElem?_take, List.getElem?_take]
  split
  · rename_i hi
    rw [List.getElem?_drop, List.getElem?_drop, content_get hb (by omega) hh]
    by_cases h1 : b + a < l.length
    · rw [if_pos h1] at hp ⊢
      rw [if_pos (by omega)]
      congr 1; omega
    · rw [if_neg h1] at hp ⊢
      rw [if_neg (by omega)]
      congr 1; omega
  · rfl
theorem peek_two {l : List UInt8} {b h a k : Nat} (hb : b < l.length) (hh : h ≤ l.length) (hk : a + k ≤ h) (hp : l.length < (b + a) % l.length + k) :
    (l.drop ((b + a) % l.length)).take (l.length - (b + a) % l.length) ++ l.take (k - (l.length - (b + a) % l.length)) = ((content l b h).drop a).take k := by
  rw [place hb (by omega)] at hp ⊢
  have hlt : b + a < l.length := by
    split at hp
    · assumption
    · omega
  rw [if_pos hlt] at hp ⊢
  apply List.ext_getElem?
  intro i
  by_cases hi : i < k
  · rw [List.getElem?_take, if_pos hi, List.getElem?_drop, content_get hb (by omega) hh]
    split
    · rw [List.getElem?_append_left (by simp; omega), List.getElem?_take, if_pos (by omega), List.getElem?_drop]
      congr 1; omega
    · rw [List.getElem?_append_right (by simp; omega), List.getElem?_take, if_pos (by simp; omega)]
      congr 1; simp; omega
  · rw [List.getElem?_eq_none (by simp; omega), List.getElem?_eq_none (by simp; omega)]
theorem drop_content {l : List UInt8} {b h k : Nat} (hb : b < l.length) (hh : h ≤ l.length) (hk : k ≤ h) : content l ((b + k) % l.length) (h - k) = (content l b h).drop k := by
  have hp : (b + k) % l.length < l.length := Nat.mod_lt _ (by omega)
  have hpl := place hb (show k ≤ l.length by omega)
  generalize (b + k) % l.length = p at hp hpl ⊢
  apply List.ext_getElem?
  intro i
  by_cases hi : i < h - k
  · rw [List.getElem?_drop, content_get hp hi (by omega), content_get hb (by omega) hh]
    by_cases h1 : b + k < l.length
    · rw [if_pos h1] at hpl
      subst hpl
      by_cases h2 : b + k + i < l.length
      · rw [if_pos h2, if_pos (by omega)]; congr 1; omega
      · rw [if_neg h2, if_neg (by omega)]; congr 1; omega
    · rw [if_neg h1] at hpl
      subst hpl
      rw [if_pos (by omega), if_neg (by omega)]
      congr 1; omega
  · rw [content_none (by omega) (by omega) (by omega), List.getElem?_drop, content_none (by omega) (by omega) hh]

/-- bytes written behind what is held, in one part or in two -/
theorem put_get {l l' s : List UInt8} {b h : Nat} (hb : b < l.length) (hs : h + s.length ≤ l.length) (hl : l'.length = l.length)
    (hw : ∀ i, i < l.length → l'[i]? = if (i + l.length - (b + h) % l.length) % l.length < s.length then s[(i + l.length - (b + h) % l.length) % l.length]? else l[i]?) :
    content l' b (h + s.length) = content l b h ++ s := by
  have hpl := place hb (show h ≤ l.length by omega)
  apply List.ext_getElem?
  intro i
  by_cases hi : i < h + s.length
  · rw [content_get (by omega) hi (by omega), hl]
    have hq : ∀ q, q < l.length → q = (if b + i < l.length then b + i else b + i - l.length) → l'[q]? = (content l b h ++ s)[i]? := by
      intro q hq he
      rw [hw q hq]
      by_cases hih : i < h
      · rw [List.getElem?_append_left (by rw [content_len (by omega) (by omega)]; exact hih), content_get hb hih (by omega)]
        have : ¬ (q + l.length - (b + h) % l.length) % l.length < s.length := by
          rw [hpl]
          split at he <;> split <;> subst he
          · rw [Nat.mod_eq_of_lt (by omega)]; omega
          · by_cases h3 : b + i + l.length - (b + h - l.length) < l.length
            · omega
            · rw [Nat.mod_eq_sub_mod (by omega), Nat.mod_eq_of_lt (by omega)]; omega
          · omega
          · rw [Nat.mod_eq_of_lt (by omega)]; omega
        rw [if_neg this]
        split at he <;> rename_i h4
        · rw [if_pos h4, he]
        · rw [if_neg h4, he]
      · rw [List.getElem?_append_right (by rw [content_len (by omega) (by omega)]; omega), content_len (by omega) (by omega)]
        have : (q + l.length - (b + h) % l.length) % l.length = i - h := by
          rw [hpl]
          split at he <;> split <;> subst he
          · rw [Nat.mod_eq_sub_mod (by omega), Nat.mod_eq_of_lt (by omega)]; omega
          · omega
          · rw [Nat.mod_eq_of_lt (by omega)]; omega
          · rw [Nat.mod_eq_sub_mod (by omega), Nat.mod_eq_of_lt (by omega)]; omega
        rw [this, if_pos (by omega)]
    split
    · rename_i h5; exact hq _ h5 (by rw [if_pos h5])
    · rename_i h5; exact hq _ (by omega) (by rw [if_neg h5])
  · rw [content_none (by omega) (by omega) (by omega), List.getElem?_eq_none (by rw [List.length_append, content_len (by omega) (by omega)]; omega)]

/-- a byte of what is held, written -/
theorem content_set {l : List UInt8} {b h a : Nat} {c : UInt8} (hb : b < l.length) (hh : h ≤ l.length) (ha : a < h) : content (l.set ((b + a) % l.length) c) b h = (content l b h).set a c := by
  have hpl := place hb (show a ≤ l.length by omega)
  have hp : (b + a) % l.length < l.length := Nat.mod_lt _ (by omega)
  generalize (b + a) % l.length = p at hp hpl ⊢
  apply List.ext_getElem?
  intro i
  by_cases hi : i < h
  · rw [content_get (by rw [List.length_set]; exact hb) hi (by rw [List.length_set]; exact hh), List.length_set, List.getElem?_set, List.getElem?_set, List.getElem?_set, content_len (by omega) hh, content_get hb hi hh]
    by_cases h1 : b + a < l.length
    · rw [if_pos h1] at hpl
      by_cases h2 : a = i
      · subst h2; subst hpl; rw [if_pos h1, if_pos rfl, if_pos h1, if_pos rfl, if_pos ha]
      · rw [if_neg h2]
        split
        · rw [if_neg (by omega)]
        · rw [if_neg (by omega)]
    · rw [if_neg h1] at hpl
      by_cases h2 : a = i
      · subst h2; subst hpl; rw [if_neg h1, if_pos rfl, if_pos (by omega), if_pos rfl, if_pos ha]
      · rw [if_neg h2]
        split
        · rw [if_neg (by omega)]
        · rw [if_neg (by omega)]
  · rw [content_none (by rw [List.length_set]; omega) (by omega) (by rw [List.length_set]; exact hh), List.getElem?_eq_none (by rw [List.length_set, content_len (by omega) hh]; omega)]
theorem set_take_drop {l : List UInt8} {a : Nat} {c : UInt8} (ha : a < l.length) : l.set a c = l.take a ++ [c] ++ l.drop (a + 1) := by
  rw [List.set_eq_take_append_cons_drop, if_pos ha, List.append_assoc]; rfl
end Go.Sym.Ring
