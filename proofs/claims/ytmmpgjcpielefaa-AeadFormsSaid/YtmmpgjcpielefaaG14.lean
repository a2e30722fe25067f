/-
  Contracts of functions of the program, each said of symbolic values, and plain laws; no condition beyond each statement's own.
-/
import Derived.Test.YtmmpgjcpielefaaG13
set_option linter.unusedSimpArgs false
set_option linter.unusedVariables false
namespace Go.Sym.A
open Go Go.Proofs.Try Go.Sym.Lp Go.Sym.Gcm Go.Sym.Aes Go.Sym.Pol Go.Sym.Cha
set_option maxRecDepth 100000
attribute [local irreducible] polySeal polyTag gSeal gTag gStr strm rpSeal rpTag

set_option maxHeartbeats 4000000 in
theorem aOpen_s : SoundC prog 15 aOpenS := by
  refine sound_f tyGcm_ok (fnok_cons amay_s (fnok_cons pOpenP_s (fnok_cons gOpenP_s fnok_nil))) rfl func15 rfl call15 (D := pl15) ?_ ?_
  · intro args hp K h
    unfold aOpenS at h
    split at h
    · exact Nat.le_of_ble_eq_true rfl
    · exact h.elim
  · intro args hp K h
    unfold aOpenS at h
    split at h
    · rename_i w key nonce aad s
      obtain ⟨hs63, h⟩ := pre_e h
      obtain ⟨ht0, hn0⟩ := cond_e h
      have four : w = 4865 ∨ w = 4866 ∨ w = 4867 ∨ (w ≠ 4865 ∧ w ≠ 4866 ∧ w ≠ 4867) := by omega
      by_cases h0 : aKey w key.length ∧ nonce.length = 12 ∧ aad.length ≤ 65536 ∧ (s.length : Int) - 16 ≤ 65536
      · have h := ht0 (decide_eq_true h0)
        have hd := decide_eq_true h0
        obtain ⟨hk, h1, h2, h3⟩ := h0
        unfold aKey at hk
        unfold aTag aStr at h
        by_cases h4 : w = 4867
        · rw [if_pos h4, if_pos h4] at h
          obtain ⟨ht, hn⟩ := cond_e h
          have hpp : key.length = 32 ∧ nonce.length = 12 ∧ aad.length ≤ 65536 ∧ (s.length : Int) - 16 ≤ 65536 := ⟨by omega, h1, h2, h3⟩
          by_cases hq : 16 ≤ s.length ∧ polyTag key nonce aad (s.take (s.length - 16)) = s.drop (s.length - 16)
          · have h := ht (decide_eq_true hq)
            have hdq := decide_eq_true hq
            repeat ((conv => whnf); first | refine pre_a ?_ | refine cond_ta ?_ | refine cond_fa ?_ | refine same_i ?_ | refine pre_i (by first | exact hd | (rw [hd]; rfl) | exact hdq) ?_ | refine cond_t (by first | exact hd | (rw [hd]; rfl) | exact hdq) ?_ | refine cond_f (by first | exact hd | (rw [hd]; rfl) | exact hdq) ?_)
            conv => whnf
            refine final_h (hp' := []) [] h ?_
            repeat ((conv => whnf); refine same_i ?_)
            exact trivial
          · have h := hn (decide_eq_false hq)
            have hdq := decide_eq_false hq
            repeat ((conv => whnf); first | refine pre_a ?_ | refine cond_ta ?_ | refine cond_fa ?_ | refine same_i ?_ | refine pre_i (by first | exact hd | (rw [hd]; rfl) | exact hdq) ?_ | refine cond_t (by first | exact hd | (rw [hd]; rfl) | exact hdq) ?_ | refine cond_f (by first | exact hd | (rw [hd]; rfl) | exact hdq) ?_)
            conv => whnf
            refine final_h (hp' := []) [] h ?_
            repeat ((conv => whnf); refine same_i ?_)
            exact trivial
        · rw [if_neg h4, if_neg h4] at h
          obtain ⟨ht, hn⟩ := cond_e h
          have hpp : (key.length = 16 ∨ key.length = 32) ∧ nonce.length = 12 ∧ aad.length ≤ 65536 ∧ (s.length : Int) - 16 ≤ 65536 := ⟨by omega, h1, h2, h3⟩
          by_cases hq : 16 ≤ s.length ∧ gTag key nonce aad (s.take (s.length - 16)) = s.drop (s.length - 16)
          · have h := ht (decide_eq_true hq)
            have hdq := decide_eq_true hq
            repeat ((conv => whnf); first | refine pre_a ?_ | refine cond_ta ?_ | refine cond_fa ?_ | refine same_i ?_ | refine pre_i (by first | exact hd | (rw [hd]; rfl) | exact hdq) ?_ | refine cond_t (by first | exact hd | (rw [hd]; rfl) | exact hdq) ?_ | refine cond_f (by first | exact hd | (rw [hd]; rfl) | exact hdq) ?_)
            conv => whnf
            refine final_h (hp' := []) [] h ?_
            repeat ((conv => whnf); refine same_i ?_)
            exact trivial
          · have h := hn (decide_eq_false hq)
            have hdq := decide_eq_false hq
            repeat ((conv => whnf); first | refine pre_a ?_ | refine cond_ta ?_ | refine cond_fa ?_ | refine same_i ?_ | refine pre_i (by first | exact hd | (rw [hd]; rfl) | exact hdq) ?_ | refine cond_t (by first | exact hd | (rw [hd]; rfl) | exact hdq) ?_ | refine cond_f (by first | exact hd | (rw [hd]; rfl) | exact hdq) ?_)
            conv => whnf
            refine final_h (hp' := []) [] h ?_
            repeat ((conv => whnf); refine same_i ?_)
            exact trivial
      · have h := hn0 (decide_eq_false h0)
        have hd := decide_eq_false h0
        repeat ((conv => whnf); first | refine pre_a ?_ | refine cond_ta ?_ | refine cond_fa ?_ | refine same_i ?_ | refine pre_i (by first | exact hd | (rw [hd]; rfl)) ?_ | refine cond_t (by first | exact hd | (rw [hd]; rfl)) ?_ | refine cond_f (by first | exact hd | (rw [hd]; rfl)) ?_)
        conv => whnf
        refine final_h (hp' := []) [] h ?_
        repeat ((conv => whnf); refine same_i ?_)
        exact trivial
    · exact h.elim
set_option maxHeartbeats 4000000 in
theorem raOpen_s : SoundC prog 16 aOpenS := by
  refine sound_f tyGcm_ok (fnok_cons rsizes_s (fnok_cons rpOpenP_s (fnok_cons rgOpenP_s fnok_nil))) rfl func16 rfl call16 (D := pl16) ?_ ?_
  · intro args hp K h
    unfold aOpenS at h
    split at h
    · exact Nat.le_of_ble_eq_true rfl
    · exact h.elim
  · intro args hp K h
    unfold aOpenS at h
    split at h
    · rename_i w key nonce aad s
      obtain ⟨hs63, h⟩ := pre_e h
      obtain ⟨ht0, hn0⟩ := cond_e h
      have four : w = 4865 ∨ w = 4866 ∨ w = 4867 ∨ (w ≠ 4865 ∧ w ≠ 4866 ∧ w ≠ 4867) := by omega
      by_cases h0 : aKey w key.length ∧ nonce.length = 12 ∧ aad.length ≤ 65536 ∧ (s.length : Int) - 16 ≤ 65536
      · have h := ht0 (decide_eq_true h0)
        have hd := decide_eq_true h0
        obtain ⟨hk, h1, h2, h3⟩ := h0
        unfold aKey at hk
        unfold aTag aStr at h
        by_cases h4 : w = 4867
        · rw [if_pos h4, if_pos h4] at h
          obtain ⟨ht, hn⟩ := cond_e h
          have hpp : key.length = 32 ∧ nonce.length = 12 ∧ aad.length ≤ 65536 ∧ (s.length : Int) - 16 ≤ 65536 := ⟨by omega, h1, h2, h3⟩
          by_cases hq : 16 ≤ s.length ∧ polyTag key nonce aad (s.take (s.length - 16)) = s.drop (s.length - 16)
          · have h := ht (decide_eq_true hq)
            have hdq := decide_eq_true hq
            repeat ((conv => whnf); first | refine pre_a ?_ | refine cond_ta ?_ | refine cond_fa ?_ | refine same_i ?_ | refine pre_i (by first | exact hd | (rw [hd]; rfl) | exact hdq) ?_ | refine cond_t (by first | exact hd | (rw [hd]; rfl) | exact hdq) ?_ | refine cond_f (by first | exact hd | (rw [hd]; rfl) | exact hdq) ?_)
            conv => whnf
            refine final_h (hp' := []) [] h ?_
            repeat ((conv => whnf); refine same_i ?_)
            exact trivial
          · have h := hn (decide_eq_false hq)
            have hdq := decide_eq_false hq
            repeat ((conv => whnf); first | refine pre_a ?_ | refine cond_ta ?_ | refine cond_fa ?_ | refine same_i ?_ | refine pre_i (by first | exact hd | (rw [hd]; rfl) | exact hdq) ?_ | refine cond_t (by first | exact hd | (rw [hd]; rfl) | exact hdq) ?_ | refine cond_f (by first | exact hd | (rw [hd]; rfl) | exact hdq) ?_)
            conv => whnf
            refine final_h (hp' := []) [] h ?_
            repeat ((conv => whnf); refine same_i ?_)
            exact trivial
        · rw [if_neg h4, if_neg h4] at h
          obtain ⟨ht, hn⟩ := cond_e h
          rcases hk with ⟨g0, g1⟩ | ⟨g0, g1⟩ | ⟨g0, g1⟩
          · have hpp : (key.length = 16 ∨ key.length = 32) ∧ nonce.length = 12 ∧ aad.length ≤ 65536 ∧ (s.length : Int) - 16 ≤ 65536 := ⟨by omega, h1, h2, h3⟩
            by_cases hq : 16 ≤ s.length ∧ gTag key nonce aad (s.take (s.length - 16)) = s.drop (s.length - 16)
            · have h := ht (decide_eq_true hq)
              have hdq := decide_eq_true hq
              repeat ((conv => whnf); first | refine pre_a ?_ | refine cond_ta ?_ | refine cond_fa ?_ | refine same_i ?_ | refine pre_i (by first | exact hd | (rw [hd]; rfl) | exact hdq) ?_ | refine cond_t (by first | exact hd | (rw [hd]; rfl) | exact hdq) ?_ | refine cond_f (by first | exact hd | (rw [hd]; rfl) | exact hdq) ?_)
              conv => whnf
              refine final_h (hp' := []) [] h ?_
              repeat ((conv => whnf); refine same_i ?_)
              exact trivial
            · have h := hn (decide_eq_false hq)
              have hdq := decide_eq_false hq
              repeat ((conv => whnf); first | refine pre_a ?_ | refine cond_ta ?_ | refine cond_fa ?_ | refine same_i ?_ | refine pre_i (by first | exact hd | (rw [hd]; rfl) | exact hdq) ?_ | refine cond_t (by first | exact hd | (rw [hd]; rfl) | exact hdq) ?_ | refine cond_f (by first | exact hd | (rw [hd]; rfl) | exact hdq) ?_)
              conv => whnf
              refine final_h (hp' := []) [] h ?_
              repeat ((conv => whnf); refine same_i ?_)
              exact trivial
          · have hpp : (key.length = 16 ∨ key.length = 32) ∧ nonce.length = 12 ∧ aad.length ≤ 65536 ∧ (s.length : Int) - 16 ≤ 65536 := ⟨by omega, h1, h2, h3⟩
            by_cases hq : 16 ≤ s.length ∧ gTag key nonce aad (s.take (s.length - 16)) = s.drop (s.length - 16)
            · have h := ht (decide_eq_true hq)
              have hdq := decide_eq_true hq
              repeat ((conv => whnf); first | refine pre_a ?_ | refine cond_ta ?_ | refine cond_fa ?_ | refine same_i ?_ | refine pre_i (by first | exact hd | (rw [hd]; rfl) | exact hdq) ?_ | refine cond_t (by first | exact hd | (rw [hd]; rfl) | exact hdq) ?_ | refine cond_f (by first | exact hd | (rw [hd]; rfl) | exact hdq) ?_)
              conv => whnf
              refine final_h (hp' := []) [] h ?_
              repeat ((conv => whnf); refine same_i ?_)
              exact trivial
            · have h := hn (decide_eq_false hq)
              have hdq := decide_eq_false hq
              repeat ((conv => whnf); first | refine pre_a ?_ | refine cond_ta ?_ | refine cond_fa ?_ | refine same_i ?_ | refine pre_i (by first | exact hd | (rw [hd]; rfl) | exact hdq) ?_ | refine cond_t (by first | exact hd | (rw [hd]; rfl) | exact hdq) ?_ | refine cond_f (by first | exact hd | (rw [hd]; rfl) | exact hdq) ?_)
              conv => whnf
              refine final_h (hp' := []) [] h ?_
              repeat ((conv => whnf); refine same_i ?_)
              exact trivial
          · exact absurd g0 h4
      · have h := hn0 (decide_eq_false h0)
        rcases four with h1 | h1 | h1 | ⟨h1, h2, h3⟩
        · by_cases g1 : key.length = 16
          · by_cases g2 : nonce.length = 12
            · by_cases g3 : aad.length ≤ 65536
              · have g4 : ¬ (s.length : Int) - 16 ≤ 65536 := fun g => h0 ⟨.inl ⟨h1, g1⟩, g2, g3, g⟩
                repeat ((conv => whnf); first | refine pre_a ?_ | refine cond_ta ?_ | refine cond_fa ?_ | refine same_i ?_)
                conv => whnf
                refine final_h (hp' := []) [] h ?_
                repeat ((conv => whnf); refine same_i ?_)
                exact trivial
              · repeat ((conv => whnf); first | refine pre_a ?_ | refine cond_ta ?_ | refine cond_fa ?_ | refine same_i ?_)
                conv => whnf
                refine final_h (hp' := []) [] h ?_
                repeat ((conv => whnf); refine same_i ?_)
                exact trivial
            · repeat ((conv => whnf); first | refine pre_a ?_ | refine cond_ta ?_ | refine cond_fa ?_ | refine same_i ?_)
              conv => whnf
              refine final_h (hp' := []) [] h ?_
              repeat ((conv => whnf); refine same_i ?_)
              exact trivial
          · repeat ((conv => whnf); first | refine pre_a ?_ | refine cond_ta ?_ | refine cond_fa ?_ | refine same_i ?_)
            conv => whnf
            refine final_h (hp' := []) [] h ?_
            repeat ((conv => whnf); refine same_i ?_)
            exact trivial
        · by_cases g1 : key.length = 32
          · by_cases g2 : nonce.length = 12
            · by_cases g3 : aad.length ≤ 65536
              · have g4 : ¬ (s.length : Int) - 16 ≤ 65536 := fun g => h0 ⟨.inr (.inl ⟨h1, g1⟩), g2, g3, g⟩
                repeat ((conv => whnf); first | refine pre_a ?_ | refine cond_ta ?_ | refine cond_fa ?_ | refine same_i ?_)
                conv => whnf
                refine final_h (hp' := []) [] h ?_
                repeat ((conv => whnf); refine same_i ?_)
                exact trivial
              · repeat ((conv => whnf); first | refine pre_a ?_ | refine cond_ta ?_ | refine cond_fa ?_ | refine same_i ?_)
                conv => whnf
                refine final_h (hp' := []) [] h ?_
                repeat ((conv => whnf); refine same_i ?_)
                exact trivial
            · repeat ((conv => whnf); first | refine pre_a ?_ | refine cond_ta ?_ | refine cond_fa ?_ | refine same_i ?_)
              conv => whnf
              refine final_h (hp' := []) [] h ?_
              repeat ((conv => whnf); refine same_i ?_)
              exact trivial
          · repeat ((conv => whnf); first | refine pre_a ?_ | refine cond_ta ?_ | refine cond_fa ?_ | refine same_i ?_)
            conv => whnf
            refine final_h (hp' := []) [] h ?_
            repeat ((conv => whnf); refine same_i ?_)
            exact trivial
        · by_cases g1 : key.length = 32
          · by_cases g2 : nonce.length = 12
            · by_cases g3 : aad.length ≤ 65536
              · have g4 : ¬ (s.length : Int) - 16 ≤ 65536 := fun g => h0 ⟨.inr (.inr ⟨h1, g1⟩), g2, g3, g⟩
                repeat ((conv => whnf); first | refine pre_a ?_ | refine cond_ta ?_ | refine cond_fa ?_ | refine same_i ?_)
                conv => whnf
                refine final_h (hp' := []) [] h ?_
                repeat ((conv => whnf); refine same_i ?_)
                exact trivial
              · repeat ((conv => whnf); first | refine pre_a ?_ | refine cond_ta ?_ | refine cond_fa ?_ | refine same_i ?_)
                conv => whnf
                refine final_h (hp' := []) [] h ?_
                repeat ((conv => whnf); refine same_i ?_)
                exact trivial
            · repeat ((conv => whnf); first | refine pre_a ?_ | refine cond_ta ?_ | refine cond_fa ?_ | refine same_i ?_)
              conv => whnf
              refine final_h (hp' := []) [] h ?_
              repeat ((conv => whnf); refine same_i ?_)
              exact trivial
          · repeat ((conv => whnf); first | refine pre_a ?_ | refine cond_ta ?_ | refine cond_fa ?_ | refine same_i ?_)
            conv => whnf
            refine final_h (hp' := []) [] h ?_
            repeat ((conv => whnf); refine same_i ?_)
            exact trivial
        · repeat ((conv => whnf); first | refine pre_a ?_ | refine cond_ta ?_ | refine cond_fa ?_ | refine same_i ?_)
          conv => whnf
          refine final_h (hp' := []) [] h ?_
          repeat ((conv => whnf); refine same_i ?_)
          exact trivial
    · exact h.elim
end Go.Sym.A

namespace Go.Sym.A
open Go Go.Proofs.Try Go.Sym.Lp Go.Sym.Gcm Go.Sym.Aes Go.Sym.Pol Go.Sym.Cha
set_option maxRecDepth 100000
attribute [local irreducible] polySeal polyTag gSeal gTag gStr strm rpSeal rpTag
/-- the orders of the drawn regions of aead.halves.join -/
def pl40 : List (Nat × List PStep) := [(1, [⟨0, []⟩, ⟨1, []⟩, ⟨3, [0, 1]⟩, ⟨4, [0, 1]⟩, ⟨2, [3, 4]⟩, ⟨5, []⟩, ⟨6, []⟩])]
/-- the orders of the drawn regions of aead.halves.spread -/
def pl44 : List (Nat × List PStep) := [(2, [⟨0, []⟩, ⟨1, []⟩, ⟨2, [0, 1]⟩, ⟨3, [0, 1, 2]⟩, ⟨4, [0, 1]⟩, ⟨5, []⟩])]
/-- the orders of the drawn regions of aead.newCipher -/
def pl41 : List (Nat × List PStep) := []
/-- the orders of the drawn regions of aead.cipher.tag -/
def pl42 : List (Nat × List PStep) := []
/-- the orders of the drawn regions of aead.cipher.xor -/
def pl43 : List (Nat × List PStep) := []
def tyAead : List (Nat × TyI) := [(3, ty3), (4, ty4), (5, ty5), (9, ty9), (34, ty34), (35, ty35), (103, ty103), (93, ty93), (91, ty91), (106, ty106), (109, ty109), (67, ty67), (100, ty100), (147, ty147), (145, ty145), (143, ty143), (65, ty65), (69, ty69)]
theorem tyAead_ok : ∀ t i, look tyAead t = some i → TyOK prog t i := (tyok_cons ty3_ok (tyok_cons ty4_ok (tyok_cons ty5_ok (tyok_cons ty9_ok (tyok_cons ty34_ok (tyok_cons ty35_ok (tyok_cons ty103_ok (tyok_cons ty93_ok (tyok_cons ty91_ok (tyok_cons ty106_ok (tyok_cons ty109_ok (tyok_cons ty67_ok (tyok_cons ty100_ok (tyok_cons ty147_ok (tyok_cons ty145_ok (tyok_cons ty143_ok (tyok_cons ty65_ok (tyok_cons ty69_ok tyok_nil))))))))))))))))))

def joinS : Spec := fun args hp K => match args, hp with
  | [.agg [.sl 0 0 0 oa na ca, .sl 0 0 0 ob nb cb]], [.mk t [.arr8 m l]] => Pre (off oa + na ≤ l.length ∧ off ob + nb ≤ l.length ∧ 0 < na + nb ∧ na + nb ≤ 100000)
      (AllVC fun x : List UInt8 => K (.sl 1 0 0 [] (na + nb) (na + nb + x.length)) [.mk t [.arr8 m l], .mk 5 [.arr8 (na + nb + x.length) ((l.drop (off oa)).take na ++ (l.drop (off ob)).take nb ++ x)]])
  | _, _ => False
theorem join_s : SoundC prog 40 joinS := by
  refine sound_f tyAead_ok fnok_nil rfl func40 rfl call40 (D := pl40) ?_ ?_
  · intro args hp K h
    unfold joinS at h
    split at h
    · exact Nat.le_of_ble_eq_true rfl
    · exact h.elim
  · intro args hp K h
    unfold joinS at h
    split at h
    · rename_i oa na ca ob nb cb t m l
      obtain ⟨⟨ha, hb, h0, h1⟩, h⟩ := pre_e h
      have hla : (List.take na (List.drop (off oa) l)).length = na := by rw [List.length_take, List.length_drop]; omega
      have hlb : (List.take nb (List.drop (off ob) l)).length = nb := by rw [List.length_take, List.length_drop]; omega
      by_cases g1 : na = 0
      · repeat ((conv => whnf); first | refine pre_a ?_ | refine cond_ta ?_ | refine cond_fa ?_ | refine same_i ?_)
        conv => whnf
        refine all_i fun t1 => ?_
        have h := all_e h t1
        have e0 : List.take na (List.drop (off oa) l) = [] := List.length_eq_zero_iff.1 (by omega)
        rw [e0, List.nil_append, g1, Nat.zero_add] at h
        repeat ((conv => whnf); first | refine pre_a ?_ | refine cond_ta ?_ | refine cond_fa ?_ | refine same_i ?_)
        conv => whnf
        rw [hlb]
        conv => whnf
        refine final_h (hp' := [.mk t [.arr8 m l], .mk 5 [.arr8 (nb + t1.length) (List.take nb (List.drop (off ob) l) ++ t1)]]) [0, 2] h ?_
        repeat ((conv => whnf); refine same_i ?_)
        exact trivial
      · repeat ((conv => whnf); first | refine pre_a ?_ | refine cond_ta ?_ | refine cond_fa ?_ | refine same_i ?_)
        conv => whnf
        refine all_i fun t1 => ?_
        repeat ((conv => whnf); first | refine pre_a ?_ | refine cond_ta ?_ | refine cond_fa ?_ | refine same_i ?_)
        conv => whnf
        refine pre_i ⟨by omega, by rw [List.length_append], by omega⟩ ?_
        repeat ((conv => whnf); first | refine pre_a ?_ | refine cond_ta ?_ | refine cond_fa ?_ | refine same_i ?_)
        conv => whnf
        refine all_i fun t2 => ?_
        have h := all_e h t2
        repeat ((conv => whnf); first | refine pre_a ?_ | refine cond_ta ?_ | refine cond_fa ?_ | refine same_i ?_)
        conv => whnf
        rw [List.take_left' rfl, hla, hlb]
        conv => whnf
        refine final_h (hp' := [.mk t [.arr8 m l], .mk 5 [.arr8 (na + nb + t2.length) (List.take na (List.drop (off oa) l) ++ List.take nb (List.drop (off ob) l) ++ t2)]]) [0, 3] h ?_
        repeat ((conv => whnf); refine same_i ?_)
        exact trivial
    · exact h.elim
def sprd (l : List UInt8) (a na b nb : Nat) (s : List UInt8) : List UInt8 := splice (splice l a (s.take na)) b ((s.drop na).take nb)
def spreadS : Spec := fun args hp K => match args, hp with
  | [.agg [.sl 0 0 0 oa na ca, .sl 0 0 0 ob nb cb], .sl 1 0 0 [] N c], [.mk t [.arr8 m l], .mk t2 [.arr8 M s]] => Pre (N = na + nb ∧ off oa + na ≤ l.length ∧ off ob + nb ≤ l.length ∧ N ≤ s.length ∧ N ≤ c)
      (K (.tup []) [.mk t [.arr8 m (sprd l (off oa) na (off ob) nb s)], .mk t2 [.arr8 M s]])
  | _, _ => False
theorem spread_s : SoundC prog 44 spreadS := by
  refine sound_f tyAead_ok fnok_nil rfl func44 rfl call44 (D := pl44) ?_ ?_
  · intro args hp K h
    unfold spreadS at h
    split at h
    · exact Nat.le_of_ble_eq_true rfl
    · exact h.elim
  · intro args hp K h
    unfold spreadS at h
    split at h
    · rename_i oa na ca ob nb cb N c t m l t2 M s
      obtain ⟨⟨hN, ha, hb, hs, hc⟩, h2⟩ := pre_e h
      clear h
      subst hN
      have hl1 : (List.take (na + nb) (List.drop (off []) s)).length = na + nb := by rw [List.length_take, List.length_drop]; show min _ (s.length - 0) = _; omega
      have hmn : (((min (List.take (na + nb) (List.drop (off []) s)).length na : Nat) : Int)).toNat = na := by rw [hl1]; omega
      have hsl : off (addO [] (slO c na) ty5.sz) + (na + nb - na) ≤ s.length := by
        rw [off_addO]
        show 0 + slO c na * 1 + _ ≤ _
        by_cases e : c = na
        · unfold slO; split <;> omega
        · rw [slO_eq e]; omega
      have hA : (List.take (min (List.take (na + nb) (List.drop (off []) s)).length na) (List.take (na + nb) (List.drop (off []) s))) = s.take na := by
        rw [hl1, Nat.min_eq_right (by omega)]
        show List.take na (List.take (na + nb) (List.drop 0 s)) = _
        rw [List.drop_zero, List.take_take, Nat.min_eq_left (by omega)]
      have hB : List.take (min (List.take (na + nb - na) (List.drop (off (addO [] (slO c na) ty5.sz)) s)).length nb) (List.take (na + nb - na) (List.drop (off (addO [] (slO c na) ty5.sz)) s)) = (s.drop na).take nb := by
        have hbl : (List.take (na + nb - na) (List.drop (off (addO [] (slO c na) ty5.sz)) s)).length ≤ nb := by rw [List.length_take]; omega
        rw [List.take_of_length_le (by omega), show na + nb - na = nb by omega]
        by_cases e : nb = 0
        · rw [e]; rfl
        · rw [off_addO, slO_eq (show c ≠ na by omega)]
          show List.take nb (List.drop (0 + na * 1) s) = _
          rw [Nat.zero_add, Nat.mul_one]
      have hBl : min (List.take (na + nb - na) (List.drop (off (addO [] (slO c na) ty5.sz)) s)).length nb ≤ nb := Nat.min_le_right _ _
      have hsl2 : (splice l (off oa) (List.take (min (List.take (na + nb) (List.drop (off []) s)).length na) (List.take (na + nb) (List.drop (off []) s)))).length = l.length := by
        rw [hA]
        unfold splice
        simp only [List.length_append, List.length_take, List.length_drop]
        omega
      repeat ((conv => whnf); first | refine pre_a ?_ | refine cond_ta ?_ | refine cond_fa ?_ | refine same_i ?_)
      conv => whnf
      rw [hmn]
      repeat ((conv => whnf); first | refine pre_a ?_ | refine cond_ta ?_ | refine cond_fa ?_ | refine same_i ?_)
      conv => whnf
      refine final_h (hp' := [.mk t [.arr8 m (sprd l (off oa) na (off ob) nb s)], .mk t2 [.arr8 M s]]) [0, 1] h2 ?_
      repeat ((conv => whnf); refine same_i ?_)
      conv => whnf
      refine same_q (congrArg (fun x => SV.agg [SV.arr8 m x]) (by rw [hA, hB]; rfl)) ?_
      repeat ((conv => whnf); refine same_i ?_)
      exact trivial
    · exact h.elim
def newCipherS : Spec := fun args hp K => match args, hp with
  | [.int w, .str key, .str nonce], [] => CondVC (decide (w = 4867)) (K (.agg [.str key, .str nonce, .nilptr]) [])
      (Pre (key.length = 16 ∨ key.length = 32) (K (.agg [.str key, .str nonce, .ptr 0 0 0 []]) [.mk 109 [.ptr 1 0 0 [], .u64 (gH (gW key) (gR key)).1, .u64 (gH (gW key) (gR key)).2], .mk 147 [.arr8 256 box, .sl 2 0 0 [] (gR key) (gR key)], .mk 103 [.arr8 (16 * gR key) (gW key)]]))
  | _, _ => False
theorem newCipher_s : SoundC prog 41 newCipherS := by
  refine sound_f tyAead_ok (fnok_cons gcmNew_s fnok_nil) rfl func41 rfl call41 (D := pl41) ?_ ?_
  · intro args hp K h
    unfold newCipherS at h
    split at h
    · exact Nat.le_of_ble_eq_true rfl
    · exact h.elim
  · intro args hp K h
    unfold newCipherS at h
    split at h
    · rename_i w key nonce
      obtain ⟨ht, hn⟩ := cond_e h
      by_cases h0 : w = 4867
      · have h := ht (decide_eq_true h0)
        repeat ((conv => whnf); first | refine pre_a ?_ | refine cond_ta ?_ | refine cond_fa ?_ | refine same_i ?_)
        conv => whnf
        refine final_h (hp' := []) [] h ?_
        repeat ((conv => whnf); refine same_i ?_)
        exact trivial
      · have h := hn (decide_eq_false h0)
        obtain ⟨hk, h⟩ := pre_e h
        have hd := decide_eq_true hk
        repeat ((conv => whnf); first | refine pre_a ?_ | refine cond_ta ?_ | refine cond_fa ?_ | refine same_i ?_ | refine pre_i (by first | exact hd) ?_ | refine cond_t (by first | exact hd) ?_ | refine cond_f (by first | exact hd) ?_)
        conv => whnf
        refine final_h (hp' := [.mk 109 [.ptr 1 0 0 [], .u64 (gH (gW key) (gR key)).1, .u64 (gH (gW key) (gR key)).2], .mk 147 [.arr8 256 box, .sl 2 0 0 [] (gR key) (gR key)], .mk 103 [.arr8 (16 * gR key) (gW key)]]) [2, 3, 4] h ?_
        repeat ((conv => whnf); refine same_i ?_)
        exact trivial
    · exact h.elim
def ctagS : Spec := fun args hp K => match args, hp with
  | [.agg [.str key, .str nonce, .nilptr], .str aad, .sl 0 0 0 [] n c], [.mk t [.arr8 m l]] => Pre (key.length = 32 ∧ nonce.length = 12 ∧ aad.length ≤ 65536 ∧ n ≤ 65536 ∧ n ≤ l.length ∧ n ≤ c) (K (.str (polyTag key nonce aad (l.take n))) [.mk t [.arr8 m l]])
  | [.agg [.str key, .str nonce, .ptr 0 0 0 []], .str aad, .sl 3 0 0 [] n c], [.mk t0 [.ptr 1 0 0 [], .u64 h1, .u64 h2], .mk t1 [.arr8 256 bx, .sl 2 0 0 [] R cR], .mk t2 [.arr8 N W], .mk t [.arr8 m l]] =>
      Pre (bx = box ∧ nonce.length = 12 ∧ 1 ≤ R ∧ R ≤ 100 ∧ 16 * R ≤ W.length ∧ n ≤ l.length ∧ n ≤ c ∧ aad.length ≤ 65536 ∧ n ≤ 70000)
      (K (.str (gtg W R (h1, h2) nonce aad (l.take n))) [.mk t0 [.ptr 1 0 0 [], .u64 h1, .u64 h2], .mk t1 [.arr8 256 bx, .sl 2 0 0 [] R cR], .mk t2 [.arr8 N W], .mk t [.arr8 m l]])
  | _, _ => False
theorem ctag_s : SoundC prog 42 ctagS := by
  refine sound_f tyAead_ok (fnok_cons pTag_s (fnok_cons gtag_s fnok_nil)) rfl func42 rfl call42 (D := pl42) ?_ ?_
  · intro args hp K h
    unfold ctagS at h
    split at h
    · exact Nat.le_of_ble_eq_true rfl
    · exact Nat.le_of_ble_eq_true rfl
    · exact h.elim
  · intro args hp K h
    unfold ctagS at h
    split at h
    · obtain ⟨hp, h⟩ := pre_e h
      repeat ((conv => whnf); first | refine pre_a ?_ | refine cond_ta ?_ | refine cond_fa ?_ | refine same_i ?_)
      conv => whnf
      refine final_h (hp' := [.mk _ [.arr8 _ _]]) [0] h ?_
      repeat ((conv => whnf); refine same_i ?_)
      exact trivial
    · obtain ⟨hp, h⟩ := pre_e h
      repeat ((conv => whnf); first | refine pre_a ?_ | refine cond_ta ?_ | refine cond_fa ?_ | refine same_i ?_)
      conv => whnf
      refine final_h (hp' := [.mk _ [.ptr 1 0 0 [], .u64 _, .u64 _], .mk _ [.arr8 256 _, .sl 2 0 0 [] _ _], .mk _ [.arr8 _ _], .mk _ [.arr8 _ _]]) [0, 1, 2, 3] h ?_
      repeat ((conv => whnf); refine same_i ?_)
      exact trivial
    · exact h.elim
def cxorS : Spec := fun args hp K => match args, hp with
  | [.agg [.str key, .str nonce, .nilptr], .sl 0 0 0 [] n cap], [.mk t [.arr8 m l]] => Pre (key.length = 32 ∧ nonce.length = 12 ∧ n ≤ l.length ∧ n ≤ cap ∧ n ≤ 9223372036854775807)
      (K (.tup []) [.mk t [.arr8 m (strm key nonce (UInt32.ofInt 1) (l.take n) ++ l.drop n)]])
  | [.agg [.str key, .str nonce, .ptr 0 0 0 []], .sl 3 0 0 [] n cap], [.mk t0 [.ptr 1 0 0 [], .u64 h1, .u64 h2], .mk t1 [.arr8 256 bx, .sl 2 0 0 [] R c], .mk t2 [.arr8 N W], .mk t [.arr8 m l]] =>
      Pre (bx = box ∧ nonce.length = 12 ∧ 1 ≤ R ∧ R ≤ 100 ∧ 16 * R ≤ W.length ∧ n ≤ l.length ∧ n ≤ cap ∧ n ≤ 9223372036854775807)
      (K (.tup []) [.mk t0 [.ptr 1 0 0 [], .u64 h1, .u64 h2], .mk t1 [.arr8 256 bx, .sl 2 0 0 [] R c], .mk t2 [.arr8 N W], .mk t [.arr8 m (gst W R nonce 2 (l.take n) ++ l.drop n)]])
  | _, _ => False
theorem cxor_s : SoundC prog 43 cxorS := by
  refine sound_f tyAead_ok (fnok_cons xorIn_s (fnok_cons gxor_s fnok_nil)) rfl func43 rfl call43 (D := pl43) ?_ ?_
  · intro args hp K h
    unfold cxorS at h
    split at h
    · exact Nat.le_of_ble_eq_true rfl
    · exact Nat.le_of_ble_eq_true rfl
    · exact h.elim
  · intro args hp K h
    unfold cxorS at h
    split at h
    · obtain ⟨hp, h⟩ := pre_e h
      repeat ((conv => whnf); first | refine pre_a ?_ | refine cond_ta ?_ | refine cond_fa ?_ | refine same_i ?_)
      conv => whnf
      refine final_h (hp' := [.mk _ [.arr8 _ _]]) [0] h ?_
      repeat ((conv => whnf); refine same_i ?_)
      exact trivial
    · obtain ⟨hp, h⟩ := pre_e h
      repeat ((conv => whnf); first | refine pre_a ?_ | refine cond_ta ?_ | refine cond_fa ?_ | refine same_i ?_)
      conv => whnf
      refine final_h (hp' := [.mk _ [.ptr 1 0 0 [], .u64 _, .u64 _], .mk _ [.arr8 256 _, .sl 2 0 0 [] _ _], .mk _ [.arr8 _ _], .mk _ [.arr8 _ _]]) [0, 1, 2, 3] h ?_
      repeat ((conv => whnf); refine same_i ?_)
      exact trivial
    · exact h.elim
end Go.Sym.A

namespace Go.Sym.A
open Go Go.Proofs.Try Go.Sym.Lp Go.Sym.Gcm Go.Sym.Aes Go.Sym.Pol Go.Sym.Cha
set_option maxRecDepth 100000
attribute [local irreducible] polySeal polyTag gSeal gTag gStr strm rpSeal rpTag sprd aTag aStr gst gtg gW gR gH
/-- the orders of the drawn regions of aead.OpenIn -/
def pl19 : List (Nat × List PStep) := [(9, [⟨0, []⟩, ⟨1, [0]⟩, ⟨2, [0, 1]⟩, ⟨3, [0, 1, 2]⟩, ⟨4, [0, 1]⟩, ⟨6, [0, 1, 2, 3, 4]⟩, ⟨7, [0, 1, 2, 3, 4, 6]⟩, ⟨8, [0, 1, 2, 3, 4]⟩, ⟨9, [0, 1, 2, 3, 4]⟩, ⟨5, [6, 7, 8, 9]⟩, ⟨10, []⟩]), (11, [⟨0, []⟩, ⟨1, [0]⟩, ⟨2, [0, 1]⟩, ⟨3, [0]⟩, ⟨4, []⟩])]
/-- the orders of the drawn regions of aead.SealIn -/
def pl20 : List (Nat × List PStep) := [(7, [⟨0, []⟩, ⟨1, [0]⟩, ⟨2, [0, 1]⟩, ⟨3, [0]⟩, ⟨4, []⟩]), (8, [⟨0, []⟩, ⟨1, [0]⟩, ⟨2, []⟩, ⟨3, [0, 1, 2]⟩, ⟨4, [0, 1, 2, 3]⟩, ⟨5, [0, 1, 2, 3, 4]⟩, ⟨6, [0, 1, 2, 3, 4, 5]⟩, ⟨7, [0, 1, 2, 3, 4]⟩, ⟨8, [0, 1, 2]⟩, ⟨9, []⟩])]

def two (l : List UInt8) (a na b nb : Nat) : List UInt8 := (l.drop a).take na ++ (l.drop b).take nb
def aForm (w : Int) (key nonce aad : List UInt8) (long : Int) : Prop := aKey w key.length ∧ nonce.length = 12 ∧ aad.length ≤ 65536 ∧ long ≤ 65536
instance (w : Int) (key nonce aad : List UInt8) (long : Int) : Decidable (aForm w key nonce aad long) := by unfold aForm; exact inferInstance
def openInS : Spec := fun args hp K => match args, hp with
  | [.int w, .str key, .str nonce, .str aad, .sl 0 0 0 oa na ca, .sl 0 0 0 ob nb cb], [.mk t [.arr8 m l]] => Pre (off oa + na ≤ l.length ∧ off ob + nb ≤ l.length ∧ na + nb ≤ 4611686018427387904)
      (CondVC (decide (aForm w key nonce aad ((na : Int) + (nb : Int) - 16)))
        (CondVC (decide (16 ≤ na + nb ∧ aTag w key nonce aad ((two l (off oa) na (off ob) nb).take (na + nb - 16)) = (two l (off oa) na (off ob) nb).drop (na + nb - 16)))
          (K (.tup [.int ((na : Int) + (nb : Int) - 16), .int 0]) [.mk t [.arr8 m (sprd l (off oa) na (off ob) nb (aStr w key nonce ((two l (off oa) na (off ob) nb).take (na + nb - 16)) ++ (two l (off oa) na (off ob) nb).drop (na + nb - 16)))]])
          (K (.tup [.int 0, .int 801]) [.mk t [.arr8 m l]]))
        (K (.tup [.int 0, .int 800]) [.mk t [.arr8 m l]]))
  | _, _ => False
theorem sprd_app {l s x : List UInt8} {a na b nb : Nat} (h : s.length = na + nb) : sprd l a na b nb (s ++ x) = sprd l a na b nb s := by
  unfold sprd
  rw [List.take_append_of_le_length (by omega), List.drop_append_of_le_length (by omega), List.take_append_of_le_length (by rw [List.length_drop]; omega)]
set_option maxHeartbeats 4000000 in
theorem openIn_s : SoundC prog 19 openInS := by
  refine sound_f tyAead_ok (fnok_cons amay_s (fnok_cons join_s (fnok_cons newCipher_s (fnok_cons ctag_s (fnok_cons cxor_s (fnok_cons spread_s fnok_nil)))))) rfl func19 rfl call19 (D := pl19) ?_ ?_
  · intro args hp K h
    unfold openInS at h
    split at h
    · exact Nat.le_of_ble_eq_true rfl
    · exact h.elim
  · intro args hp K h
    unfold openInS at h
    split at h
    · rename_i w key nonce aad oa na ca ob nb cb t m l
      obtain ⟨⟨ha, hb, hab⟩, h⟩ := pre_e h
      obtain ⟨ht0, hn0⟩ := cond_e h
      by_cases h0 : aForm w key nonce aad ((na : Int) + (nb : Int) - 16)
      · have h := ht0 (decide_eq_true h0)
        have hd : decide (aKey w key.length ∧ nonce.length = 12 ∧ aad.length ≤ 65536 ∧ (na : Int) + (nb : Int) - 16 ≤ 65536) = true := decide_eq_true (by unfold aForm at h0; exact h0)
        unfold aForm at h0
        obtain ⟨hk, h1, h2, h3⟩ := h0
        unfold aKey at hk
        obtain ⟨ht, hn⟩ := cond_e h
        by_cases h16 : 16 ≤ na + nb
        · have hSl : (List.take na (List.drop (off oa) l) ++ List.take nb (List.drop (off ob) l)).length = na + nb := by simp only [List.length_append, List.length_take, List.length_drop]; omega
          have hnn : ((na : Int) + (nb : Int) - 16).toNat = na + nb - 16 := by omega
          by_cases h4 : w = 4867
          · repeat ((conv => whnf); first | refine pre_a ?_ | refine cond_ta ?_ | refine cond_fa ?_ | refine same_i ?_ | refine pre_i (by first | exact hd | (rw [hd]; rfl)) ?_ | refine cond_t (by first | exact hd | (rw [hd]; rfl)) ?_ | refine cond_f (by first | exact hd | (rw [hd]; rfl)) ?_)
            conv => whnf
            refine all_i fun x => ?_
            have hRl : (List.take na (List.drop (off oa) l) ++ List.take nb (List.drop (off ob) l) ++ x).length = na + nb + x.length := by rw [List.length_append, hSl]
            have hpo : off (addO [] (slO (na + nb + x.length) ((na : Int) + (nb : Int) - 16).toNat) ty5.sz) + (na + nb - ((na : Int) + (nb : Int) - 16).toNat) ≤ (List.take na (List.drop (off oa) l) ++ List.take nb (List.drop (off ob) l) ++ x).length := by
              rw [hRl, hnn, off_addO, slO_eq (by omega)]
              show 0 + (na + nb - 16) * 1 + _ ≤ _
              omega
            have hT1 : List.take ((na : Int) + (nb : Int) - 16).toNat (List.take na (List.drop (off oa) l) ++ List.take nb (List.drop (off ob) l) ++ x) = (two l (off oa) na (off ob) nb).take (na + nb - 16) := by
              rw [hnn, List.take_append_of_le_length (by omega)]; rfl
            have hT2 : List.take (na + nb - ((na : Int) + (nb : Int) - 16).toNat) (List.drop (off (addO [] (slO (na + nb + x.length) ((na : Int) + (nb : Int) - 16).toNat) ty5.sz)) (List.take na (List.drop (off oa) l) ++ List.take nb (List.drop (off ob) l) ++ x)) = (two l (off oa) na (off ob) nb).drop (na + nb - 16) := by
              rw [hnn, off_addO, slO_eq (by omega)]
              show List.take _ (List.drop (0 + (na + nb - 16) * 1) _) = _
              rw [Nat.zero_add, Nat.mul_one, List.drop_append_of_le_length (by omega), List.take_left' (by rw [List.length_drop]; omega)]
              rfl
            have hT3 : List.drop ((na : Int) + (nb : Int) - 16).toNat (List.take na (List.drop (off oa) l) ++ List.take nb (List.drop (off ob) l) ++ x) = (two l (off oa) na (off ob) nb).drop (na + nb - 16) ++ x := by
              rw [hnn, List.drop_append_of_le_length (by omega)]; rfl
            have hTag : aTag w key nonce aad = polyTag key nonce aad := by funext b; unfold aTag; rw [if_pos h4]
            have hStr : aStr w key nonce = strm key nonce 1 := by funext b; unfold aStr; rw [if_pos h4]
            have hX : (strm key nonce (UInt32.ofInt 1) (List.take ((na : Int) + (nb : Int) - 16).toNat (List.take na (List.drop (off oa) l) ++ List.take nb (List.drop (off ob) l) ++ x)) ++ List.drop ((na : Int) + (nb : Int) - 16).toNat (List.take na (List.drop (off oa) l) ++ List.take nb (List.drop (off ob) l) ++ x)) = (aStr w key nonce ((two l (off oa) na (off ob) nb).take (na + nb - 16)) ++ (two l (off oa) na (off ob) nb).drop (na + nb - 16)) ++ x := by
              rw [hT1, hT3, hStr, List.append_assoc]; rfl
            have hXl : (strm key nonce (UInt32.ofInt 1) (List.take ((na : Int) + (nb : Int) - 16).toNat (List.take na (List.drop (off oa) l) ++ List.take nb (List.drop (off ob) l) ++ x)) ++ List.drop ((na : Int) + (nb : Int) - 16).toNat (List.take na (List.drop (off oa) l) ++ List.take nb (List.drop (off ob) l) ++ x)).length = na + nb + x.length := by
              rw [hX, List.length_append, List.length_append, aStr_len, List.length_take, List.length_drop]
              have : (two l (off oa) na (off ob) nb).length = na + nb := hSl
              omega
            have hpt : key.length = 32 ∧ nonce.length = 12 ∧ aad.length ≤ 65536 ∧ ((na : Int) + (nb : Int) - 16).toNat ≤ 65536 ∧ ((na : Int) + (nb : Int) - 16).toNat ≤ (List.take na (List.drop (off oa) l) ++ List.take nb (List.drop (off ob) l) ++ x).length ∧ ((na : Int) + (nb : Int) - 16).toNat ≤ na + nb + x.length := ⟨by omega, h1, h2, by omega, by omega, by omega⟩
            have hpx : key.length = 32 ∧ nonce.length = 12 ∧ ((na : Int) + (nb : Int) - 16).toNat ≤ (List.take na (List.drop (off oa) l) ++ List.take nb (List.drop (off ob) l) ++ x).length ∧ ((na : Int) + (nb : Int) - 16).toNat ≤ na + nb + x.length ∧ ((na : Int) + (nb : Int) - 16).toNat ≤ 9223372036854775807 := ⟨by omega, h1, by omega, by omega, by omega⟩
            have hps : na + nb = na + nb ∧ off oa + na ≤ l.length ∧ off ob + nb ≤ l.length ∧ na + nb ≤ (strm key nonce (UInt32.ofInt 1) (List.take ((na : Int) + (nb : Int) - 16).toNat (List.take na (List.drop (off oa) l) ++ List.take nb (List.drop (off ob) l) ++ x)) ++ List.drop ((na : Int) + (nb : Int) - 16).toNat (List.take na (List.drop (off oa) l) ++ List.take nb (List.drop (off ob) l) ++ x)).length ∧ na + nb ≤ na + nb + x.length := ⟨rfl, ha, hb, by omega, by omega⟩
            by_cases hq : polyTag key nonce aad ((two l (off oa) na (off ob) nb).take (na + nb - 16)) = (two l (off oa) na (off ob) nb).drop (na + nb - 16)
            · have h := ht (decide_eq_true ⟨h16, by rw [hTag]; exact hq⟩)
              have hdq : decide (polyTag key nonce aad (List.take ((na : Int) + (nb : Int) - 16).toNat (List.take na (List.drop (off oa) l) ++ List.take nb (List.drop (off ob) l) ++ x)) = List.take (na + nb - ((na : Int) + (nb : Int) - 16).toNat) (List.drop (off (addO [] (slO (na + nb + x.length) ((na : Int) + (nb : Int) - 16).toNat) ty5.sz)) (List.take na (List.drop (off oa) l) ++ List.take nb (List.drop (off ob) l) ++ x))) = true := decide_eq_true (by rw [hT1, hT2]; exact hq)
              repeat ((conv => whnf); first | refine pre_a ?_ | refine cond_ta ?_ | refine cond_fa ?_ | refine same_i ?_ | refine pre_i (by first | exact hd | (rw [hd]; rfl) | exact hdq | (rw [hdq]; rfl)) ?_ | refine cond_t (by first | exact hd | (rw [hd]; rfl) | exact hdq | (rw [hdq]; rfl)) ?_ | refine cond_f (by first | exact hd | (rw [hd]; rfl) | exact hdq | (rw [hdq]; rfl)) ?_)
              have hSl2 : (two l (off oa) na (off ob) nb).length = na + nb := hSl
              conv => whnf
              refine final_h (hp' := [.mk t [.arr8 m (sprd l (off oa) na (off ob) nb (aStr w key nonce ((two l (off oa) na (off ob) nb).take (na + nb - 16)) ++ (two l (off oa) na (off ob) nb).drop (na + nb - 16)))]]) [0] h ?_
              repeat ((conv => whnf); refine same_i ?_)
              conv => whnf
              refine same_q (congrArg (fun y => SV.agg [SV.arr8 m y]) (by rw [hX]; exact sprd_app (by rw [List.length_append, aStr_len, List.length_take, List.length_drop]; omega))) ?_
              repeat ((conv => whnf); refine same_i ?_)
              exact trivial
            · have h := hn (decide_eq_false fun hh => hq (by rw [← hTag]; exact hh.2))
              have hdq : decide (polyTag key nonce aad (List.take ((na : Int) + (nb : Int) - 16).toNat (List.take na (List.drop (off oa) l) ++ List.take nb (List.drop (off ob) l) ++ x)) = List.take (na + nb - ((na : Int) + (nb : Int) - 16).toNat) (List.drop (off (addO [] (slO (na + nb + x.length) ((na : Int) + (nb : Int) - 16).toNat) ty5.sz)) (List.take na (List.drop (off oa) l) ++ List.take nb (List.drop (off ob) l) ++ x))) = false := decide_eq_false (by rw [hT1, hT2]; exact hq)
              repeat ((conv => whnf); first | refine pre_a ?_ | refine cond_ta ?_ | refine cond_fa ?_ | refine same_i ?_ | refine pre_i (by first | exact hd | (rw [hd]; rfl) | exact hdq | (rw [hdq]; rfl)) ?_ | refine cond_t (by first | exact hd | (rw [hd]; rfl) | exact hdq | (rw [hdq]; rfl)) ?_ | refine cond_f (by first | exact hd | (rw [hd]; rfl) | exact hdq | (rw [hdq]; rfl)) ?_)
              conv => whnf
              refine final_h (hp' := [.mk t [.arr8 m l]]) [0] h ?_
              repeat ((conv => whnf); refine same_i ?_)
              exact trivial
          · repeat ((conv => whnf); first | refine pre_a ?_ | refine cond_ta ?_ | refine cond_fa ?_ | refine same_i ?_ | refine pre_i (by first | exact hd | (rw [hd]; rfl)) ?_ | refine cond_t (by first | exact hd | (rw [hd]; rfl)) ?_ | refine cond_f (by first | exact hd | (rw [hd]; rfl)) ?_)
            conv => whnf
            refine all_i fun x => ?_
            have hRl : (List.take na (List.drop (off oa) l) ++ List.take nb (List.drop (off ob) l) ++ x).length = na + nb + x.length := by rw [List.length_append, hSl]
            have hpo : off (addO [] (slO (na + nb + x.length) ((na : Int) + (nb : Int) - 16).toNat) ty5.sz) + (na + nb - ((na : Int) + (nb : Int) - 16).toNat) ≤ (List.take na (List.drop (off oa) l) ++ List.take nb (List.drop (off ob) l) ++ x).length := by
              rw [hRl, hnn, off_addO, slO_eq (by omega)]
              show 0 + (na + nb - 16) * 1 + _ ≤ _
              omega
            have hT1 : List.take ((na : Int) + (nb : Int) - 16).toNat (List.take na (List.drop (off oa) l) ++ List.take nb (List.drop (off ob) l) ++ x) = (two l (off oa) na (off ob) nb).take (na + nb - 16) := by
              rw [hnn, List.take_append_of_le_length (by omega)]; rfl
            have hT2 : List.take (na + nb - ((na : Int) + (nb : Int) - 16).toNat) (List.drop (off (addO [] (slO (na + nb + x.length) ((na : Int) + (nb : Int) - 16).toNat) ty5.sz)) (List.take na (List.drop (off oa) l) ++ List.take nb (List.drop (off ob) l) ++ x)) = (two l (off oa) na (off ob) nb).drop (na + nb - 16) := by
              rw [hnn, off_addO, slO_eq (by omega)]
              show List.take _ (List.drop (0 + (na + nb - 16) * 1) _) = _
              rw [Nat.zero_add, Nat.mul_one, List.drop_append_of_le_length (by omega), List.take_left' (by rw [List.length_drop]; omega)]
              rfl
            have hT3 : List.drop ((na : Int) + (nb : Int) - 16).toNat (List.take na (List.drop (off oa) l) ++ List.take nb (List.drop (off ob) l) ++ x) = (two l (off oa) na (off ob) nb).drop (na + nb - 16) ++ x := by
              rw [hnn, List.drop_append_of_le_length (by omega)]; rfl
            have hTag : aTag w key nonce aad = gTag key nonce aad := by funext b; unfold aTag; rw [if_neg h4]
            have hStr : aStr w key nonce = gStr key nonce := by funext b; unfold aStr; rw [if_neg h4]
            have hX : (gst (gW key) (gR key) nonce 2 (List.take ((na : Int) + (nb : Int) - 16).toNat (List.take na (List.drop (off oa) l) ++ List.take nb (List.drop (off ob) l) ++ x)) ++ List.drop ((na : Int) + (nb : Int) - 16).toNat (List.take na (List.drop (off oa) l) ++ List.take nb (List.drop (off ob) l) ++ x)) = (aStr w key nonce ((two l (off oa) na (off ob) nb).take (na + nb - 16)) ++ (two l (off oa) na (off ob) nb).drop (na + nb - 16)) ++ x := by
              rw [hT1, hT3, hStr, List.append_assoc]; unfold gStr; rfl
            have hXl : (gst (gW key) (gR key) nonce 2 (List.take ((na : Int) + (nb : Int) - 16).toNat (List.take na (List.drop (off oa) l) ++ List.take nb (List.drop (off ob) l) ++ x)) ++ List.drop ((na : Int) + (nb : Int) - 16).toNat (List.take na (List.drop (off oa) l) ++ List.take nb (List.drop (off ob) l) ++ x)).length = na + nb + x.length := by
              rw [hX, List.length_append, List.length_append, aStr_len, List.length_take, List.length_drop]
              have : (two l (off oa) na (off ob) nb).length = na + nb := hSl
              omega
            have hWl := gW_len (key := key) (by omega)
            have hR7 : gR key = key.length / 4 + 7 := by unfold gR; rfl
            have hpt : box = box ∧ nonce.length = 12 ∧ 1 ≤ gR key ∧ gR key ≤ 100 ∧ 16 * gR key ≤ (gW key).length ∧ ((na : Int) + (nb : Int) - 16).toNat ≤ (List.take na (List.drop (off oa) l) ++ List.take nb (List.drop (off ob) l) ++ x).length ∧ ((na : Int) + (nb : Int) - 16).toNat ≤ na + nb + x.length ∧ aad.length ≤ 65536 ∧ ((na : Int) + (nb : Int) - 16).toNat ≤ 70000 := ⟨rfl, h1, by omega, by omega, by omega, by omega, by omega, h2, by omega⟩
            have hpx : box = box ∧ nonce.length = 12 ∧ 1 ≤ gR key ∧ gR key ≤ 100 ∧ 16 * gR key ≤ (gW key).length ∧ ((na : Int) + (nb : Int) - 16).toNat ≤ (List.take na (List.drop (off oa) l) ++ List.take nb (List.drop (off ob) l) ++ x).length ∧ ((na : Int) + (nb : Int) - 16).toNat ≤ na + nb + x.length ∧ ((na : Int) + (nb : Int) - 16).toNat ≤ 9223372036854775807 := ⟨rfl, h1, by omega, by omega, by omega, by omega, by omega, by omega⟩
            have hps : na + nb = na + nb ∧ off oa + na ≤ l.length ∧ off ob + nb ≤ l.length ∧ na + nb ≤ (gst (gW key) (gR key) nonce 2 (List.take ((na : Int) + (nb : Int) - 16).toNat (List.take na (List.drop (off oa) l) ++ List.take nb (List.drop (off ob) l) ++ x)) ++ List.drop ((na : Int) + (nb : Int) - 16).toNat (List.take na (List.drop (off oa) l) ++ List.take nb (List.drop (off ob) l) ++ x)).length ∧ na + nb ≤ na + nb + x.length := ⟨rfl, ha, hb, by omega, by omega⟩
            by_cases hq : gTag key nonce aad ((two l (off oa) na (off ob) nb).take (na + nb - 16)) = (two l (off oa) na (off ob) nb).drop (na + nb - 16)
            · have h := ht (decide_eq_true ⟨h16, by rw [hTag]; exact hq⟩)
              have hdq : decide (gtg (gW key) (gR key) ((gH (gW key) (gR key)).1, (gH (gW key) (gR key)).2) nonce aad (List.take ((na : Int) + (nb : Int) - 16).toNat (List.take na (List.drop (off oa) l) ++ List.take nb (List.drop (off ob) l) ++ x)) = List.take (na + nb - ((na : Int) + (nb : Int) - 16).toNat) (List.drop (off (addO [] (slO (na + nb + x.length) ((na : Int) + (nb : Int) - 16).toNat) ty5.sz)) (List.take na (List.drop (off oa) l) ++ List.take nb (List.drop (off ob) l) ++ x))) = true := decide_eq_true (by rw [hT1, hT2]; unfold gTag at hq; exact hq)
              repeat ((conv => whnf); first | refine pre_a ?_ | refine cond_ta ?_ | refine cond_fa ?_ | refine same_i ?_ | refine pre_i (by first | exact hd | (rw [hd]; rfl) | exact hdq | (rw [hdq]; rfl)) ?_ | refine cond_t (by first | exact hd | (rw [hd]; rfl) | exact hdq | (rw [hdq]; rfl)) ?_ | refine cond_f (by first | exact hd | (rw [hd]; rfl) | exact hdq | (rw [hdq]; rfl)) ?_)
              have hSl2 : (two l (off oa) na (off ob) nb).length = na + nb := hSl
              conv => whnf
              refine final_h (hp' := [.mk t [.arr8 m (sprd l (off oa) na (off ob) nb (aStr w key nonce ((two l (off oa) na (off ob) nb).take (na + nb - 16)) ++ (two l (off oa) na (off ob) nb).drop (na + nb - 16)))]]) [0] h ?_
              repeat ((conv => whnf); refine same_i ?_)
              conv => whnf
              refine same_q (congrArg (fun y => SV.agg [SV.arr8 m y]) (by rw [hX]; exact sprd_app (by rw [List.length_append, aStr_len, List.length_take, List.length_drop]; omega))) ?_
              repeat ((conv => whnf); refine same_i ?_)
              exact trivial
            · have h := hn (decide_eq_false fun hh => hq (by rw [← hTag]; exact hh.2))
              have hdq : decide (gtg (gW key) (gR key) ((gH (gW key) (gR key)).1, (gH (gW key) (gR key)).2) nonce aad (List.take ((na : Int) + (nb : Int) - 16).toNat (List.take na (List.drop (off oa) l) ++ List.take nb (List.drop (off ob) l) ++ x)) = List.take (na + nb - ((na : Int) + (nb : Int) - 16).toNat) (List.drop (off (addO [] (slO (na + nb + x.length) ((na : Int) + (nb : Int) - 16).toNat) ty5.sz)) (List.take na (List.drop (off oa) l) ++ List.take nb (List.drop (off ob) l) ++ x))) = false := decide_eq_false (by rw [hT1, hT2]; unfold gTag at hq; exact hq)
              repeat ((conv => whnf); first | refine pre_a ?_ | refine cond_ta ?_ | refine cond_fa ?_ | refine same_i ?_ | refine pre_i (by first | exact hd | (rw [hd]; rfl) | exact hdq | (rw [hdq]; rfl)) ?_ | refine cond_t (by first | exact hd | (rw [hd]; rfl) | exact hdq | (rw [hdq]; rfl)) ?_ | refine cond_f (by first | exact hd | (rw [hd]; rfl) | exact hdq | (rw [hdq]; rfl)) ?_)
              conv => whnf
              refine final_h (hp' := [.mk t [.arr8 m l]]) [0] h ?_
              repeat ((conv => whnf); refine same_i ?_)
              exact trivial
        · have h := hn (decide_eq_false fun hh => h16 hh.1)
          repeat ((conv => whnf); first | refine pre_a ?_ | refine cond_ta ?_ | refine cond_fa ?_ | refine same_i ?_ | refine pre_i (by first | exact hd | (rw [hd]; rfl)) ?_ | refine cond_t (by first | exact hd | (rw [hd]; rfl)) ?_ | refine cond_f (by first | exact hd | (rw [hd]; rfl)) ?_)
          conv => whnf
          refine final_h (hp' := [.mk t [.arr8 m l]]) [0] h ?_
          repeat ((conv => whnf); refine same_i ?_)
          exact trivial
      · have h := hn0 (decide_eq_false h0)
        have hd : decide (aKey w key.length ∧ nonce.length = 12 ∧ aad.length ≤ 65536 ∧ (na : Int) + (nb : Int) - 16 ≤ 65536) = false := decide_eq_false (by unfold aForm at h0; exact h0)
        repeat ((conv => whnf); first | refine pre_a ?_ | refine cond_ta ?_ | refine cond_fa ?_ | refine same_i ?_ | refine pre_i (by first | exact hd | (rw [hd]; rfl)) ?_ | refine cond_t (by first | exact hd | (rw [hd]; rfl)) ?_ | refine cond_f (by first | exact hd | (rw [hd]; rfl)) ?_)
        conv => whnf
        refine final_h (hp' := [.mk t [.arr8 m l]]) [0] h ?_
        repeat ((conv => whnf); refine same_i ?_)
        exact trivial
    · exact h.elim
end Go.Sym.A

namespace Go.Sym.A
open Go Go.Proofs.Try Go.Sym.Lp Go.Sym.Gcm Go.Sym.Aes Go.Sym.Pol Go.Sym.Cha
set_option maxRecDepth 100000
attribute [local irreducible] polySeal polyTag gSeal gTag gStr strm rpSeal rpTag sprd aTag aStr gst gtg gW gR gH aSeal

def sealInS : Spec := fun args hp K => match args, hp with
  | [.int w, .str key, .str nonce, .str aad, .sl 0 0 0 oa na ca, .sl 0 0 0 ob nb cb], [.mk t [.arr8 m l]] => Pre (off oa + na ≤ l.length ∧ off ob + nb ≤ l.length ∧ na + nb ≤ 4611686018427387904)
      (CondVC (decide (16 ≤ na + nb ∧ aForm w key nonce aad ((na : Int) + (nb : Int) - 16)))
        (K (.int 0) [.mk t [.arr8 m (sprd l (off oa) na (off ob) nb (aSeal w key nonce aad ((two l (off oa) na (off ob) nb).take (na + nb - 16))))]])
        (K (.int 800) [.mk t [.arr8 m l]]))
  | _, _ => False
set_option maxHeartbeats 4000000 in
theorem sealIn_s : SoundC prog 20 sealInS := by
  refine sound_f tyAead_ok (fnok_cons amay_s (fnok_cons join_s (fnok_cons newCipher_s (fnok_cons ctag_s (fnok_cons cxor_s (fnok_cons spread_s fnok_nil)))))) rfl func20 rfl call20 (D := pl20) ?_ ?_
  · intro args hp K h
    unfold sealInS at h
    split at h
    · exact Nat.le_of_ble_eq_true rfl
    · exact h.elim
  · intro args hp K h
    unfold sealInS at h
    split at h
    · rename_i w key nonce aad oa na ca ob nb cb t m l
      obtain ⟨⟨ha, hb, hab⟩, h⟩ := pre_e h
      obtain ⟨ht, hn⟩ := cond_e h
      by_cases h16 : 16 ≤ na + nb
      · by_cases h0 : aForm w key nonce aad ((na : Int) + (nb : Int) - 16)
        · have h := ht (decide_eq_true ⟨h16, h0⟩)
          have hd : decide (aKey w key.length ∧ nonce.length = 12 ∧ aad.length ≤ 65536 ∧ (na : Int) + (nb : Int) - 16 ≤ 65536) = true := decide_eq_true (by unfold aForm at h0; exact h0)
          unfold aForm at h0
          obtain ⟨hk, h1, h2, h3⟩ := h0
          unfold aKey at hk
          have hSl : (List.take na (List.drop (off oa) l) ++ List.take nb (List.drop (off ob) l)).length = na + nb := by simp only [List.length_append, List.length_take, List.length_drop]; omega
          have hSl2 : (two l (off oa) na (off ob) nb).length = na + nb := hSl
          have hnn : ((na : Int) + (nb : Int) - 16).toNat = na + nb - 16 := by omega
          by_cases h4 : w = 4867
          · repeat ((conv => whnf); first | refine pre_a ?_ | refine cond_ta ?_ | refine cond_fa ?_ | refine same_i ?_ | refine pre_i (by first | exact hd | (rw [hd]; rfl)) ?_ | refine cond_t (by first | exact hd | (rw [hd]; rfl)) ?_ | refine cond_f (by first | exact hd | (rw [hd]; rfl)) ?_)
            conv => whnf
            refine all_i fun x => ?_
            have hRl : (List.take na (List.drop (off oa) l) ++ List.take nb (List.drop (off ob) l) ++ x).length = na + nb + x.length := by rw [List.length_append, hSl]
            have hT1 : List.take ((na : Int) + (nb : Int) - 16).toNat (List.take na (List.drop (off oa) l) ++ List.take nb (List.drop (off ob) l) ++ x) = (two l (off oa) na (off ob) nb).take (na + nb - 16) := by
              rw [hnn, List.take_append_of_le_length (by omega)]; rfl
            have hT3 : List.drop ((na : Int) + (nb : Int) - 16).toNat (List.take na (List.drop (off oa) l) ++ List.take nb (List.drop (off ob) l) ++ x) = (two l (off oa) na (off ob) nb).drop (na + nb - 16) ++ x := by
              rw [hnn, List.drop_append_of_le_length (by omega)]; rfl
            have hStr : aStr w key nonce = strm key nonce 1 := by funext b; unfold aStr; rw [if_pos h4]
            have hX : (strm key nonce (UInt32.ofInt 1) (List.take ((na : Int) + (nb : Int) - 16).toNat (List.take na (List.drop (off oa) l) ++ List.take nb (List.drop (off ob) l) ++ x)) ++ List.drop ((na : Int) + (nb : Int) - 16).toNat (List.take na (List.drop (off oa) l) ++ List.take nb (List.drop (off ob) l) ++ x)) = aStr w key nonce ((two l (off oa) na (off ob) nb).take (na + nb - 16)) ++ ((two l (off oa) na (off ob) nb).drop (na + nb - 16) ++ x) := by
              rw [hT1, hT3, hStr]; rfl
            have hXl : (strm key nonce (UInt32.ofInt 1) (List.take ((na : Int) + (nb : Int) - 16).toNat (List.take na (List.drop (off oa) l) ++ List.take nb (List.drop (off ob) l) ++ x)) ++ List.drop ((na : Int) + (nb : Int) - 16).toNat (List.take na (List.drop (off oa) l) ++ List.take nb (List.drop (off ob) l) ++ x)).length = na + nb + x.length := by
              rw [hX, List.length_append, List.length_append, aStr_len, List.length_take, List.length_drop]
              omega
            have hof : (off (addO [] (slO (na + nb + x.length) ((na : Int) + (nb : Int) - 16).toNat) ty5.sz)) = na + nb - 16 := by rw [hnn, off_addO, slO_eq (by omega)]; show 0 + (na + nb - 16) * 1 = _; omega
            have hpo : (off (addO [] (slO (na + nb + x.length) ((na : Int) + (nb : Int) - 16).toNat) ty5.sz)) + (na + nb - ((na : Int) + (nb : Int) - 16).toNat) ≤ (strm key nonce (UInt32.ofInt 1) (List.take ((na : Int) + (nb : Int) - 16).toNat (List.take na (List.drop (off oa) l) ++ List.take nb (List.drop (off ob) l) ++ x)) ++ List.drop ((na : Int) + (nb : Int) - 16).toNat (List.take na (List.drop (off oa) l) ++ List.take nb (List.drop (off ob) l) ++ x)).length := by rw [hof, hXl, hnn]; omega
            have hA1 : List.take ((na : Int) + (nb : Int) - 16).toNat (strm key nonce (UInt32.ofInt 1) (List.take ((na : Int) + (nb : Int) - 16).toNat (List.take na (List.drop (off oa) l) ++ List.take nb (List.drop (off ob) l) ++ x)) ++ List.drop ((na : Int) + (nb : Int) - 16).toNat (List.take na (List.drop (off oa) l) ++ List.take nb (List.drop (off ob) l) ++ x)) = aStr w key nonce ((two l (off oa) na (off ob) nb).take (na + nb - 16)) := by
              rw [hX]; exact List.take_left' (by rw [aStr_len, List.length_take, hnn]; omega)
            have hTg : (polyTag key nonce aad (List.take ((na : Int) + (nb : Int) - 16).toNat (strm key nonce (UInt32.ofInt 1) (List.take ((na : Int) + (nb : Int) - 16).toNat (List.take na (List.drop (off oa) l) ++ List.take nb (List.drop (off ob) l) ++ x)) ++ List.drop ((na : Int) + (nb : Int) - 16).toNat (List.take na (List.drop (off oa) l) ++ List.take nb (List.drop (off ob) l) ++ x)))) = aTag w key nonce aad (aStr w key nonce ((two l (off oa) na (off ob) nb).take (na + nb - 16))) := by
              rw [hA1]; unfold aTag; rw [if_pos h4]
            have hTl : (polyTag key nonce aad (List.take ((na : Int) + (nb : Int) - 16).toNat (strm key nonce (UInt32.ofInt 1) (List.take ((na : Int) + (nb : Int) - 16).toNat (List.take na (List.drop (off oa) l) ++ List.take nb (List.drop (off ob) l) ++ x)) ++ List.drop ((na : Int) + (nb : Int) - 16).toNat (List.take na (List.drop (off oa) l) ++ List.take nb (List.drop (off ob) l) ++ x)))).length = 16 := by rw [hTg, aTag_len]
            have hpx : key.length = 32 ∧ nonce.length = 12 ∧ ((na : Int) + (nb : Int) - 16).toNat ≤ (List.take na (List.drop (off oa) l) ++ List.take nb (List.drop (off ob) l) ++ x).length ∧ ((na : Int) + (nb : Int) - 16).toNat ≤ na + nb + x.length ∧ ((na : Int) + (nb : Int) - 16).toNat ≤ 9223372036854775807 := ⟨by omega, h1, by omega, by omega, by omega⟩
            have hpt : key.length = 32 ∧ nonce.length = 12 ∧ aad.length ≤ 65536 ∧ ((na : Int) + (nb : Int) - 16).toNat ≤ 65536 ∧ ((na : Int) + (nb : Int) - 16).toNat ≤ (strm key nonce (UInt32.ofInt 1) (List.take ((na : Int) + (nb : Int) - 16).toNat (List.take na (List.drop (off oa) l) ++ List.take nb (List.drop (off ob) l) ++ x)) ++ List.drop ((na : Int) + (nb : Int) - 16).toNat (List.take na (List.drop (off oa) l) ++ List.take nb (List.drop (off ob) l) ++ x)).length ∧ ((na : Int) + (nb : Int) - 16).toNat ≤ na + nb + x.length := ⟨by omega, h1, h2, by omega, by omega, by omega⟩
            have hSp : (splice (strm key nonce (UInt32.ofInt 1) (List.take ((na : Int) + (nb : Int) - 16).toNat (List.take na (List.drop (off oa) l) ++ List.take nb (List.drop (off ob) l) ++ x)) ++ List.drop ((na : Int) + (nb : Int) - 16).toNat (List.take na (List.drop (off oa) l) ++ List.take nb (List.drop (off ob) l) ++ x)) (off (addO [] (slO (na + nb + x.length) ((na : Int) + (nb : Int) - 16).toNat) ty5.sz)) (List.take (min (polyTag key nonce aad (List.take ((na : Int) + (nb : Int) - 16).toNat (strm key nonce (UInt32.ofInt 1) (List.take ((na : Int) + (nb : Int) - 16).toNat (List.take na (List.drop (off oa) l) ++ List.take nb (List.drop (off ob) l) ++ x)) ++ List.drop ((na : Int) + (nb : Int) - 16).toNat (List.take na (List.drop (off oa) l) ++ List.take nb (List.drop (off ob) l) ++ x)))).length (na + nb - ((na : Int) + (nb : Int) - 16).toNat)) (polyTag key nonce aad (List.take ((na : Int) + (nb : Int) - 16).toNat (strm key nonce (UInt32.ofInt 1) (List.take ((na : Int) + (nb : Int) - 16).toNat (List.take na (List.drop (off oa) l) ++ List.take nb (List.drop (off ob) l) ++ x)) ++ List.drop ((na : Int) + (nb : Int) - 16).toNat (List.take na (List.drop (off oa) l) ++ List.take nb (List.drop (off ob) l) ++ x)))))) = aSeal w key nonce aad ((two l (off oa) na (off ob) nb).take (na + nb - 16)) ++ x := by
              rw [hTl, show min 16 (na + nb - ((na : Int) + (nb : Int) - 16).toNat) = 16 by omega, List.take_of_length_le (Nat.le_of_eq hTl), hTg, hof, hX, aSeal_eq]
              unfold splice
              rw [aTag_len, List.take_left' (by rw [aStr_len, List.length_take]; omega), ← List.append_assoc (aStr w key nonce _), List.drop_left' (by rw [List.length_append, aStr_len, List.length_take, List.length_drop]; omega)]
            have hAl : (aSeal w key nonce aad ((two l (off oa) na (off ob) nb).take (na + nb - 16))).length = na + nb := by
              rw [aSeal_eq, List.length_append, aTag_len, aStr_len, List.length_take]; omega
            have hSpl : (splice (strm key nonce (UInt32.ofInt 1) (List.take ((na : Int) + (nb : Int) - 16).toNat (List.take na (List.drop (off oa) l) ++ List.take nb (List.drop (off ob) l) ++ x)) ++ List.drop ((na : Int) + (nb : Int) - 16).toNat (List.take na (List.drop (off oa) l) ++ List.take nb (List.drop (off ob) l) ++ x)) (off (addO [] (slO (na + nb + x.length) ((na : Int) + (nb : Int) - 16).toNat) ty5.sz)) (List.take (min (polyTag key nonce aad (List.take ((na : Int) + (nb : Int) - 16).toNat (strm key nonce (UInt32.ofInt 1) (List.take ((na : Int) + (nb : Int) - 16).toNat (List.take na (List.drop (off oa) l) ++ List.take nb (List.drop (off ob) l) ++ x)) ++ List.drop ((na : Int) + (nb : Int) - 16).toNat (List.take na (List.drop (off oa) l) ++ List.take nb (List.drop (off ob) l) ++ x)))).length (na + nb - ((na : Int) + (nb : Int) - 16).toNat)) (polyTag key nonce aad (List.take ((na : Int) + (nb : Int) - 16).toNat (strm key nonce (UInt32.ofInt 1) (List.take ((na : Int) + (nb : Int) - 16).toNat (List.take na (List.drop (off oa) l) ++ List.take nb (List.drop (off ob) l) ++ x)) ++ List.drop ((na : Int) + (nb : Int) - 16).toNat (List.take na (List.drop (off oa) l) ++ List.take nb (List.drop (off ob) l) ++ x)))))).length = na + nb + x.length := by rw [hSp, List.length_append, hAl]
            have hps : na + nb = na + nb ∧ off oa + na ≤ l.length ∧ off ob + nb ≤ l.length ∧ na + nb ≤ (splice (strm key nonce (UInt32.ofInt 1) (List.take ((na : Int) + (nb : Int) - 16).toNat (List.take na (List.drop (off oa) l) ++ List.take nb (List.drop (off ob) l) ++ x)) ++ List.drop ((na : Int) + (nb : Int) - 16).toNat (List.take na (List.drop (off oa) l) ++ List.take nb (List.drop (off ob) l) ++ x)) (off (addO [] (slO (na + nb + x.length) ((na : Int) + (nb : Int) - 16).toNat) ty5.sz)) (List.take (min (polyTag key nonce aad (List.take ((na : Int) + (nb : Int) - 16).toNat (strm key nonce (UInt32.ofInt 1) (List.take ((na : Int) + (nb : Int) - 16).toNat (List.take na (List.drop (off oa) l) ++ List.take nb (List.drop (off ob) l) ++ x)) ++ List.drop ((na : Int) + (nb : Int) - 16).toNat (List.take na (List.drop (off oa) l) ++ List.take nb (List.drop (off ob) l) ++ x)))).length (na + nb - ((na : Int) + (nb : Int) - 16).toNat)) (polyTag key nonce aad (List.take ((na : Int) + (nb : Int) - 16).toNat (strm key nonce (UInt32.ofInt 1) (List.take ((na : Int) + (nb : Int) - 16).toNat (List.take na (List.drop (off oa) l) ++ List.take nb (List.drop (off ob) l) ++ x)) ++ List.drop ((na : Int) + (nb : Int) - 16).toNat (List.take na (List.drop (off oa) l) ++ List.take nb (List.drop (off ob) l) ++ x)))))).length ∧ na + nb ≤ na + nb + x.length := ⟨rfl, ha, hb, by omega, by omega⟩
            repeat ((conv => whnf); first | refine pre_a ?_ | refine cond_ta ?_ | refine cond_fa ?_ | refine same_i ?_)
            conv => whnf
            refine final_h (hp' := [.mk t [.arr8 m (sprd l (off oa) na (off ob) nb (aSeal w key nonce aad ((two l (off oa) na (off ob) nb).take (na + nb - 16))))]]) [0] h ?_
            repeat ((conv => whnf); refine same_i ?_)
            conv => whnf
            refine same_q (congrArg (fun y => SV.agg [SV.arr8 m y]) (by rw [hSp]; exact sprd_app hAl)) ?_
            repeat ((conv => whnf); refine same_i ?_)
            exact trivial
          · repeat ((conv => whnf); first | refine pre_a ?_ | refine cond_ta ?_ | refine cond_fa ?_ | refine same_i ?_ | refine pre_i (by first | exact hd | (rw [hd]; rfl)) ?_ | refine cond_t (by first | exact hd | (rw [hd]; rfl)) ?_ | refine cond_f (by first | exact hd | (rw [hd]; rfl)) ?_)
            conv => whnf
            refine all_i fun x => ?_
            have hRl : (List.take na (List.drop (off oa) l) ++ List.take nb (List.drop (off ob) l) ++ x).length = na + nb + x.length := by rw [List.length_append, hSl]
            have hT1 : List.take ((na : Int) + (nb : Int) - 16).toNat (List.take na (List.drop (off oa) l) ++ List.take nb (List.drop (off ob) l) ++ x) = (two l (off oa) na (off ob) nb).take (na + nb - 16) := by
              rw [hnn, List.take_append_of_le_length (by omega)]; rfl
            have hT3 : List.drop ((na : Int) + (nb : Int) - 16).toNat (List.take na (List.drop (off oa) l) ++ List.take nb (List.drop (off ob) l) ++ x) = (two l (off oa) na (off ob) nb).drop (na + nb - 16) ++ x := by
              rw [hnn, List.drop_append_of_le_length (by omega)]; rfl
            have hStr : aStr w key nonce = gStr key nonce := by funext b; unfold aStr; rw [if_neg h4]
            have hX : (gst (gW key) (gR key) nonce 2 (List.take ((na : Int) + (nb : Int) - 16).toNat (List.take na (List.drop (off oa) l) ++ List.take nb (List.drop (off ob) l) ++ x)) ++ List.drop ((na : Int) + (nb : Int) - 16).toNat (List.take na (List.drop (off oa) l) ++ List.take nb (List.drop (off ob) l) ++ x)) = aStr w key nonce ((two l (off oa) na (off ob) nb).take (na + nb - 16)) ++ ((two l (off oa) na (off ob) nb).drop (na + nb - 16) ++ x) := by
              rw [hT1, hT3, hStr]; unfold gStr; rfl
            have hXl : (gst (gW key) (gR key) nonce 2 (List.take ((na : Int) + (nb : Int) - 16).toNat (List.take na (List.drop (off oa) l) ++ List.take nb (List.drop (off ob) l) ++ x)) ++ List.drop ((na : Int) + (nb : Int) - 16).toNat (List.take na (List.drop (off oa) l) ++ List.take nb (List.drop (off ob) l) ++ x)).length = na + nb + x.length := by
              rw [hX, List.length_append, List.length_append, aStr_len, List.length_take, List.length_drop]
              omega
            have hof : (off (addO [] (slO (na + nb + x.length) ((na : Int) + (nb : Int) - 16).toNat) ty5.sz)) = na + nb - 16 := by rw [hnn, off_addO, slO_eq (by omega)]; show 0 + (na + nb - 16) * 1 = _; omega
            have hpo : (off (addO [] (slO (na + nb + x.length) ((na : Int) + (nb : Int) - 16).toNat) ty5.sz)) + (na + nb - ((na : Int) + (nb : Int) - 16).toNat) ≤ (gst (gW key) (gR key) nonce 2 (List.take ((na : Int) + (nb : Int) - 16).toNat (List.take na (List.drop (off oa) l) ++ List.take nb (List.drop (off ob) l) ++ x)) ++ List.drop ((na : Int) + (nb : Int) - 16).toNat (List.take na (List.drop (off oa) l) ++ List.take nb (List.drop (off ob) l) ++ x)).length := by rw [hof, hXl, hnn]; omega
            have hA1 : List.take ((na : Int) + (nb : Int) - 16).toNat (gst (gW key) (gR key) nonce 2 (List.take ((na : Int) + (nb : Int) - 16).toNat (List.take na (List.drop (off oa) l) ++ List.take nb (List.drop (off ob) l) ++ x)) ++ List.drop ((na : Int) + (nb : Int) - 16).toNat (List.take na (List.drop (off oa) l) ++ List.take nb (List.drop (off ob) l) ++ x)) = aStr w key nonce ((two l (off oa) na (off ob) nb).take (na + nb - 16)) := by
              rw [hX]; exact List.take_left' (by rw [aStr_len, List.length_take, hnn]; omega)
            have hTg : (gtg (gW key) (gR key) ((gH (gW key) (gR key)).1, (gH (gW key) (gR key)).2) nonce aad (List.take ((na : Int) + (nb : Int) - 16).toNat (gst (gW key) (gR key) nonce 2 (List.take ((na : Int) + (nb : Int) - 16).toNat (List.take na (List.drop (off oa) l) ++ List.take nb (List.drop (off ob) l) ++ x)) ++ List.drop ((na : Int) + (nb : Int) - 16).toNat (List.take na (List.drop (off oa) l) ++ List.take nb (List.drop (off ob) l) ++ x)))) = aTag w key nonce aad (aStr w key nonce ((two l (off oa) na (off ob) nb).take (na + nb - 16))) := by
              rw [hA1]; unfold aTag; rw [if_neg h4]; unfold gTag; rfl
            have hTl : (gtg (gW key) (gR key) ((gH (gW key) (gR key)).1, (gH (gW key) (gR key)).2) nonce aad (List.take ((na : Int) + (nb : Int) - 16).toNat (gst (gW key) (gR key) nonce 2 (List.take ((na : Int) + (nb : Int) - 16).toNat (List.take na (List.drop (off oa) l) ++ List.take nb (List.drop (off ob) l) ++ x)) ++ List.drop ((na : Int) + (nb : Int) - 16).toNat (List.take na (List.drop (off oa) l) ++ List.take nb (List.drop (off ob) l) ++ x)))).length = 16 := by rw [hTg, aTag_len]
            have hWl := gW_len (key := key) (by omega)
            have hR7 : gR key = key.length / 4 + 7 := by unfold gR; rfl
            have hpx : box = box ∧ nonce.length = 12 ∧ 1 ≤ gR key ∧ gR key ≤ 100 ∧ 16 * gR key ≤ (gW key).length ∧ ((na : Int) + (nb : Int) - 16).toNat ≤ (List.take na (List.drop (off oa) l) ++ List.take nb (List.drop (off ob) l) ++ x).length ∧ ((na : Int) + (nb : Int) - 16).toNat ≤ na + nb + x.length ∧ ((na : Int) + (nb : Int) - 16).toNat ≤ 9223372036854775807 := ⟨rfl, h1, by omega, by omega, by omega, by omega, by omega, by omega⟩
            have hpt : box = box ∧ nonce.length = 12 ∧ 1 ≤ gR key ∧ gR key ≤ 100 ∧ 16 * gR key ≤ (gW key).length ∧ ((na : Int) + (nb : Int) - 16).toNat ≤ (gst (gW key) (gR key) nonce 2 (List.take ((na : Int) + (nb : Int) - 16).toNat (List.take na (List.drop (off oa) l) ++ List.take nb (List.drop (off ob) l) ++ x)) ++ List.drop ((na : Int) + (nb : Int) - 16).toNat (List.take na (List.drop (off oa) l) ++ List.take nb (List.drop (off ob) l) ++ x)).length ∧ ((na : Int) + (nb : Int) - 16).toNat ≤ na + nb + x.length ∧ aad.length ≤ 65536 ∧ ((na : Int) + (nb : Int) - 16).toNat ≤ 70000 := ⟨rfl, h1, by omega, by omega, by omega, by omega, by omega, h2, by omega⟩
            have hSp : (splice (gst (gW key) (gR key) nonce 2 (List.take ((na : Int) + (nb : Int) - 16).toNat (List.take na (List.drop (off oa) l) ++ List.take nb (List.drop (off ob) l) ++ x)) ++ List.drop ((na : Int) + (nb : Int) - 16).toNat (List.take na (List.drop (off oa) l) ++ List.take nb (List.drop (off ob) l) ++ x)) (off (addO [] (slO (na + nb + x.length) ((na : Int) + (nb : Int) - 16).toNat) ty5.sz)) (List.take (min (gtg (gW key) (gR key) ((gH (gW key) (gR key)).1, (gH (gW key) (gR key)).2) nonce aad (List.take ((na : Int) + (nb : Int) - 16).toNat (gst (gW key) (gR key) nonce 2 (List.take ((na : Int) + (nb : Int) - 16).toNat (List.take na (List.drop (off oa) l) ++ List.take nb (List.drop (off ob) l) ++ x)) ++ List.drop ((na : Int) + (nb : Int) - 16).toNat (List.take na (List.drop (off oa) l) ++ List.take nb (List.drop (off ob) l) ++ x)))).length (na + nb - ((na : Int) + (nb : Int) - 16).toNat)) (gtg (gW key) (gR key) ((gH (gW key) (gR key)).1, (gH (gW key) (gR key)).2) nonce aad (List.take ((na : Int) + (nb : Int) - 16).toNat (gst (gW key) (gR key) nonce 2 (List.take ((na : Int) + (nb : Int) - 16).toNat (List.take na (List.drop (off oa) l) ++ List.take nb (List.drop (off ob) l) ++ x)) ++ List.drop ((na : Int) + (nb : Int) - 16).toNat (List.take na (List.drop (off oa) l) ++ List.take nb (List.drop (off ob) l) ++ x)))))) = aSeal w key nonce aad ((two l (off oa) na (off ob) nb).take (na + nb - 16)) ++ x := by
              rw [hTl, show min 16 (na + nb - ((na : Int) + (nb : Int) - 16).toNat) = 16 by omega, List.take_of_length_le (Nat.le_of_eq hTl), hTg, hof, hX, aSeal_eq]
              unfold splice
              rw [aTag_len, List.take_left' (by rw [aStr_len, List.length_take]; omega), ← List.append_assoc (aStr w key nonce _), List.drop_left' (by rw [List.length_append, aStr_len, List.length_take, List.length_drop]; omega)]
            have hAl : (aSeal w key nonce aad ((two l (off oa) na (off ob) nb).take (na + nb - 16))).length = na + nb := by
              rw [aSeal_eq, List.length_append, aTag_len, aStr_len, List.length_take]; omega
            have hSpl : (splice (gst (gW key) (gR key) nonce 2 (List.take ((na : Int) + (nb : Int) - 16).toNat (List.take na (List.drop (off oa) l) ++ List.take nb (List.drop (off ob) l) ++ x)) ++ List.drop ((na : Int) + (nb : Int) - 16).toNat (List.take na (List.drop (off oa) l) ++ List.take nb (List.drop (off ob) l) ++ x)) (off (addO [] (slO (na + nb + x.length) ((na : Int) + (nb : Int) - 16).toNat) ty5.sz)) (List.take (min (gtg (gW key) (gR key) ((gH (gW key) (gR key)).1, (gH (gW key) (gR key)).2) nonce aad (List.take ((na : Int) + (nb : Int) - 16).toNat (gst (gW key) (gR key) nonce 2 (List.take ((na : Int) + (nb : Int) - 16).toNat (List.take na (List.drop (off oa) l) ++ List.take nb (List.drop (off ob) l) ++ x)) ++ List.drop ((na : Int) + (nb : Int) - 16).toNat (List.take na (List.drop (off oa) l) ++ List.take nb (List.drop (off ob) l) ++ x)))).length (na + nb - ((na : Int) + (nb : Int) - 16).toNat)) (gtg (gW key) (gR key) ((gH (gW key) (gR key)).1, (gH (gW key) (gR key)).2) nonce aad (List.take ((na : Int) + (nb : Int) - 16).toNat (gst (gW key) (gR key) nonce 2 (List.take ((na : Int) + (nb : Int) - 16).toNat (List.take na (List.drop (off oa) l) ++ List.take nb (List.drop (off ob) l) ++ x)) ++ List.drop ((na : Int) + (nb : Int) - 16).toNat (List.take na (List.drop (off oa) l) ++ List.take nb (List.drop (off ob) l) ++ x)))))).length = na + nb + x.length := by rw [hSp, List.length_append, hAl]
            have hps : na + nb = na + nb ∧ off oa + na ≤ l.length ∧ off ob + nb ≤ l.length ∧ na + nb ≤ (splice (gst (gW key) (gR key) nonce 2 (List.take ((na : Int) + (nb : Int) - 16).toNat (List.take na (List.drop (off oa) l) ++ List.take nb (List.drop (off ob) l) ++ x)) ++ List.drop ((na : Int) + (nb : Int) - 16).toNat (List.take na (List.drop (off oa) l) ++ List.take nb (List.drop (off ob) l) ++ x)) (off (addO [] (slO (na + nb + x.length) ((na : Int) + (nb : Int) - 16).toNat) ty5.sz)) (List.take (min (gtg (gW key) (gR key) ((gH (gW key) (gR key)).1, (gH (gW key) (gR key)).2) nonce aad (List.take ((na : Int) + (nb : Int) - 16).toNat (gst (gW key) (gR key) nonce 2 (List.take ((na : Int) + (nb : Int) - 16).toNat (List.take na (List.drop (off oa) l) ++ List.take nb (List.drop (off ob) l) ++ x)) ++ List.drop ((na : Int) + (nb : Int) - 16).toNat (List.take na (List.drop (off oa) l) ++ List.take nb (List.drop (off ob) l) ++ x)))).length (na + nb - ((na : Int) + (nb : Int) - 16).toNat)) (gtg (gW key) (gR key) ((gH (gW key) (gR key)).1, (gH (gW key) (gR key)).2) nonce aad (List.take ((na : Int) + (nb : Int) - 16).toNat (gst (gW key) (gR key) nonce 2 (List.take ((na : Int) + (nb : Int) - 16).toNat (List.take na (List.drop (off oa) l) ++ List.take nb (List.drop (off ob) l) ++ x)) ++ List.drop ((na : Int) + (nb : Int) - 16).toNat (List.take na (List.drop (off oa) l) ++ List.take nb (List.drop (off ob) l) ++ x)))))).length ∧ na + nb ≤ na + nb + x.length := ⟨rfl, ha, hb, by omega, by omega⟩
            repeat ((conv => whnf); first | refine pre_a ?_ | refine cond_ta ?_ | refine cond_fa ?_ | refine same_i ?_)
            conv => whnf
            refine final_h (hp' := [.mk t [.arr8 m (sprd l (off oa) na (off ob) nb (aSeal w key nonce aad ((two l (off oa) na (off ob) nb).take (na + nb - 16))))]]) [0] h ?_
            repeat ((conv => whnf); refine same_i ?_)
            conv => whnf
            refine same_q (congrArg (fun y => SV.agg [SV.arr8 m y]) (by rw [hSp]; exact sprd_app hAl)) ?_
            repeat ((conv => whnf); refine same_i ?_)
            exact trivial
        · have h := hn (decide_eq_false fun hh => h0 hh.2)
          have hd : decide (aKey w key.length ∧ nonce.length = 12 ∧ aad.length ≤ 65536 ∧ (na : Int) + (nb : Int) - 16 ≤ 65536) = false := decide_eq_false (by unfold aForm at h0; exact h0)
          repeat ((conv => whnf); first | refine pre_a ?_ | refine cond_ta ?_ | refine cond_fa ?_ | refine same_i ?_ | refine pre_i (by first | exact hd | (rw [hd]; rfl)) ?_ | refine cond_t (by first | exact hd | (rw [hd]; rfl)) ?_ | refine cond_f (by first | exact hd | (rw [hd]; rfl)) ?_)
          conv => whnf
          refine final_h (hp' := [.mk t [.arr8 m l]]) [0] h ?_
          repeat ((conv => whnf); refine same_i ?_)
          exact trivial
      · have h := hn (decide_eq_false fun hh => h16 hh.1)
        repeat ((conv => whnf); first | refine pre_a ?_ | refine cond_ta ?_ | refine cond_fa ?_ | refine same_i ?_)
        conv => whnf
        refine final_h (hp' := [.mk t [.arr8 m l]]) [0] h ?_
        repeat ((conv => whnf); refine same_i ?_)
        exact trivial
    · exact h.elim
end Go.Sym.A

namespace Go.Sym.A
open Go Go.Proofs.Try Go.Sym.Lp Go.Sym.Gcm Go.Sym.Aes Go.Sym.Pol Go.Sym.Cha
set_option maxRecDepth 100000
/-- the orders of the drawn regions of law8.awake -/
def pl18 : List (Nat × List PStep) := [(7, [⟨0, []⟩, ⟨1, [0]⟩, ⟨2, [0]⟩, ⟨3, [0, 1, 2]⟩, ⟨4, [0, 1, 2]⟩, ⟨5, [0, 1, 2, 3, 4]⟩, ⟨6, [0, 1, 2, 3, 4]⟩, ⟨7, []⟩, ⟨8, []⟩, ⟨9, []⟩, ⟨10, [9]⟩, ⟨11, [10]⟩, ⟨12, []⟩]), (8, [⟨0, []⟩, ⟨1, [0]⟩, ⟨2, [0]⟩, ⟨3, [0, 1, 2]⟩, ⟨4, [0, 1, 2]⟩, ⟨5, [0, 1, 2, 3, 4]⟩, ⟨6, [0, 1, 2, 3, 4]⟩, ⟨7, []⟩, ⟨8, []⟩]), (9, [⟨0, []⟩, ⟨1, []⟩, ⟨2, [0, 1]⟩, ⟨3, [0, 1]⟩, ⟨4, [0, 1, 2, 3]⟩, ⟨5, []⟩, ⟨6, []⟩, ⟨7, []⟩, ⟨8, [7]⟩, ⟨9, [8]⟩, ⟨10, []⟩])]

theorem strm_inv (key nonce : List UInt8) (n : UInt32) (s : List UInt8) : strm key nonce n (strm key nonce n s) = s := by
  have e : ∀ i, i < s.length → strG key nonce n (strm key nonce n s) i = s.getD i 0 := by
    intro i hi
    unfold strG
    have : (strm key nonce n s).getD i 0 = strG key nonce n s i := by unfold strm; exact map_range_get _ _ hi 0
    rw [this]
    unfold strG
    rw [UInt8.xor_assoc, UInt8.xor_self, UInt8.xor_zero]
  have h1 : ∀ t : List UInt8, t.length = s.length → strm key nonce n t = (List.range s.length).map (strG key nonce n t) := fun t ht => by unfold strm; rw [ht]
  rw [h1 _ (strm_len _ _ _ _), map_range_congr e]
  exact list_map_range rfl 0
theorem two_w {l : List UInt8} {a x b : Nat} (hx : 0 < b → x = a) (hl : a + b ≤ l.length) : two l 0 a x b = l.take (a + b) := by
  unfold two
  rw [List.drop_zero]
  by_cases h : b = 0
  · rw [h, List.take_zero, List.append_nil, Nat.add_zero]
  · rw [hx (by omega)]
    rw [List.take_add]
theorem sprd_w {l s : List UInt8} {a x b : Nat} (hx : 0 < b → x = a) (hl : a + b ≤ l.length) (hs : s.length = a + b) : sprd l 0 a x b s = s ++ l.drop (a + b) := by
  unfold sprd splice
  rw [List.take_zero, List.nil_append, Nat.zero_add]
  have h1 : (s.take a).length = a := by rw [List.length_take]; omega
  rw [h1]
  by_cases h : b = 0
  · subst h
    rw [List.take_zero, List.append_nil, List.length_nil, Nat.add_zero, Nat.add_zero, List.take_append_drop]
    rw [List.take_of_length_le (by omega)]
  · rw [hx (by omega), List.take_left' h1]
    have h2 : ((s.drop a).take b).length = b := by rw [List.length_take, List.length_drop]; omega
    rw [h2]
    have h3 : (s.drop a).take b = s.drop a := List.take_of_length_le (by rw [List.length_drop]; omega)
    rw [h3, List.take_append_drop]
    congr 1
    rw [List.drop_append, h1, show a + b - a = b by omega, List.drop_drop]
    have h4 : List.drop (a + b) (List.take a s) = [] := List.drop_eq_nil_of_le (by omega)
    rw [h4, List.nil_append]
abbrev z32 : List UInt8 := List.replicate 32 0
abbrev z12 : List UInt8 := List.replicate 12 0
abbrev z16 : List UInt8 := List.replicate 16 0
/-- three bytes, sealed -/
def abcC : List UInt8 := aSeal 4867 z32 z12 [] [97, 98, 99]
theorem abcC_eq : abcC = strm z32 z12 1 [97, 98, 99] ++ polyTag z32 z12 [] (strm z32 z12 1 [97, 98, 99]) := by
  unfold abcC
  rw [aSeal_eq]
  rfl
theorem abc_s : strm z32 z12 1 [97, 98, 99] = [254, 101, 132] := by decide +kernel
theorem abc_t : polyTag z32 z12 [] [254, 101, 132] = [31, 188, 4, 228, 140, 1, 163, 62, 177, 236, 217, 18, 98, 3, 102, 136] := by decide +kernel
theorem abc_h : gH (gW z16) (gR z16) = (7415541639366192187, 9821500150939659054) := by decide +kernel
theorem abc_g : gTag z16 z12 [] [254, 101, 132] ≠ [31, 188, 4, 228, 140, 1, 163, 62, 177, 236, 217, 18, 98, 3, 102, 136] := by
  unfold gTag
  rw [abc_h]
  decide +kernel
theorem abcC_val : abcC = [254, 101, 132, 31, 188, 4, 228, 140, 1, 163, 62, 177, 236, 217, 18, 98, 3, 102, 136] := by
  rw [abcC_eq, abc_s, abc_t]; rfl
theorem abcC_len : abcC.length = 19 := by rw [abcC_val]; rfl
attribute [local irreducible] abcC polySeal polyTag gSeal gTag gStr strm sprd aTag aStr aSeal two
def awakeS : Spec := fun args hp K => match args, hp with
  | [], [] => K (.bool true) []
  | _, _ => False
theorem awake_app (tl : List UInt8) : abcC.take 3 ++ abcC.drop 3 = abcC := List.take_append_drop 3 abcC
set_option maxHeartbeats 4000000 in
theorem awake_s : SoundC prog 18 awakeS := by
  refine sound_f tyAead_ok (fnok_cons sizes_s (fnok_cons aSeal_s (fnok_cons openIn_s (fnok_cons sealIn_s (fnok_cons aOpen_s (fnok_cons lnum_s fnok_nil)))))) rfl func18 rfl call18 (D := pl18) ?_ ?_
  · intro args hp K h
    unfold awakeS at h
    split at h
    · exact Nat.le_of_ble_eq_true rfl
    · exact h.elim
  · intro args hp K h
    unfold awakeS at h
    split at h
    · have hl := abcC_len
      repeat ((conv => whnf); first | refine pre_a ?_ | refine cond_ta ?_ | refine cond_fa ?_ | refine same_i ?_)
      conv => whnf
      rw [show aSeal 4867 (List.take (Int.toNat 32) (List.drop (off []) (List.replicate (Int.toNat 32) 0))) (List.take (Int.toNat 12) (List.take (Int.toNat 32) (List.drop (off []) (List.replicate (Int.toNat 32) 0)))) [] [97, 98, 99] = abcC from by unfold abcC; rfl]
      have hd19 : decide ((abcC.length : Int) = 19) = true := decide_eq_true (by omega)
      repeat ((conv => whnf); first | refine pre_a ?_ | refine cond_ta ?_ | refine cond_fa ?_ | refine same_i ?_ | refine pre_i (by first | exact hd19 | (rw [hd19]; rfl)) ?_ | refine cond_t (by first | exact hd19 | (rw [hd19]; rfl)) ?_ | refine cond_f (by first | exact hd19 | (rw [hd19]; rfl)) ?_)
      conv => whnf
      refine all_i fun tl => ?_
      have hLl : (abcC ++ tl).length = 19 + tl.length := by rw [List.length_append, hl]
      have hZ : (List.take (Int.toNat 32) (List.drop (off []) (List.replicate (Int.toNat 32) 0))) = z32 := rfl
      have hN : (List.take (Int.toNat 12) (List.take (Int.toNat 32) (List.drop (off []) (List.replicate (Int.toNat 32) 0)))) = z12 := rfl
      have hx2 : (off (addO [] (slO (abcC.length + tl.length) (Int.toNat 2)) ty5.sz)) = 2 := by rw [off_addO, slO_eq (show abcC.length + tl.length ≠ Int.toNat 2 by show _ ≠ 2; omega)]; rfl
      have hx7 : (off (addO [] (slO (abcC.length + tl.length) (Int.toNat 7)) ty5.sz)) = 7 := by rw [off_addO, slO_eq (show abcC.length + tl.length ≠ Int.toNat 7 by show _ ≠ 7; omega)]; rfl
      have n2 : (Int.toNat 2) = 2 := rfl
      have n7 : (Int.toNat 7) = 7 := rfl
      have hp1 : off [] + (Int.toNat 2) ≤ (abcC ++ tl).length ∧ (off (addO [] (slO (abcC.length + tl.length) (Int.toNat 2)) ty5.sz)) + (abcC.length - Int.toNat 2) ≤ (abcC ++ tl).length ∧ (Int.toNat 2) + (abcC.length - Int.toNat 2) ≤ 4611686018427387904 := ⟨by rw [hLl, n2]; show 0 + 2 ≤ _; omega, by rw [hx2, hLl, n2, hl]; omega, by rw [n2, hl]; decide⟩
      have hT2 : (two (abcC ++ tl) (off []) (Int.toNat 2) (off (addO [] (slO (abcC.length + tl.length) (Int.toNat 2)) ty5.sz)) (abcC.length - Int.toNat 2)) = abcC := by
        rw [hx2, n2, hl]
        show two (abcC ++ tl) 0 2 2 17 = _
        rw [two_w (fun _ => rfl) (by rw [hLl]; omega)]
        exact List.take_left' hl
      have hf1 : decide (aForm 4867 (List.take (Int.toNat 32) (List.drop (off []) (List.replicate (Int.toNat 32) 0))) (List.take (Int.toNat 12) (List.take (Int.toNat 32) (List.drop (off []) (List.replicate (Int.toNat 32) 0)))) [] (((Int.toNat 2) : Nat) + (((abcC.length - Int.toNat 2) : Nat) : Int) - 16)) = true := decide_eq_true (by rw [n2, hl]; decide)
      have hA : aSeal 4867 z32 z12 [] [97, 98, 99] = abcC := by unfold abcC; rfl
      have hAE : aStr 4867 z32 z12 [97, 98, 99] ++ aTag 4867 z32 z12 [] (aStr 4867 z32 z12 [97, 98, 99]) = abcC := by rw [← aSeal_eq, hA]
      have hA3 : abcC.take 3 = aStr 4867 z32 z12 [97, 98, 99] := by rw [← hAE]; exact List.take_left' (aStr_len _ _ _ _)
      have hA16 : abcC.drop 3 = aTag 4867 z32 z12 [] (aStr 4867 z32 z12 [97, 98, 99]) := by rw [← hAE]; exact List.drop_left' (aStr_len _ _ _ _)
      have hinv : aStr 4867 z32 z12 (aStr 4867 z32 z12 [97, 98, 99]) = [97, 98, 99] := by unfold aStr; rw [if_pos rfl, if_pos rfl, strm_inv]
      have hq : decide (16 ≤ (Int.toNat 2) + (abcC.length - Int.toNat 2) ∧ aTag 4867 (List.take (Int.toNat 32) (List.drop (off []) (List.replicate (Int.toNat 32) 0))) (List.take (Int.toNat 12) (List.take (Int.toNat 32) (List.drop (off []) (List.replicate (Int.toNat 32) 0)))) [] (List.take ((Int.toNat 2) + (abcC.length - Int.toNat 2) - 16) (two (abcC ++ tl) (off []) (Int.toNat 2) (off (addO [] (slO (abcC.length + tl.length) (Int.toNat 2)) ty5.sz)) (abcC.length - Int.toNat 2))) = List.drop ((Int.toNat 2) + (abcC.length - Int.toNat 2) - 16) (two (abcC ++ tl) (off []) (Int.toNat 2) (off (addO [] (slO (abcC.length + tl.length) (Int.toNat 2)) ty5.sz)) (abcC.length - Int.toNat 2))) = true := decide_eq_true (by
        rw [hT2, hN, hZ, n2, hl]
        refine ⟨by decide, ?_⟩
        show aTag 4867 z32 z12 [] (abcC.take 3) = abcC.drop 3
        rw [hA3, hA16])
      have hL1 : (sprd (abcC ++ tl) (off []) (Int.toNat 2) (off (addO [] (slO (abcC.length + tl.length) (Int.toNat 2)) ty5.sz)) (abcC.length - Int.toNat 2) (aStr 4867 (List.take (Int.toNat 32) (List.drop (off []) (List.replicate (Int.toNat 32) 0))) (List.take (Int.toNat 12) (List.take (Int.toNat 32) (List.drop (off []) (List.replicate (Int.toNat 32) 0)))) (List.take ((Int.toNat 2) + (abcC.length - Int.toNat 2) - 16) (two (abcC ++ tl) (off []) (Int.toNat 2) (off (addO [] (slO (abcC.length + tl.length) (Int.toNat 2)) ty5.sz)) (abcC.length - Int.toNat 2))) ++ List.drop ((Int.toNat 2) + (abcC.length - Int.toNat 2) - 16) (two (abcC ++ tl) (off []) (Int.toNat 2) (off (addO [] (slO (abcC.length + tl.length) (Int.toNat 2)) ty5.sz)) (abcC.length - Int.toNat 2)))) = ([97, 98, 99] ++ abcC.drop 3) ++ tl := by
        rw [hT2, hN, hZ, hx2, n2, hl]
        show sprd (abcC ++ tl) 0 2 2 17 (aStr 4867 z32 z12 (abcC.take 3) ++ abcC.drop 3) = _
        rw [hA3, hinv, sprd_w (fun _ => rfl) (by rw [hLl]; omega) (by rw [List.length_append, List.length_drop, hl]; rfl)]
        rw [show 2 + 17 = abcC.length by rw [hl], List.drop_left' rfl]
      have hL1l : (sprd (abcC ++ tl) (off []) (Int.toNat 2) (off (addO [] (slO (abcC.length + tl.length) (Int.toNat 2)) ty5.sz)) (abcC.length - Int.toNat 2) (aStr 4867 (List.take (Int.toNat 32) (List.drop (off []) (List.replicate (Int.toNat 32) 0))) (List.take (Int.toNat 12) (List.take (Int.toNat 32) (List.drop (off []) (List.replicate (Int.toNat 32) 0)))) (List.take ((Int.toNat 2) + (abcC.length - Int.toNat 2) - 16) (two (abcC ++ tl) (off []) (Int.toNat 2) (off (addO [] (slO (abcC.length + tl.length) (Int.toNat 2)) ty5.sz)) (abcC.length - Int.toNat 2))) ++ List.drop ((Int.toNat 2) + (abcC.length - Int.toNat 2) - 16) (two (abcC ++ tl) (off []) (Int.toNat 2) (off (addO [] (slO (abcC.length + tl.length) (Int.toNat 2)) ty5.sz)) (abcC.length - Int.toNat 2)))).length = 19 + tl.length := by rw [hL1, List.length_append, List.length_append, List.length_drop, hl]; rfl
      have hp2 : off [] + (Int.toNat 7) ≤ (sprd (abcC ++ tl) (off []) (Int.toNat 2) (off (addO [] (slO (abcC.length + tl.length) (Int.toNat 2)) ty5.sz)) (abcC.length - Int.toNat 2) (aStr 4867 (List.take (Int.toNat 32) (List.drop (off []) (List.replicate (Int.toNat 32) 0))) (List.take (Int.toNat 12) (List.take (Int.toNat 32) (List.drop (off []) (List.replicate (Int.toNat 32) 0)))) (List.take ((Int.toNat 2) + (abcC.length - Int.toNat 2) - 16) (two (abcC ++ tl) (off []) (Int.toNat 2) (off (addO [] (slO (abcC.length + tl.length) (Int.toNat 2)) ty5.sz)) (abcC.length - Int.toNat 2))) ++ List.drop ((Int.toNat 2) + (abcC.length - Int.toNat 2) - 16) (two (abcC ++ tl) (off []) (Int.toNat 2) (off (addO [] (slO (abcC.length + tl.length) (Int.toNat 2)) ty5.sz)) (abcC.length - Int.toNat 2)))).length ∧ (off (addO [] (slO (abcC.length + tl.length) (Int.toNat 7)) ty5.sz)) + (abcC.length - Int.toNat 7) ≤ (sprd (abcC ++ tl) (off []) (Int.toNat 2) (off (addO [] (slO (abcC.length + tl.length) (Int.toNat 2)) ty5.sz)) (abcC.length - Int.toNat 2) (aStr 4867 (List.take (Int.toNat 32) (List.drop (off []) (List.replicate (Int.toNat 32) 0))) (List.take (Int.toNat 12) (List.take (Int.toNat 32) (List.drop (off []) (List.replicate (Int.toNat 32) 0)))) (List.take ((Int.toNat 2) + (abcC.length - Int.toNat 2) - 16) (two (abcC ++ tl) (off []) (Int.toNat 2) (off (addO [] (slO (abcC.length + tl.length) (Int.toNat 2)) ty5.sz)) (abcC.length - Int.toNat 2))) ++ List.drop ((Int.toNat 2) + (abcC.length - Int.toNat 2) - 16) (two (abcC ++ tl) (off []) (Int.toNat 2) (off (addO [] (slO (abcC.length + tl.length) (Int.toNat 2)) ty5.sz)) (abcC.length - Int.toNat 2)))).length ∧ (Int.toNat 7) + (abcC.length - Int.toNat 7) ≤ 4611686018427387904 := ⟨by rw [hL1l, n7]; show 0 + 7 ≤ _; omega, by rw [hx7, hL1l, n7, hl]; omega, by rw [n7, hl]; decide⟩
      have hT7 : (two (sprd (abcC ++ tl) (off []) (Int.toNat 2) (off (addO [] (slO (abcC.length + tl.length) (Int.toNat 2)) ty5.sz)) (abcC.length - Int.toNat 2) (aStr 4867 (List.take (Int.toNat 32) (List.drop (off []) (List.replicate (Int.toNat 32) 0))) (List.take (Int.toNat 12) (List.take (Int.toNat 32) (List.drop (off []) (List.replicate (Int.toNat 32) 0)))) (List.take ((Int.toNat 2) + (abcC.length - Int.toNat 2) - 16) (two (abcC ++ tl) (off []) (Int.toNat 2) (off (addO [] (slO (abcC.length + tl.length) (Int.toNat 2)) ty5.sz)) (abcC.length - Int.toNat 2))) ++ List.drop ((Int.toNat 2) + (abcC.length - Int.toNat 2) - 16) (two (abcC ++ tl) (off []) (Int.toNat 2) (off (addO [] (slO (abcC.length + tl.length) (Int.toNat 2)) ty5.sz)) (abcC.length - Int.toNat 2)))) (off []) (Int.toNat 7) (off (addO [] (slO (abcC.length + tl.length) (Int.toNat 7)) ty5.sz)) (abcC.length - Int.toNat 7)) = [97, 98, 99] ++ abcC.drop 3 := by
        rw [hL1, hx7, n7, hl]
        show two _ 0 7 7 12 = _
        rw [two_w (fun _ => rfl) (by rw [← hL1, hL1l]; omega)]
        exact List.take_left' (by rw [List.length_append, List.length_drop, hl]; rfl)
      have hf2 : decide (16 ≤ (Int.toNat 7) + (abcC.length - Int.toNat 7) ∧ aForm 4867 (List.take (Int.toNat 32) (List.drop (off []) (List.replicate (Int.toNat 32) 0))) (List.take (Int.toNat 12) (List.take (Int.toNat 32) (List.drop (off []) (List.replicate (Int.toNat 32) 0)))) [] (((Int.toNat 7) : Nat) + (((abcC.length - Int.toNat 7) : Nat) : Int) - 16)) = true := decide_eq_true (by rw [n7, hl]; decide)
      have hL2 : (sprd (sprd (abcC ++ tl) (off []) (Int.toNat 2) (off (addO [] (slO (abcC.length + tl.length) (Int.toNat 2)) ty5.sz)) (abcC.length - Int.toNat 2) (aStr 4867 (List.take (Int.toNat 32) (List.drop (off []) (List.replicate (Int.toNat 32) 0))) (List.take (Int.toNat 12) (List.take (Int.toNat 32) (List.drop (off []) (List.replicate (Int.toNat 32) 0)))) (List.take ((Int.toNat 2) + (abcC.length - Int.toNat 2) - 16) (two (abcC ++ tl) (off []) (Int.toNat 2) (off (addO [] (slO (abcC.length + tl.length) (Int.toNat 2)) ty5.sz)) (abcC.length - Int.toNat 2))) ++ List.drop ((Int.toNat 2) + (abcC.length - Int.toNat 2) - 16) (two (abcC ++ tl) (off []) (Int.toNat 2) (off (addO [] (slO (abcC.length + tl.length) (Int.toNat 2)) ty5.sz)) (abcC.length - Int.toNat 2)))) (off []) (Int.toNat 7) (off (addO [] (slO (abcC.length + tl.length) (Int.toNat 7)) ty5.sz)) (abcC.length - Int.toNat 7) (aSeal 4867 (List.take (Int.toNat 32) (List.drop (off []) (List.replicate (Int.toNat 32) 0))) (List.take (Int.toNat 12) (List.take (Int.toNat 32) (List.drop (off []) (List.replicate (Int.toNat 32) 0)))) [] (List.take ((Int.toNat 7) + (abcC.length - Int.toNat 7) - 16) (two (sprd (abcC ++ tl) (off []) (Int.toNat 2) (off (addO [] (slO (abcC.length + tl.length) (Int.toNat 2)) ty5.sz)) (abcC.length - Int.toNat 2) (aStr 4867 (List.take (Int.toNat 32) (List.drop (off []) (List.replicate (Int.toNat 32) 0))) (List.take (Int.toNat 12) (List.take (Int.toNat 32) (List.drop (off []) (List.replicate (Int.toNat 32) 0)))) (List.take ((Int.toNat 2) + (abcC.length - Int.toNat 2) - 16) (two (abcC ++ tl) (off []) (Int.toNat 2) (off (addO [] (slO (abcC.length + tl.length) (Int.toNat 2)) ty5.sz)) (abcC.length - Int.toNat 2))) ++ List.drop ((Int.toNat 2) + (abcC.length - Int.toNat 2) - 16) (two (abcC ++ tl) (off []) (Int.toNat 2) (off (addO [] (slO (abcC.length + tl.length) (Int.toNat 2)) ty5.sz)) (abcC.length - Int.toNat 2)))) (off []) (Int.toNat 7) (off (addO [] (slO (abcC.length + tl.length) (Int.toNat 7)) ty5.sz)) (abcC.length - Int.toNat 7))))) = abcC ++ tl := by
        rw [hT7, hL1, hN, hZ, hx7, n7, hl]
        show sprd _ 0 7 7 12 (aSeal 4867 z32 z12 [] [97, 98, 99]) = _
        rw [hA, sprd_w (fun _ => rfl) (by rw [← hL1, hL1l]; omega) hl]
        congr 1
        exact List.drop_left' (by rw [List.length_append, List.length_drop, hl]; rfl)
      have hK : (List.take (Int.toNat 16) (List.take (Int.toNat 32) (List.drop (off []) (List.replicate (Int.toNat 32) 0)))) = z16 := rfl
      have hf3 : decide (aKey 4865 (List.take (Int.toNat 16) (List.take (Int.toNat 32) (List.drop (off []) (List.replicate (Int.toNat 32) 0))) : List UInt8).length ∧ ((List.take (Int.toNat 12) (List.take (Int.toNat 32) (List.drop (off []) (List.replicate (Int.toNat 32) 0)))) : List UInt8).length = 12 ∧ ([] : List UInt8).length ≤ 65536 ∧ (abcC.length : Int) - 16 ≤ 65536) = true := decide_eq_true (by rw [hK, hN, hl]; decide)
      have hq3 : decide (16 ≤ abcC.length ∧ aTag 4865 (List.take (Int.toNat 16) (List.take (Int.toNat 32) (List.drop (off []) (List.replicate (Int.toNat 32) 0)))) (List.take (Int.toNat 12) (List.take (Int.toNat 32) (List.drop (off []) (List.replicate (Int.toNat 32) 0)))) [] (List.take (abcC.length - 16) abcC) = List.drop (abcC.length - 16) abcC) = false := decide_eq_false (fun hh => by
        have h2 := hh.2
        rw [hK, hN, abcC_val] at h2
        unfold aTag at h2
        rw [if_neg (by decide)] at h2
        exact abc_g h2)
      have hl3 : abcC.length < 9223372036854775808 := by rw [hl]; decide
      have hX : List.take abcC.length (List.drop (off []) (sprd (sprd (abcC ++ tl) (off []) (Int.toNat 2) (off (addO [] (slO (abcC.length + tl.length) (Int.toNat 2)) ty5.sz)) (abcC.length - Int.toNat 2) (aStr 4867 (List.take (Int.toNat 32) (List.drop (off []) (List.replicate (Int.toNat 32) 0))) (List.take (Int.toNat 12) (List.take (Int.toNat 32) (List.drop (off []) (List.replicate (Int.toNat 32) 0)))) (List.take ((Int.toNat 2) + (abcC.length - Int.toNat 2) - 16) (two (abcC ++ tl) (off []) (Int.toNat 2) (off (addO [] (slO (abcC.length + tl.length) (Int.toNat 2)) ty5.sz)) (abcC.length - Int.toNat 2))) ++ List.drop ((Int.toNat 2) + (abcC.length - Int.toNat 2) - 16) (two (abcC ++ tl) (off []) (Int.toNat 2) (off (addO [] (slO (abcC.length + tl.length) (Int.toNat 2)) ty5.sz)) (abcC.length - Int.toNat 2)))) (off []) (Int.toNat 7) (off (addO [] (slO (abcC.length + tl.length) (Int.toNat 7)) ty5.sz)) (abcC.length - Int.toNat 7) (aSeal 4867 (List.take (Int.toNat 32) (List.drop (off []) (List.replicate (Int.toNat 32) 0))) (List.take (Int.toNat 12) (List.take (Int.toNat 32) (List.drop (off []) (List.replicate (Int.toNat 32) 0)))) [] (List.take ((Int.toNat 7) + (abcC.length - Int.toNat 7) - 16) (two (sprd (abcC ++ tl) (off []) (Int.toNat 2) (off (addO [] (slO (abcC.length + tl.length) (Int.toNat 2)) ty5.sz)) (abcC.length - Int.toNat 2) (aStr 4867 (List.take (Int.toNat 32) (List.drop (off []) (List.replicate (Int.toNat 32) 0))) (List.take (Int.toNat 12) (List.take (Int.toNat 32) (List.drop (off []) (List.replicate (Int.toNat 32) 0)))) (List.take ((Int.toNat 2) + (abcC.length - Int.toNat 2) - 16) (two (abcC ++ tl) (off []) (Int.toNat 2) (off (addO [] (slO (abcC.length + tl.length) (Int.toNat 2)) ty5.sz)) (abcC.length - Int.toNat 2))) ++ List.drop ((Int.toNat 2) + (abcC.length - Int.toNat 2) - 16) (two (abcC ++ tl) (off []) (Int.toNat 2) (off (addO [] (slO (abcC.length + tl.length) (Int.toNat 2)) ty5.sz)) (abcC.length - Int.toNat 2)))) (off []) (Int.toNat 7) (off (addO [] (slO (abcC.length + tl.length) (Int.toNat 7)) ty5.sz)) (abcC.length - Int.toNat 7)))))) = abcC := by rw [hL2]; exact List.take_left' rfl
      have hdX : decide (List.take abcC.length (List.drop (off []) (sprd (sprd (abcC ++ tl) (off []) (Int.toNat 2) (off (addO [] (slO (abcC.length + tl.length) (Int.toNat 2)) ty5.sz)) (abcC.length - Int.toNat 2) (aStr 4867 (List.take (Int.toNat 32) (List.drop (off []) (List.replicate (Int.toNat 32) 0))) (List.take (Int.toNat 12) (List.take (Int.toNat 32) (List.drop (off []) (List.replicate (Int.toNat 32) 0)))) (List.take ((Int.toNat 2) + (abcC.length - Int.toNat 2) - 16) (two (abcC ++ tl) (off []) (Int.toNat 2) (off (addO [] (slO (abcC.length + tl.length) (Int.toNat 2)) ty5.sz)) (abcC.length - Int.toNat 2))) ++ List.drop ((Int.toNat 2) + (abcC.length - Int.toNat 2) - 16) (two (abcC ++ tl) (off []) (Int.toNat 2) (off (addO [] (slO (abcC.length + tl.length) (Int.toNat 2)) ty5.sz)) (abcC.length - Int.toNat 2)))) (off []) (Int.toNat 7) (off (addO [] (slO (abcC.length + tl.length) (Int.toNat 7)) ty5.sz)) (abcC.length - Int.toNat 7) (aSeal 4867 (List.take (Int.toNat 32) (List.drop (off []) (List.replicate (Int.toNat 32) 0))) (List.take (Int.toNat 12) (List.take (Int.toNat 32) (List.drop (off []) (List.replicate (Int.toNat 32) 0)))) [] (List.take ((Int.toNat 7) + (abcC.length - Int.toNat 7) - 16) (two (sprd (abcC ++ tl) (off []) (Int.toNat 2) (off (addO [] (slO (abcC.length + tl.length) (Int.toNat 2)) ty5.sz)) (abcC.length - Int.toNat 2) (aStr 4867 (List.take (Int.toNat 32) (List.drop (off []) (List.replicate (Int.toNat 32) 0))) (List.take (Int.toNat 12) (List.take (Int.toNat 32) (List.drop (off []) (List.replicate (Int.toNat 32) 0)))) (List.take ((Int.toNat 2) + (abcC.length - Int.toNat 2) - 16) (two (abcC ++ tl) (off []) (Int.toNat 2) (off (addO [] (slO (abcC.length + tl.length) (Int.toNat 2)) ty5.sz)) (abcC.length - Int.toNat 2))) ++ List.drop ((Int.toNat 2) + (abcC.length - Int.toNat 2) - 16) (two (abcC ++ tl) (off []) (Int.toNat 2) (off (addO [] (slO (abcC.length + tl.length) (Int.toNat 2)) ty5.sz)) (abcC.length - Int.toNat 2)))) (off []) (Int.toNat 7) (off (addO [] (slO (abcC.length + tl.length) (Int.toNat 7)) ty5.sz)) (abcC.length - Int.toNat 7)))))) = abcC) = true := decide_eq_true hX
      have hL2l : (sprd (sprd (abcC ++ tl) (off []) (Int.toNat 2) (off (addO [] (slO (abcC.length + tl.length) (Int.toNat 2)) ty5.sz)) (abcC.length - Int.toNat 2) (aStr 4867 (List.take (Int.toNat 32) (List.drop (off []) (List.replicate (Int.toNat 32) 0))) (List.take (Int.toNat 12) (List.take (Int.toNat 32) (List.drop (off []) (List.replicate (Int.toNat 32) 0)))) (List.take ((Int.toNat 2) + (abcC.length - Int.toNat 2) - 16) (two (abcC ++ tl) (off []) (Int.toNat 2) (off (addO [] (slO (abcC.length + tl.length) (Int.toNat 2)) ty5.sz)) (abcC.length - Int.toNat 2))) ++ List.drop ((Int.toNat 2) + (abcC.length - Int.toNat 2) - 16) (two (abcC ++ tl) (off []) (Int.toNat 2) (off (addO [] (slO (abcC.length + tl.length) (Int.toNat 2)) ty5.sz)) (abcC.length - Int.toNat 2)))) (off []) (Int.toNat 7) (off (addO [] (slO (abcC.length + tl.length) (Int.toNat 7)) ty5.sz)) (abcC.length - Int.toNat 7) (aSeal 4867 (List.take (Int.toNat 32) (List.drop (off []) (List.replicate (Int.toNat 32) 0))) (List.take (Int.toNat 12) (List.take (Int.toNat 32) (List.drop (off []) (List.replicate (Int.toNat 32) 0)))) [] (List.take ((Int.toNat 7) + (abcC.length - Int.toNat 7) - 16) (two (sprd (abcC ++ tl) (off []) (Int.toNat 2) (off (addO [] (slO (abcC.length + tl.length) (Int.toNat 2)) ty5.sz)) (abcC.length - Int.toNat 2) (aStr 4867 (List.take (Int.toNat 32) (List.drop (off []) (List.replicate (Int.toNat 32) 0))) (List.take (Int.toNat 12) (List.take (Int.toNat 32) (List.drop (off []) (List.replicate (Int.toNat 32) 0)))) (List.take ((Int.toNat 2) + (abcC.length - Int.toNat 2) - 16) (two (abcC ++ tl) (off []) (Int.toNat 2) (off (addO [] (slO (abcC.length + tl.length) (Int.toNat 2)) ty5.sz)) (abcC.length - Int.toNat 2))) ++ List.drop ((Int.toNat 2) + (abcC.length - Int.toNat 2) - 16) (two (abcC ++ tl) (off []) (Int.toNat 2) (off (addO [] (slO (abcC.length + tl.length) (Int.toNat 2)) ty5.sz)) (abcC.length - Int.toNat 2)))) (off []) (Int.toNat 7) (off (addO [] (slO (abcC.length + tl.length) (Int.toNat 7)) ty5.sz)) (abcC.length - Int.toNat 7))))).length = 19 + tl.length := by rw [hL2, hLl]
      have hpX : off [] + abcC.length ≤ (sprd (sprd (abcC ++ tl) (off []) (Int.toNat 2) (off (addO [] (slO (abcC.length + tl.length) (Int.toNat 2)) ty5.sz)) (abcC.length - Int.toNat 2) (aStr 4867 (List.take (Int.toNat 32) (List.drop (off []) (List.replicate (Int.toNat 32) 0))) (List.take (Int.toNat 12) (List.take (Int.toNat 32) (List.drop (off []) (List.replicate (Int.toNat 32) 0)))) (List.take ((Int.toNat 2) + (abcC.length - Int.toNat 2) - 16) (two (abcC ++ tl) (off []) (Int.toNat 2) (off (addO [] (slO (abcC.length + tl.length) (Int.toNat 2)) ty5.sz)) (abcC.length - Int.toNat 2))) ++ List.drop ((Int.toNat 2) + (abcC.length - Int.toNat 2) - 16) (two (abcC ++ tl) (off []) (Int.toNat 2) (off (addO [] (slO (abcC.length + tl.length) (Int.toNat 2)) ty5.sz)) (abcC.length - Int.toNat 2)))) (off []) (Int.toNat 7) (off (addO [] (slO (abcC.length + tl.length) (Int.toNat 7)) ty5.sz)) (abcC.length - Int.toNat 7) (aSeal 4867 (List.take (Int.toNat 32) (List.drop (off []) (List.replicate (Int.toNat 32) 0))) (List.take (Int.toNat 12) (List.take (Int.toNat 32) (List.drop (off []) (List.replicate (Int.toNat 32) 0)))) [] (List.take ((Int.toNat 7) + (abcC.length - Int.toNat 7) - 16) (two (sprd (abcC ++ tl) (off []) (Int.toNat 2) (off (addO [] (slO (abcC.length + tl.length) (Int.toNat 2)) ty5.sz)) (abcC.length - Int.toNat 2) (aStr 4867 (List.take (Int.toNat 32) (List.drop (off []) (List.replicate (Int.toNat 32) 0))) (List.take (Int.toNat 12) (List.take (Int.toNat 32) (List.drop (off []) (List.replicate (Int.toNat 32) 0)))) (List.take ((Int.toNat 2) + (abcC.length - Int.toNat 2) - 16) (two (abcC ++ tl) (off []) (Int.toNat 2) (off (addO [] (slO (abcC.length + tl.length) (Int.toNat 2)) ty5.sz)) (abcC.length - Int.toNat 2))) ++ List.drop ((Int.toNat 2) + (abcC.length - Int.toNat 2) - 16) (two (abcC ++ tl) (off []) (Int.toNat 2) (off (addO [] (slO (abcC.length + tl.length) (Int.toNat 2)) ty5.sz)) (abcC.length - Int.toNat 2)))) (off []) (Int.toNat 7) (off (addO [] (slO (abcC.length + tl.length) (Int.toNat 7)) ty5.sz)) (abcC.length - Int.toNat 7))))).length := by rw [hL2l, hl]; show 0 + 19 ≤ _; omega
      repeat ((conv => whnf); first | refine pre_a ?_ | refine cond_ta ?_ | refine cond_fa ?_ | refine same_i ?_ | refine pre_i (by first | exact hf1 | exact hq | exact hf2 | exact hf3 | exact hq3 | exact hdX | (rw [hdX]; rfl)) ?_ | refine cond_t (by first | exact hf1 | exact hq | exact hf2 | exact hf3 | exact hq3 | exact hdX | (rw [hdX]; rfl)) ?_ | refine cond_f (by first | exact hf1 | exact hq | exact hf2 | exact hf3 | exact hq3 | exact hdX | (rw [hdX]; rfl)) ?_)
      conv => whnf
      refine final_h (hp' := []) [] h ?_
      repeat ((conv => whnf); refine same_i ?_)
      exact trivial
    · exact h.elim
end Go.Sym.A

namespace Go.Sym.A
open Go Go.Proofs.Try Go.Sym.Lp Go.Sym.Gcm Go.Sym.Aes Go.Sym.Pol Go.Sym.Cha
set_option maxRecDepth 100000
attribute [local irreducible] polySeal polyTag gSeal gTag gStr strm sprd aTag aStr aSeal two
/-- the orders of the drawn regions of law8.Aeads -/
def pl3 : List (Nat × List PStep) := []

def lawG (nt : Nat) (ty : List (Nat × TyI)) (fs : List (Nat × Spec)) (w : World) (rs : List Row) : Ctx := { nt := nt, ty := ty, fn := fs, E := fun w' => Ext (fun _ => False) w w', ext := rowsExt rs }
def lawFnA : List (Nat × Spec) := [(11, sizesS), (12, sizesS), (13, aSealS), (14, aSealS), (15, aOpenS), (16, aOpenS), (17, lnumS), (18, awakeS), (19, openInS), (20, sealInS), (21, gSealP), (22, pSealP), (23, pOpenP)]
theorem lawFnA_ok : ∀ f S, look lawFnA f = some S → SoundC prog f S := fnok_cons sizes_s (fnok_cons rsizes_s (fnok_cons aSeal_s (fnok_cons raSeal_s (fnok_cons aOpen_s (fnok_cons raOpen_s (fnok_cons lnum_s (fnok_cons awake_s (fnok_cons openIn_s (fnok_cons sealIn_s (fnok_cons gSealP_s (fnok_cons pSealP_s (fnok_cons pOpenP_s fnok_nil))))))))))))
theorem aeads_vc (W : World) (w : Int) (key nonce aad s : List UInt8) (hs : s.length ≤ 140737488351232) :
    fnVC (lawG f3.ntmps tyAead lawFnA W []) pl3 (codeOf f3) f3.results.toList [.int w, .str key, .str nonce, .str aad, .str s] [] (fun r _ => r = .bool true) := by
  have four : w = 4865 ∨ w = 4866 ∨ w = 4867 ∨ (w ≠ 4865 ∧ w ≠ 4866 ∧ w ≠ 4867) := by omega
  generalize e1 : decide (aKey w key.length ∧ nonce.length = 12 ∧ aad.length ≤ 65536 ∧ (s.length : Int) ≤ 65536) = c1
  generalize e2 : decide (aKey w key.length ∧ nonce.length = 12 ∧ aad.length ≤ 65536 ∧ (s.length : Int) - 16 ≤ 65536) = c2
  generalize e3 : decide (16 ≤ s.length ∧ aTag w key nonce aad (s.take (s.length - 16)) = s.drop (s.length - 16)) = c3
  have h63 : s.length < 9223372036854775808 := by omega
  rcases four with h0 | h0 | h0 | ⟨h0, h1, h2⟩ <;> cases c1 <;> cases c2 <;> cases c3
  all_goals
    repeat ((conv => whnf); first | refine pre_a ?_ | refine cond_ta ?_ | refine cond_fa ?_ | refine same_i ?_)
    conv => whnf
    refine final_h (hp' := []) [] rfl ?_
    repeat ((conv => whnf); refine same_i ?_)
    exact trivial
theorem aeads_end (W : World) (w : Int) (_ : -9223372036854775808 ≤ w ∧ w ≤ 9223372036854775807) (key : List UInt8) (_ : key.length ≤ 140737488351232) (nonce : List UInt8) (_ : nonce.length ≤ 140737488351232) (aad : List UInt8) (_ : aad.length ≤ 140737488351232) (s : List UInt8) (hs : s.length ≤ 140737488351232) :
    fnVC (lawG f3.ntmps tyAead lawFnA W []) pl3 (codeOf f3) f3.results.toList [.int w, .str key, .str nonce, .str aad, .str s] [] (fun r _ => r = .bool true) := aeads_vc W w key nonce aad s hs
end Go.Sym.A

namespace Go.Sym.A
open Go Go.Proofs.Try Go.Sym.Lp Go.Sym.Gcm Go.Sym.Aes Go.Sym.Pol Go.Sym.Cha
set_option maxRecDepth 100000
attribute [local irreducible] polySeal polyTag gSeal gTag gStr strm sprd aTag aStr aSeal two
/-- the orders of the drawn regions of law8.AeadForms -/
def pl6 : List (Nat × List PStep) := [(9, [⟨0, []⟩, ⟨1, [0]⟩, ⟨2, [0]⟩, ⟨3, [0]⟩, ⟨4, [0, 1, 2, 3]⟩, ⟨5, [0, 1, 2, 3]⟩, ⟨6, [0, 1, 2, 3]⟩, ⟨7, []⟩, ⟨8, []⟩, ⟨9, []⟩, ⟨10, [9]⟩, ⟨11, [10]⟩, ⟨12, []⟩]), (10, [⟨0, []⟩, ⟨1, [0]⟩, ⟨2, [0]⟩, ⟨3, [0]⟩, ⟨4, [0, 1, 2, 3]⟩, ⟨5, [0, 1, 2, 3]⟩, ⟨6, [0, 1, 2, 3]⟩, ⟨7, [0, 1, 2, 3, 4, 5, 6]⟩, ⟨8, [0, 1, 2, 3, 4, 5, 6]⟩, ⟨9, [0, 1, 2, 3, 4, 5, 6, 7, 8]⟩, ⟨10, [0, 1, 2, 3, 4, 5, 6, 7, 8]⟩, ⟨11, []⟩, ⟨12, []⟩, ⟨13, []⟩, ⟨14, [13]⟩, ⟨15, [14]⟩, ⟨16, []⟩]), (11, [⟨0, []⟩, ⟨1, []⟩, ⟨2, [0, 1]⟩, ⟨3, [0, 1]⟩, ⟨4, []⟩, ⟨5, []⟩, ⟨6, []⟩, ⟨7, []⟩, ⟨8, []⟩, ⟨9, []⟩]), (13, [⟨0, []⟩, ⟨1, [0]⟩, ⟨2, [0]⟩, ⟨3, [0]⟩, ⟨4, [0, 1, 2, 3]⟩, ⟨5, [0, 1, 2, 3]⟩, ⟨6, [0, 1, 2, 3]⟩, ⟨7, [0, 1, 2, 3, 4, 5, 6]⟩, ⟨8, [0, 1, 2, 3, 4, 5, 6]⟩, ⟨9, [0, 1, 2, 3, 4, 5, 6, 7, 8]⟩, ⟨10, [0, 1, 2, 3, 4, 5, 6, 7, 8]⟩, ⟨11, []⟩, ⟨12, []⟩])]

set_option maxHeartbeats 4000000 in
theorem aeadForms_vc (W : World) (suite key nonce : Int) :
    fnVC (lawG f6.ntmps tyAead lawFnA W []) pl6 (codeOf f6) f6.results.toList [.int suite, .int key, .int nonce] [] (fun r _ => r = .bool true) := by
  have b1 := Go.Sym.Ib.ibits_and (a := suite) (m := 7) (by decide) (by decide)
  have b2 := Go.Sym.Ib.ibits_and (a := key) (m := 63) (by decide) (by decide)
  have b3 := Go.Sym.Ib.ibits_and (a := nonce) (m := 3) (by decide) (by decide)
  repeat ((conv => whnf); first | refine pre_a ?_ | refine cond_ta ?_ | refine cond_fa ?_ | refine same_i ?_)
  conv => whnf
  generalize ibits .and key 63 = k at *
  generalize ibits .and nonce 3 = m3 at *
  generalize ibits .and suite 7 = u at *
  obtain ⟨w, hw⟩ : ∃ w, w = 4864 + u := ⟨_, rfl⟩
  obtain ⟨m, hm⟩ : ∃ m, m = 10 + m3 := ⟨_, rfl⟩
  rw [← hw, ← hm]
  have bw : 4864 ≤ w ∧ w ≤ 4871 := by omega
  have bm : 10 ≤ m ∧ m ≤ 13 := by omega
  clear hw hm b1 b3
  have hKl : (List.take k.toNat (List.drop (off []) (List.replicate k.toNat 0)) : List UInt8).length = k.toNat := by rw [List.length_take, List.length_drop, List.length_replicate]; show min _ (_ - 0) = _; omega
  have hNl : (List.take m.toNat (List.drop (off []) (List.replicate m.toNat 0)) : List UInt8).length = m.toNat := by rw [List.length_take, List.length_drop, List.length_replicate]; show min _ (_ - 0) = _; omega
  have hx7 : (off (addO [] (slO (Int.toNat 20) (Int.toNat 7)) ty5.sz)) = 7 := by rw [off_addO, slO_eq (show Int.toNat 20 ≠ Int.toNat 7 by decide)]; rfl
  have hx3 : (off (addO [] (slO (Int.toNat 20) (Int.toNat 3)) ty5.sz)) = 3 := by rw [off_addO, slO_eq (show Int.toNat 20 ≠ Int.toNat 3 by decide)]; rfl
  have hZl : (List.replicate (Int.toNat 20) 0 : List UInt8).length = 20 := by rw [List.length_replicate]; rfl
  have p7 : off [] + Int.toNat 7 ≤ (List.replicate (Int.toNat 20) 0 : List UInt8).length ∧ (off (addO [] (slO (Int.toNat 20) (Int.toNat 7)) ty5.sz)) + (Int.toNat 20 - Int.toNat 7) ≤ (List.replicate (Int.toNat 20) 0 : List UInt8).length ∧ Int.toNat 7 + (Int.toNat 20 - Int.toNat 7) ≤ 4611686018427387904 := by rw [hx7, hZl]; decide
  have p3 : off [] + Int.toNat 3 ≤ (List.replicate (Int.toNat 20) 0 : List UInt8).length ∧ (off (addO [] (slO (Int.toNat 20) (Int.toNat 3)) ty5.sz)) + (Int.toNat 20 - Int.toNat 3) ≤ (List.replicate (Int.toNat 20) 0 : List UInt8).length ∧ Int.toNat 3 + (Int.toNat 20 - Int.toNat 3) ≤ 4611686018427387904 := by rw [hx3, hZl]; decide
  have hT7l : (two (List.replicate (Int.toNat 20) 0 : List UInt8) (off []) (Int.toNat 7) (off (addO [] (slO (Int.toNat 20) (Int.toNat 7)) ty5.sz)) (Int.toNat 20 - Int.toNat 7)).length = 20 := by
    rw [hx7]
    show (two _ 0 7 7 13).length = _
    rw [two_w (fun _ => rfl) (by rw [hZl]; decide), List.length_take, hZl]
    rfl
  have hL1l : (sprd (List.replicate (Int.toNat 20) 0 : List UInt8) (off []) (Int.toNat 7) (off (addO [] (slO (Int.toNat 20) (Int.toNat 7)) ty5.sz)) (Int.toNat 20 - Int.toNat 7) (aStr w (List.take k.toNat (List.drop (off []) (List.replicate k.toNat 0)) : List UInt8) (List.take m.toNat (List.drop (off []) (List.replicate m.toNat 0)) : List UInt8) (List.take (Int.toNat 7 + (Int.toNat 20 - Int.toNat 7) - 16) (two (List.replicate (Int.toNat 20) 0 : List UInt8) (off []) (Int.toNat 7) (off (addO [] (slO (Int.toNat 20) (Int.toNat 7)) ty5.sz)) (Int.toNat 20 - Int.toNat 7))) ++ List.drop (Int.toNat 7 + (Int.toNat 20 - Int.toNat 7) - 16) (two (List.replicate (Int.toNat 20) 0 : List UInt8) (off []) (Int.toNat 7) (off (addO [] (slO (Int.toNat 20) (Int.toNat 7)) ty5.sz)) (Int.toNat 20 - Int.toNat 7)))).length = 20 := by
    have hl : (aStr w (List.take k.toNat (List.drop (off []) (List.replicate k.toNat 0)) : List UInt8) (List.take m.toNat (List.drop (off []) (List.replicate m.toNat 0)) : List UInt8) (List.take (Int.toNat 7 + (Int.toNat 20 - Int.toNat 7) - 16) (two (List.replicate (Int.toNat 20) 0 : List UInt8) (off []) (Int.toNat 7) (off (addO [] (slO (Int.toNat 20) (Int.toNat 7)) ty5.sz)) (Int.toNat 20 - Int.toNat 7))) ++ List.drop (Int.toNat 7 + (Int.toNat 20 - Int.toNat 7) - 16) (two (List.replicate (Int.toNat 20) 0 : List UInt8) (off []) (Int.toNat 7) (off (addO [] (slO (Int.toNat 20) (Int.toNat 7)) ty5.sz)) (Int.toNat 20 - Int.toNat 7))).length = 20 := by
      rw [List.length_append, aStr_len, List.length_take, List.length_drop, hT7l]; rfl
    rw [hx7]
    show (sprd _ 0 7 7 13 _).length = _
    rw [hx7] at hl
    rw [sprd_w (fun _ => rfl) (by rw [hZl]; decide) hl, List.length_append, hl, List.length_drop, hZl]
  have q3 : off [] + Int.toNat 3 ≤ (sprd (List.replicate (Int.toNat 20) 0 : List UInt8) (off []) (Int.toNat 7) (off (addO [] (slO (Int.toNat 20) (Int.toNat 7)) ty5.sz)) (Int.toNat 20 - Int.toNat 7) (aStr w (List.take k.toNat (List.drop (off []) (List.replicate k.toNat 0)) : List UInt8) (List.take m.toNat (List.drop (off []) (List.replicate m.toNat 0)) : List UInt8) (List.take (Int.toNat 7 + (Int.toNat 20 - Int.toNat 7) - 16) (two (List.replicate (Int.toNat 20) 0 : List UInt8) (off []) (Int.toNat 7) (off (addO [] (slO (Int.toNat 20) (Int.toNat 7)) ty5.sz)) (Int.toNat 20 - Int.toNat 7))) ++ List.drop (Int.toNat 7 + (Int.toNat 20 - Int.toNat 7) - 16) (two (List.replicate (Int.toNat 20) 0 : List UInt8) (off []) (Int.toNat 7) (off (addO [] (slO (Int.toNat 20) (Int.toNat 7)) ty5.sz)) (Int.toNat 20 - Int.toNat 7)))).length ∧ (off (addO [] (slO (Int.toNat 20) (Int.toNat 3)) ty5.sz)) + (Int.toNat 20 - Int.toNat 3) ≤ (sprd (List.replicate (Int.toNat 20) 0 : List UInt8) (off []) (Int.toNat 7) (off (addO [] (slO (Int.toNat 20) (Int.toNat 7)) ty5.sz)) (Int.toNat 20 - Int.toNat 7) (aStr w (List.take k.toNat (List.drop (off []) (List.replicate k.toNat 0)) : List UInt8) (List.take m.toNat (List.drop (off []) (List.replicate m.toNat 0)) : List UInt8) (List.take (Int.toNat 7 + (Int.toNat 20 - Int.toNat 7) - 16) (two (List.replicate (Int.toNat 20) 0 : List UInt8) (off []) (Int.toNat 7) (off (addO [] (slO (Int.toNat 20) (Int.toNat 7)) ty5.sz)) (Int.toNat 20 - Int.toNat 7))) ++ List.drop (Int.toNat 7 + (Int.toNat 20 - Int.toNat 7) - 16) (two (List.replicate (Int.toNat 20) 0 : List UInt8) (off []) (Int.toNat 7) (off (addO [] (slO (Int.toNat 20) (Int.toNat 7)) ty5.sz)) (Int.toNat 20 - Int.toNat 7)))).length ∧ Int.toNat 3 + (Int.toNat 20 - Int.toNat 3) ≤ 4611686018427387904 := by rw [hx3, hL1l]; decide
  have po : off [] + Int.toNat 20 ≤ (sprd (List.replicate (Int.toNat 20) 0 : List UInt8) (off []) (Int.toNat 7) (off (addO [] (slO (Int.toNat 20) (Int.toNat 7)) ty5.sz)) (Int.toNat 20 - Int.toNat 7) (aStr w (List.take k.toNat (List.drop (off []) (List.replicate k.toNat 0)) : List UInt8) (List.take m.toNat (List.drop (off []) (List.replicate m.toNat 0)) : List UInt8) (List.take (Int.toNat 7 + (Int.toNat 20 - Int.toNat 7) - 16) (two (List.replicate (Int.toNat 20) 0 : List UInt8) (off []) (Int.toNat 7) (off (addO [] (slO (Int.toNat 20) (Int.toNat 7)) ty5.sz)) (Int.toNat 20 - Int.toNat 7))) ++ List.drop (Int.toNat 7 + (Int.toNat 20 - Int.toNat 7) - 16) (two (List.replicate (Int.toNat 20) 0 : List UInt8) (off []) (Int.toNat 7) (off (addO [] (slO (Int.toNat 20) (Int.toNat 7)) ty5.sz)) (Int.toNat 20 - Int.toNat 7)))).length := by rw [hL1l]; decide
  have four : w = 4865 ∨ w = 4866 ∨ w = 4867 ∨ (w ≠ 4865 ∧ w ≠ 4866 ∧ w ≠ 4867) := by omega
  rcases four with h0 | h0 | h0 | ⟨h0, h1, h2⟩
  · by_cases hk : k = 16
    · by_cases hn : m = 12
      · skip
        have hk' : aKey w (List.take k.toNat (List.drop (off []) (List.replicate k.toNat 0)) : List UInt8).length := by rw [hKl]; unfold aKey; omega
        have hn' : (List.take m.toNat (List.drop (off []) (List.replicate m.toNat 0)) : List UInt8).length = 12 := by rw [hNl]; omega
        have cs : decide (aKey w (List.take k.toNat (List.drop (off []) (List.replicate k.toNat 0)) : List UInt8).length ∧ (List.take m.toNat (List.drop (off []) (List.replicate m.toNat 0)) : List UInt8).length = 12 ∧ ([] : List UInt8).length ≤ 65536 ∧ (([97] : List UInt8).length : Int) ≤ 65536) = true := decide_eq_true ⟨hk', hn', by decide, by decide⟩
        have co : decide (aForm w (List.take k.toNat (List.drop (off []) (List.replicate k.toNat 0)) : List UInt8) (List.take m.toNat (List.drop (off []) (List.replicate m.toNat 0)) : List UInt8) [] (((Int.toNat 7 : Nat) : Int) + ((Int.toNat 20 - Int.toNat 7 : Nat) : Int) - 16)) = true := decide_eq_true ⟨hk', hn', by decide, by decide⟩
        have ci : decide (16 ≤ Int.toNat 3 + (Int.toNat 20 - Int.toNat 3) ∧ aForm w (List.take k.toNat (List.drop (off []) (List.replicate k.toNat 0)) : List UInt8) (List.take m.toNat (List.drop (off []) (List.replicate m.toNat 0)) : List UInt8) [] (((Int.toNat 3 : Nat) : Int) + ((Int.toNat 20 - Int.toNat 3 : Nat) : Int) - 16)) = true := decide_eq_true ⟨by decide, hk', hn', by decide, by decide⟩
        generalize eq : decide (16 ≤ Int.toNat 7 + (Int.toNat 20 - Int.toNat 7) ∧ aTag w (List.take k.toNat (List.drop (off []) (List.replicate k.toNat 0)) : List UInt8) (List.take m.toNat (List.drop (off []) (List.replicate m.toNat 0)) : List UInt8) [] (List.take (Int.toNat 7 + (Int.toNat 20 - Int.toNat 7) - 16) (two (List.replicate (Int.toNat 20) 0 : List UInt8) (off []) (Int.toNat 7) (off (addO [] (slO (Int.toNat 20) (Int.toNat 7)) ty5.sz)) (Int.toNat 20 - Int.toNat 7))) = List.drop (Int.toNat 7 + (Int.toNat 20 - Int.toNat 7) - 16) (two (List.replicate (Int.toNat 20) 0 : List UInt8) (off []) (Int.toNat 7) (off (addO [] (slO (Int.toNat 20) (Int.toNat 7)) ty5.sz)) (Int.toNat 20 - Int.toNat 7))) = cq
        generalize ez : decide (List.take (Int.toNat 20) (List.drop (off []) (sprd (List.replicate (Int.toNat 20) 0 : List UInt8) (off []) (Int.toNat 7) (off (addO [] (slO (Int.toNat 20) (Int.toNat 7)) ty5.sz)) (Int.toNat 20 - Int.toNat 7) (aStr w (List.take k.toNat (List.drop (off []) (List.replicate k.toNat 0)) : List UInt8) (List.take m.toNat (List.drop (off []) (List.replicate m.toNat 0)) : List UInt8) (List.take (Int.toNat 7 + (Int.toNat 20 - Int.toNat 7) - 16) (two (List.replicate (Int.toNat 20) 0 : List UInt8) (off []) (Int.toNat 7) (off (addO [] (slO (Int.toNat 20) (Int.toNat 7)) ty5.sz)) (Int.toNat 20 - Int.toNat 7))) ++ List.drop (Int.toNat 7 + (Int.toNat 20 - Int.toNat 7) - 16) (two (List.replicate (Int.toNat 20) 0 : List UInt8) (off []) (Int.toNat 7) (off (addO [] (slO (Int.toNat 20) (Int.toNat 7)) ty5.sz)) (Int.toNat 20 - Int.toNat 7))))) = List.take (Int.toNat 20) (List.drop (off []) (List.replicate (Int.toNat 20) 0 : List UInt8))) = cz
        cases cq <;> cases cz
        all_goals
          repeat ((conv => whnf); first | refine pre_a ?_ | refine cond_ta ?_ | refine cond_fa ?_ | refine same_i ?_ | refine pre_i (by first | exact cs | exact co | exact ci | exact eq | exact ez | (rw [ez]; rfl)) ?_ | refine cond_t (by first | exact cs | exact co | exact ci | exact eq | exact ez | (rw [ez]; rfl)) ?_ | refine cond_f (by first | exact cs | exact co | exact ci | exact eq | exact ez | (rw [ez]; rfl)) ?_)
          conv => whnf
          refine final_h (hp' := []) [] rfl ?_
          repeat ((conv => whnf); first | refine pre_a ?_ | refine cond_ta ?_ | refine cond_fa ?_ | refine same_i ?_)
          first
            | exact trivial
            | ((conv => whnf); refine same_q (congrArg SV.bool (show _ = true by first | (rw [decide_eq_true hn]; rfl) | (rw [decide_eq_false hn]; rfl))) ?_; (repeat ((conv => whnf); refine same_i ?_)); exact trivial)
      · have nf : ¬ (aKey w (List.take k.toNat (List.drop (off []) (List.replicate k.toNat 0)) : List UInt8).length ∧ (List.take m.toNat (List.drop (off []) (List.replicate m.toNat 0)) : List UInt8).length = 12) := fun hh => by
          have := hh.2; rw [hNl] at this; omega
        have cs : decide (aKey w (List.take k.toNat (List.drop (off []) (List.replicate k.toNat 0)) : List UInt8).length ∧ (List.take m.toNat (List.drop (off []) (List.replicate m.toNat 0)) : List UInt8).length = 12 ∧ ([] : List UInt8).length ≤ 65536 ∧ (([97] : List UInt8).length : Int) ≤ 65536) = false := decide_eq_false (fun hh => nf ⟨hh.1, hh.2.1⟩)
        have co : decide (aForm w (List.take k.toNat (List.drop (off []) (List.replicate k.toNat 0)) : List UInt8) (List.take m.toNat (List.drop (off []) (List.replicate m.toNat 0)) : List UInt8) [] (((Int.toNat 7 : Nat) : Int) + ((Int.toNat 20 - Int.toNat 7 : Nat) : Int) - 16)) = false := decide_eq_false (fun hh => nf ⟨hh.1, hh.2.1⟩)
        have ci : decide (16 ≤ Int.toNat 3 + (Int.toNat 20 - Int.toNat 3) ∧ aForm w (List.take k.toNat (List.drop (off []) (List.replicate k.toNat 0)) : List UInt8) (List.take m.toNat (List.drop (off []) (List.replicate m.toNat 0)) : List UInt8) [] (((Int.toNat 3 : Nat) : Int) + ((Int.toNat 20 - Int.toNat 3 : Nat) : Int) - 16)) = false := decide_eq_false (fun hh => nf ⟨hh.2.1, hh.2.2.1⟩)
        repeat ((conv => whnf); first | refine pre_a ?_ | refine cond_ta ?_ | refine cond_fa ?_ | refine same_i ?_ | refine pre_i (by first | exact cs | exact co | exact ci) ?_ | refine cond_t (by first | exact cs | exact co | exact ci) ?_ | refine cond_f (by first | exact cs | exact co | exact ci) ?_)
        conv => whnf
        refine final_h (hp' := []) [] rfl ?_
        repeat ((conv => whnf); first | refine pre_a ?_ | refine cond_ta ?_ | refine cond_fa ?_ | refine same_i ?_)
        first
          | exact trivial
          | ((conv => whnf); refine same_q (congrArg SV.bool (show _ = true by first | (rw [decide_eq_true hn]; rfl) | (rw [decide_eq_false hn]; rfl))) ?_; (repeat ((conv => whnf); refine same_i ?_)); exact trivial)
    · have nf : ¬ (aKey w (List.take k.toNat (List.drop (off []) (List.replicate k.toNat 0)) : List UInt8).length ∧ (List.take m.toNat (List.drop (off []) (List.replicate m.toNat 0)) : List UInt8).length = 12) := fun hh => by
        have := hh.1; rw [hKl] at this; unfold aKey at this; omega
      have cs : decide (aKey w (List.take k.toNat (List.drop (off []) (List.replicate k.toNat 0)) : List UInt8).length ∧ (List.take m.toNat (List.drop (off []) (List.replicate m.toNat 0)) : List UInt8).length = 12 ∧ ([] : List UInt8).length ≤ 65536 ∧ (([97] : List UInt8).length : Int) ≤ 65536) = false := decide_eq_false (fun hh => nf ⟨hh.1, hh.2.1⟩)
      have co : decide (aForm w (List.take k.toNat (List.drop (off []) (List.replicate k.toNat 0)) : List UInt8) (List.take m.toNat (List.drop (off []) (List.replicate m.toNat 0)) : List UInt8) [] (((Int.toNat 7 : Nat) : Int) + ((Int.toNat 20 - Int.toNat 7 : Nat) : Int) - 16)) = false := decide_eq_false (fun hh => nf ⟨hh.1, hh.2.1⟩)
      have ci : decide (16 ≤ Int.toNat 3 + (Int.toNat 20 - Int.toNat 3) ∧ aForm w (List.take k.toNat (List.drop (off []) (List.replicate k.toNat 0)) : List UInt8) (List.take m.toNat (List.drop (off []) (List.replicate m.toNat 0)) : List UInt8) [] (((Int.toNat 3 : Nat) : Int) + ((Int.toNat 20 - Int.toNat 3 : Nat) : Int) - 16)) = false := decide_eq_false (fun hh => nf ⟨hh.2.1, hh.2.2.1⟩)
      repeat ((conv => whnf); first | refine pre_a ?_ | refine cond_ta ?_ | refine cond_fa ?_ | refine same_i ?_ | refine pre_i (by first | exact cs | exact co | exact ci) ?_ | refine cond_t (by first | exact cs | exact co | exact ci) ?_ | refine cond_f (by first | exact cs | exact co | exact ci) ?_)
      conv => whnf
      refine final_h (hp' := []) [] rfl ?_
      repeat ((conv => whnf); first | refine pre_a ?_ | refine cond_ta ?_ | refine cond_fa ?_ | refine same_i ?_)
      first
        | exact trivial
        | ((conv => whnf); refine same_q (congrArg SV.bool (show _ = true by first | (rw [decide_eq_true hn]; rfl) | (rw [decide_eq_false hn]; rfl))) ?_; (repeat ((conv => whnf); refine same_i ?_)); exact trivial)
  · by_cases hk : k = 32
    · by_cases hn : m = 12
      · skip
        have hk' : aKey w (List.take k.toNat (List.drop (off []) (List.replicate k.toNat 0)) : List UInt8).length := by rw [hKl]; unfold aKey; omega
        have hn' : (List.take m.toNat (List.drop (off []) (List.replicate m.toNat 0)) : List UInt8).length = 12 := by rw [hNl]; omega
        have cs : decide (aKey w (List.take k.toNat (List.drop (off []) (List.replicate k.toNat 0)) : List UInt8).length ∧ (List.take m.toNat (List.drop (off []) (List.replicate m.toNat 0)) : List UInt8).length = 12 ∧ ([] : List UInt8).length ≤ 65536 ∧ (([97] : List UInt8).length : Int) ≤ 65536) = true := decide_eq_true ⟨hk', hn', by decide, by decide⟩
        have co : decide (aForm w (List.take k.toNat (List.drop (off []) (List.replicate k.toNat 0)) : List UInt8) (List.take m.toNat (List.drop (off []) (List.replicate m.toNat 0)) : List UInt8) [] (((Int.toNat 7 : Nat) : Int) + ((Int.toNat 20 - Int.toNat 7 : Nat) : Int) - 16)) = true := decide_eq_true ⟨hk', hn', by decide, by decide⟩
        have ci : decide (16 ≤ Int.toNat 3 + (Int.toNat 20 - Int.toNat 3) ∧ aForm w (List.take k.toNat (List.drop (off []) (List.replicate k.toNat 0)) : List UInt8) (List.take m.toNat (List.drop (off []) (List.replicate m.toNat 0)) : List UInt8) [] (((Int.toNat 3 : Nat) : Int) + ((Int.toNat 20 - Int.toNat 3 : Nat) : Int) - 16)) = true := decide_eq_true ⟨by decide, hk', hn', by decide, by decide⟩
        generalize eq : decide (16 ≤ Int.toNat 7 + (Int.toNat 20 - Int.toNat 7) ∧ aTag w (List.take k.toNat (List.drop (off []) (List.replicate k.toNat 0)) : List UInt8) (List.take m.toNat (List.drop (off []) (List.replicate m.toNat 0)) : List UInt8) [] (List.take (Int.toNat 7 + (Int.toNat 20 - Int.toNat 7) - 16) (two (List.replicate (Int.toNat 20) 0 : List UInt8) (off []) (Int.toNat 7) (off (addO [] (slO (Int.toNat 20) (Int.toNat 7)) ty5.sz)) (Int.toNat 20 - Int.toNat 7))) = List.drop (Int.toNat 7 + (Int.toNat 20 - Int.toNat 7) - 16) (two (List.replicate (Int.toNat 20) 0 : List UInt8) (off []) (Int.toNat 7) (off (addO [] (slO (Int.toNat 20) (Int.toNat 7)) ty5.sz)) (Int.toNat 20 - Int.toNat 7))) = cq
        generalize ez : decide (List.take (Int.toNat 20) (List.drop (off []) (sprd (List.replicate (Int.toNat 20) 0 : List UInt8) (off []) (Int.toNat 7) (off (addO [] (slO (Int.toNat 20) (Int.toNat 7)) ty5.sz)) (Int.toNat 20 - Int.toNat 7) (aStr w (List.take k.toNat (List.drop (off []) (List.replicate k.toNat 0)) : List UInt8) (List.take m.toNat (List.drop (off []) (List.replicate m.toNat 0)) : List UInt8) (List.take (Int.toNat 7 + (Int.toNat 20 - Int.toNat 7) - 16) (two (List.replicate (Int.toNat 20) 0 : List UInt8) (off []) (Int.toNat 7) (off (addO [] (slO (Int.toNat 20) (Int.toNat 7)) ty5.sz)) (Int.toNat 20 - Int.toNat 7))) ++ List.drop (Int.toNat 7 + (Int.toNat 20 - Int.toNat 7) - 16) (two (List.replicate (Int.toNat 20) 0 : List UInt8) (off []) (Int.toNat 7) (off (addO [] (slO (Int.toNat 20) (Int.toNat 7)) ty5.sz)) (Int.toNat 20 - Int.toNat 7))))) = List.take (Int.toNat 20) (List.drop (off []) (List.replicate (Int.toNat 20) 0 : List UInt8))) = cz
        cases cq <;> cases cz
        all_goals
          repeat ((conv => whnf); first | refine pre_a ?_ | refine cond_ta ?_ | refine cond_fa ?_ | refine same_i ?_ | refine pre_i (by first | exact cs | exact co | exact ci | exact eq | exact ez | (rw [ez]; rfl)) ?_ | refine cond_t (by first | exact cs | exact co | exact ci | exact eq | exact ez | (rw [ez]; rfl)) ?_ | refine cond_f (by first | exact cs | exact co | exact ci | exact eq | exact ez | (rw [ez]; rfl)) ?_)
          conv => whnf
          refine final_h (hp' := []) [] rfl ?_
          repeat ((conv => whnf); first | refine pre_a ?_ | refine cond_ta ?_ | refine cond_fa ?_ | refine same_i ?_)
          first
            | exact trivial
            | ((conv => whnf); refine same_q (congrArg SV.bool (show _ = true by first | (rw [decide_eq_true hn]; rfl) | (rw [decide_eq_false hn]; rfl))) ?_; (repeat ((conv => whnf); refine same_i ?_)); exact trivial)
      · have nf : ¬ (aKey w (List.take k.toNat (List.drop (off []) (List.replicate k.toNat 0)) : List UInt8).length ∧ (List.take m.toNat (List.drop (off []) (List.replicate m.toNat 0)) : List UInt8).length = 12) := fun hh => by
          have := hh.2; rw [hNl] at this; omega
        have cs : decide (aKey w (List.take k.toNat (List.drop (off []) (List.replicate k.toNat 0)) : List UInt8).length ∧ (List.take m.toNat (List.drop (off []) (List.replicate m.toNat 0)) : List UInt8).length = 12 ∧ ([] : List UInt8).length ≤ 65536 ∧ (([97] : List UInt8).length : Int) ≤ 65536) = false := decide_eq_false (fun hh => nf ⟨hh.1, hh.2.1⟩)
        have co : decide (aForm w (List.take k.toNat (List.drop (off []) (List.replicate k.toNat 0)) : List UInt8) (List.take m.toNat (List.drop (off []) (List.replicate m.toNat 0)) : List UInt8) [] (((Int.toNat 7 : Nat) : Int) + ((Int.toNat 20 - Int.toNat 7 : Nat) : Int) - 16)) = false := decide_eq_false (fun hh => nf ⟨hh.1, hh.2.1⟩)
        have ci : decide (16 ≤ Int.toNat 3 + (Int.toNat 20 - Int.toNat 3) ∧ aForm w (List.take k.toNat (List.drop (off []) (List.replicate k.toNat 0)) : List UInt8) (List.take m.toNat (List.drop (off []) (List.replicate m.toNat 0)) : List UInt8) [] (((Int.toNat 3 : Nat) : Int) + ((Int.toNat 20 - Int.toNat 3 : Nat) : Int) - 16)) = false := decide_eq_false (fun hh => nf ⟨hh.2.1, hh.2.2.1⟩)
        repeat ((conv => whnf); first | refine pre_a ?_ | refine cond_ta ?_ | refine cond_fa ?_ | refine same_i ?_ | refine pre_i (by first | exact cs | exact co | exact ci) ?_ | refine cond_t (by first | exact cs | exact co | exact ci) ?_ | refine cond_f (by first | exact cs | exact co | exact ci) ?_)
        conv => whnf
        refine final_h (hp' := []) [] rfl ?_
        repeat ((conv => whnf); first | refine pre_a ?_ | refine cond_ta ?_ | refine cond_fa ?_ | refine same_i ?_)
        first
          | exact trivial
          | ((conv => whnf); refine same_q (congrArg SV.bool (show _ = true by first | (rw [decide_eq_true hn]; rfl) | (rw [decide_eq_false hn]; rfl))) ?_; (repeat ((conv => whnf); refine same_i ?_)); exact trivial)
    · have nf : ¬ (aKey w (List.take k.toNat (List.drop (off []) (List.replicate k.toNat 0)) : List UInt8).length ∧ (List.take m.toNat (List.drop (off []) (List.replicate m.toNat 0)) : List UInt8).length = 12) := fun hh => by
        have := hh.1; rw [hKl] at this; unfold aKey at this; omega
      have cs : decide (aKey w (List.take k.toNat (List.drop (off []) (List.replicate k.toNat 0)) : List UInt8).length ∧ (List.take m.toNat (List.drop (off []) (List.replicate m.toNat 0)) : List UInt8).length = 12 ∧ ([] : List UInt8).length ≤ 65536 ∧ (([97] : List UInt8).length : Int) ≤ 65536) = false := decide_eq_false (fun hh => nf ⟨hh.1, hh.2.1⟩)
      have co : decide (aForm w (List.take k.toNat (List.drop (off []) (List.replicate k.toNat 0)) : List UInt8) (List.take m.toNat (List.drop (off []) (List.replicate m.toNat 0)) : List UInt8) [] (((Int.toNat 7 : Nat) : Int) + ((Int.toNat 20 - Int.toNat 7 : Nat) : Int) - 16)) = false := decide_eq_false (fun hh => nf ⟨hh.1, hh.2.1⟩)
      have ci : decide (16 ≤ Int.toNat 3 + (Int.toNat 20 - Int.toNat 3) ∧ aForm w (List.take k.toNat (List.drop (off []) (List.replicate k.toNat 0)) : List UInt8) (List.take m.toNat (List.drop (off []) (List.replicate m.toNat 0)) : List UInt8) [] (((Int.toNat 3 : Nat) : Int) + ((Int.toNat 20 - Int.toNat 3 : Nat) : Int) - 16)) = false := decide_eq_false (fun hh => nf ⟨hh.2.1, hh.2.2.1⟩)
      repeat ((conv => whnf); first | refine pre_a ?_ | refine cond_ta ?_ | refine cond_fa ?_ | refine same_i ?_ | refine pre_i (by first | exact cs | exact co | exact ci) ?_ | refine cond_t (by first | exact cs | exact co | exact ci) ?_ | refine cond_f (by first | exact cs | exact co | exact ci) ?_)
      conv => whnf
      refine final_h (hp' := []) [] rfl ?_
      repeat ((conv => whnf); first | refine pre_a ?_ | refine cond_ta ?_ | refine cond_fa ?_ | refine same_i ?_)
      first
        | exact trivial
        | ((conv => whnf); refine same_q (congrArg SV.bool (show _ = true by first | (rw [decide_eq_true hn]; rfl) | (rw [decide_eq_false hn]; rfl))) ?_; (repeat ((conv => whnf); refine same_i ?_)); exact trivial)
  · by_cases hk : k = 32
    · by_cases hn : m = 12
      · skip
        have hk' : aKey w (List.take k.toNat (List.drop (off []) (List.replicate k.toNat 0)) : List UInt8).length := by rw [hKl]; unfold aKey; omega
        have hn' : (List.take m.toNat (List.drop (off []) (List.replicate m.toNat 0)) : List UInt8).length = 12 := by rw [hNl]; omega
        have cs : decide (aKey w (List.take k.toNat (List.drop (off []) (List.replicate k.toNat 0)) : List UInt8).length ∧ (List.take m.toNat (List.drop (off []) (List.replicate m.toNat 0)) : List UInt8).length = 12 ∧ ([] : List UInt8).length ≤ 65536 ∧ (([97] : List UInt8).length : Int) ≤ 65536) = true := decide_eq_true ⟨hk', hn', by decide, by decide⟩
        have co : decide (aForm w (List.take k.toNat (List.drop (off []) (List.replicate k.toNat 0)) : List UInt8) (List.take m.toNat (List.drop (off []) (List.replicate m.toNat 0)) : List UInt8) [] (((Int.toNat 7 : Nat) : Int) + ((Int.toNat 20 - Int.toNat 7 : Nat) : Int) - 16)) = true := decide_eq_true ⟨hk', hn', by decide, by decide⟩
        have ci : decide (16 ≤ Int.toNat 3 + (Int.toNat 20 - Int.toNat 3) ∧ aForm w (List.take k.toNat (List.drop (off []) (List.replicate k.toNat 0)) : List UInt8) (List.take m.toNat (List.drop (off []) (List.replicate m.toNat 0)) : List UInt8) [] (((Int.toNat 3 : Nat) : Int) + ((Int.toNat 20 - Int.toNat 3 : Nat) : Int) - 16)) = true := decide_eq_true ⟨by decide, hk', hn', by decide, by decide⟩
        generalize eq : decide (16 ≤ Int.toNat 7 + (Int.toNat 20 - Int.toNat 7) ∧ aTag w (List.take k.toNat (List.drop (off []) (List.replicate k.toNat 0)) : List UInt8) (List.take m.toNat (List.drop (off []) (List.replicate m.toNat 0)) : List UInt8) [] (List.take (Int.toNat 7 + (Int.toNat 20 - Int.toNat 7) - 16) (two (List.replicate (Int.toNat 20) 0 : List UInt8) (off []) (Int.toNat 7) (off (addO [] (slO (Int.toNat 20) (Int.toNat 7)) ty5.sz)) (Int.toNat 20 - Int.toNat 7))) = List.drop (Int.toNat 7 + (Int.toNat 20 - Int.toNat 7) - 16) (two (List.replicate (Int.toNat 20) 0 : List UInt8) (off []) (Int.toNat 7) (off (addO [] (slO (Int.toNat 20) (Int.toNat 7)) ty5.sz)) (Int.toNat 20 - Int.toNat 7))) = cq
        generalize ez : decide (List.take (Int.toNat 20) (List.drop (off []) (sprd (List.replicate (Int.toNat 20) 0 : List UInt8) (off []) (Int.toNat 7) (off (addO [] (slO (Int.toNat 20) (Int.toNat 7)) ty5.sz)) (Int.toNat 20 - Int.toNat 7) (aStr w (List.take k.toNat (List.drop (off []) (List.replicate k.toNat 0)) : List UInt8) (List.take m.toNat (List.drop (off []) (List.replicate m.toNat 0)) : List UInt8) (List.take (Int.toNat 7 + (Int.toNat 20 - Int.toNat 7) - 16) (two (List.replicate (Int.toNat 20) 0 : List UInt8) (off []) (Int.toNat 7) (off (addO [] (slO (Int.toNat 20) (Int.toNat 7)) ty5.sz)) (Int.toNat 20 - Int.toNat 7))) ++ List.drop (Int.toNat 7 + (Int.toNat 20 - Int.toNat 7) - 16) (two (List.replicate (Int.toNat 20) 0 : List UInt8) (off []) (Int.toNat 7) (off (addO [] (slO (Int.toNat 20) (Int.toNat 7)) ty5.sz)) (Int.toNat 20 - Int.toNat 7))))) = List.take (Int.toNat 20) (List.drop (off []) (List.replicate (Int.toNat 20) 0 : List UInt8))) = cz
        cases cq <;> cases cz
        all_goals
          repeat ((conv => whnf); first | refine pre_a ?_ | refine cond_ta ?_ | refine cond_fa ?_ | refine same_i ?_ | refine pre_i (by first | exact cs | exact co | exact ci | exact eq | exact ez | (rw [ez]; rfl)) ?_ | refine cond_t (by first | exact cs | exact co | exact ci | exact eq | exact ez | (rw [ez]; rfl)) ?_ | refine cond_f (by first | exact cs | exact co | exact ci | exact eq | exact ez | (rw [ez]; rfl)) ?_)
          conv => whnf
          refine final_h (hp' := []) [] rfl ?_
          repeat ((conv => whnf); first | refine pre_a ?_ | refine cond_ta ?_ | refine cond_fa ?_ | refine same_i ?_)
          first
            | exact trivial
            | ((conv => whnf); refine same_q (congrArg SV.bool (show _ = true by first | (rw [decide_eq_true hn]; rfl) | (rw [decide_eq_false hn]; rfl))) ?_; (repeat ((conv => whnf); refine same_i ?_)); exact trivial)
      · have nf : ¬ (aKey w (List.take k.toNat (List.drop (off []) (List.replicate k.toNat 0)) : List UInt8).length ∧ (List.take m.toNat (List.drop (off []) (List.replicate m.toNat 0)) : List UInt8).length = 12) := fun hh => by
          have := hh.2; rw [hNl] at this; omega
        have cs : decide (aKey w (List.take k.toNat (List.drop (off []) (List.replicate k.toNat 0)) : List UInt8).length ∧ (List.take m.toNat (List.drop (off []) (List.replicate m.toNat 0)) : List UInt8).length = 12 ∧ ([] : List UInt8).length ≤ 65536 ∧ (([97] : List UInt8).length : Int) ≤ 65536) = false := decide_eq_false (fun hh => nf ⟨hh.1, hh.2.1⟩)
        have co : decide (aForm w (List.take k.toNat (List.drop (off []) (List.replicate k.toNat 0)) : List UInt8) (List.take m.toNat (List.drop (off []) (List.replicate m.toNat 0)) : List UInt8) [] (((Int.toNat 7 : Nat) : Int) + ((Int.toNat 20 - Int.toNat 7 : Nat) : Int) - 16)) = false := decide_eq_false (fun hh => nf ⟨hh.1, hh.2.1⟩)
        have ci : decide (16 ≤ Int.toNat 3 + (Int.toNat 20 - Int.toNat 3) ∧ aForm w (List.take k.toNat (List.drop (off []) (List.replicate k.toNat 0)) : List UInt8) (List.take m.toNat (List.drop (off []) (List.replicate m.toNat 0)) : List UInt8) [] (((Int.toNat 3 : Nat) : Int) + ((Int.toNat 20 - Int.toNat 3 : Nat) : Int) - 16)) = false := decide_eq_false (fun hh => nf ⟨hh.2.1, hh.2.2.1⟩)
        repeat ((conv => whnf); first | refine pre_a ?_ | refine cond_ta ?_ | refine cond_fa ?_ | refine same_i ?_ | refine pre_i (by first | exact cs | exact co | exact ci) ?_ | refine cond_t (by first | exact cs | exact co | exact ci) ?_ | refine cond_f (by first | exact cs | exact co | exact ci) ?_)
        conv => whnf
        refine final_h (hp' := []) [] rfl ?_
        repeat ((conv => whnf); first | refine pre_a ?_ | refine cond_ta ?_ | refine cond_fa ?_ | refine same_i ?_)
        first
          | exact trivial
          | ((conv => whnf); refine same_q (congrArg SV.bool (show _ = true by first | (rw [decide_eq_true hn]; rfl) | (rw [decide_eq_false hn]; rfl))) ?_; (repeat ((conv => whnf); refine same_i ?_)); exact trivial)
    · have nf : ¬ (aKey w (List.take k.toNat (List.drop (off []) (List.replicate k.toNat 0)) : List UInt8).length ∧ (List.take m.toNat (List.drop (off []) (List.replicate m.toNat 0)) : List UInt8).length = 12) := fun hh => by
        have := hh.1; rw [hKl] at this; unfold aKey at this; omega
      have cs : decide (aKey w (List.take k.toNat (List.drop (off []) (List.replicate k.toNat 0)) : List UInt8).length ∧ (List.take m.toNat (List.drop (off []) (List.replicate m.toNat 0)) : List UInt8).length = 12 ∧ ([] : List UInt8).length ≤ 65536 ∧ (([97] : List UInt8).length : Int) ≤ 65536) = false := decide_eq_false (fun hh => nf ⟨hh.1, hh.2.1⟩)
      have co : decide (aForm w (List.take k.toNat (List.drop (off []) (List.replicate k.toNat 0)) : List UInt8) (List.take m.toNat (List.drop (off []) (List.replicate m.toNat 0)) : List UInt8) [] (((Int.toNat 7 : Nat) : Int) + ((Int.toNat 20 - Int.toNat 7 : Nat) : Int) - 16)) = false := decide_eq_false (fun hh => nf ⟨hh.1, hh.2.1⟩)
      have ci : decide (16 ≤ Int.toNat 3 + (Int.toNat 20 - Int.toNat 3) ∧ aForm w (List.take k.toNat (List.drop (off []) (List.replicate k.toNat 0)) : List UInt8) (List.take m.toNat (List.drop (off []) (List.replicate m.toNat 0)) : List UInt8) [] (((Int.toNat 3 : Nat) : Int) + ((Int.toNat 20 - Int.toNat 3 : Nat) : Int) - 16)) = false := decide_eq_false (fun hh => nf ⟨hh.2.1, hh.2.2.1⟩)
      repeat ((conv => whnf); first | refine pre_a ?_ | refine cond_ta ?_ | refine cond_fa ?_ | refine same_i ?_ | refine pre_i (by first | exact cs | exact co | exact ci) ?_ | refine cond_t (by first | exact cs | exact co | exact ci) ?_ | refine cond_f (by first | exact cs | exact co | exact ci) ?_)
      conv => whnf
      refine final_h (hp' := []) [] rfl ?_
      repeat ((conv => whnf); first | refine pre_a ?_ | refine cond_ta ?_ | refine cond_fa ?_ | refine same_i ?_)
      first
        | exact trivial
        | ((conv => whnf); refine same_q (congrArg SV.bool (show _ = true by first | (rw [decide_eq_true hn]; rfl) | (rw [decide_eq_false hn]; rfl))) ?_; (repeat ((conv => whnf); refine same_i ?_)); exact trivial)
  · have nf : ¬ (aKey w (List.take k.toNat (List.drop (off []) (List.replicate k.toNat 0)) : List UInt8).length ∧ (List.take m.toNat (List.drop (off []) (List.replicate m.toNat 0)) : List UInt8).length = 12) := fun hh => by
      have := hh.1; unfold aKey at this; omega
    by_cases hge : 4865 ≤ w
    · have d1 : decide (w ≥ 4865) = true := decide_eq_true hge
      have d2 : decide (w ≤ 4867) = false := decide_eq_false (by omega)
      have cs : decide (aKey w (List.take k.toNat (List.drop (off []) (List.replicate k.toNat 0)) : List UInt8).length ∧ (List.take m.toNat (List.drop (off []) (List.replicate m.toNat 0)) : List UInt8).length = 12 ∧ ([] : List UInt8).length ≤ 65536 ∧ (([97] : List UInt8).length : Int) ≤ 65536) = false := decide_eq_false (fun hh => nf ⟨hh.1, hh.2.1⟩)
      have co : decide (aForm w (List.take k.toNat (List.drop (off []) (List.replicate k.toNat 0)) : List UInt8) (List.take m.toNat (List.drop (off []) (List.replicate m.toNat 0)) : List UInt8) [] (((Int.toNat 7 : Nat) : Int) + ((Int.toNat 20 - Int.toNat 7 : Nat) : Int) - 16)) = false := decide_eq_false (fun hh => nf ⟨hh.1, hh.2.1⟩)
      have ci : decide (16 ≤ Int.toNat 3 + (Int.toNat 20 - Int.toNat 3) ∧ aForm w (List.take k.toNat (List.drop (off []) (List.replicate k.toNat 0)) : List UInt8) (List.take m.toNat (List.drop (off []) (List.replicate m.toNat 0)) : List UInt8) [] (((Int.toNat 3 : Nat) : Int) + ((Int.toNat 20 - Int.toNat 3 : Nat) : Int) - 16)) = false := decide_eq_false (fun hh => nf ⟨hh.2.1, hh.2.2.1⟩)
      repeat ((conv => whnf); first | refine pre_a ?_ | refine cond_ta ?_ | refine cond_fa ?_ | refine same_i ?_ | refine pre_i (by first | exact cs | exact co | exact ci) ?_ | refine cond_t (by first | exact cs | exact co | exact ci) ?_ | refine cond_f (by first | exact cs | exact co | exact ci) ?_)
      conv => whnf
      refine final_h (hp' := []) [] rfl ?_
      repeat ((conv => whnf); first | refine pre_a ?_ | refine cond_ta ?_ | refine cond_fa ?_ | refine same_i ?_)
      first
        | exact trivial
        | ((conv => whnf); refine same_q (congrArg SV.bool (show _ = true by first | (rw [decide_eq_true hn]; rfl) | (rw [decide_eq_false hn]; rfl))) ?_; (repeat ((conv => whnf); refine same_i ?_)); exact trivial)
    · have d1 : decide (w ≥ 4865) = false := decide_eq_false hge
      have cs : decide (aKey w (List.take k.toNat (List.drop (off []) (List.replicate k.toNat 0)) : List UInt8).length ∧ (List.take m.toNat (List.drop (off []) (List.replicate m.toNat 0)) : List UInt8).length = 12 ∧ ([] : List UInt8).length ≤ 65536 ∧ (([97] : List UInt8).length : Int) ≤ 65536) = false := decide_eq_false (fun hh => nf ⟨hh.1, hh.2.1⟩)
      have co : decide (aForm w (List.take k.toNat (List.drop (off []) (List.replicate k.toNat 0)) : List UInt8) (List.take m.toNat (List.drop (off []) (List.replicate m.toNat 0)) : List UInt8) [] (((Int.toNat 7 : Nat) : Int) + ((Int.toNat 20 - Int.toNat 7 : Nat) : Int) - 16)) = false := decide_eq_false (fun hh => nf ⟨hh.1, hh.2.1⟩)
      have ci : decide (16 ≤ Int.toNat 3 + (Int.toNat 20 - Int.toNat 3) ∧ aForm w (List.take k.toNat (List.drop (off []) (List.replicate k.toNat 0)) : List UInt8) (List.take m.toNat (List.drop (off []) (List.replicate m.toNat 0)) : List UInt8) [] (((Int.toNat 3 : Nat) : Int) + ((Int.toNat 20 - Int.toNat 3 : Nat) : Int) - 16)) = false := decide_eq_false (fun hh => nf ⟨hh.2.1, hh.2.2.1⟩)
      repeat ((conv => whnf); first | refine pre_a ?_ | refine cond_ta ?_ | refine cond_fa ?_ | refine same_i ?_ | refine pre_i (by first | exact cs | exact co | exact ci) ?_ | refine cond_t (by first | exact cs | exact co | exact ci) ?_ | refine cond_f (by first | exact cs | exact co | exact ci) ?_)
      conv => whnf
      refine final_h (hp' := []) [] rfl ?_
      repeat ((conv => whnf); first | refine pre_a ?_ | refine cond_ta ?_ | refine cond_fa ?_ | refine same_i ?_)
      first
        | exact trivial
        | ((conv => whnf); refine same_q (congrArg SV.bool (show _ = true by first | (rw [decide_eq_true hn]; rfl) | (rw [decide_eq_false hn]; rfl))) ?_; (repeat ((conv => whnf); refine same_i ?_)); exact trivial)
theorem aeadForms_end (W : World) (suite : Int) (_ : -9223372036854775808 ≤ suite ∧ suite ≤ 9223372036854775807) (key : Int) (_ : -9223372036854775808 ≤ key ∧ key ≤ 9223372036854775807) (nonce : Int) (_ : -9223372036854775808 ≤ nonce ∧ nonce ≤ 9223372036854775807) :
    fnVC (lawG f6.ntmps tyAead lawFnA W []) pl6 (codeOf f6) f6.results.toList [.int suite, .int key, .int nonce] [] (fun r _ => r = .bool true) := aeadForms_vc W suite key nonce
end Go.Sym.A
