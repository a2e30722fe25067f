/-
  Contracts of functions of the program, each said of symbolic values; no condition beyond each statement's own.
-/
import Derived.Test.YtofhjelmgekofaaN9
set_option linter.unusedSimpArgs false
set_option linter.unusedVariables false
namespace Go.Sym.N
open Go Go.Proofs.Try Go.Sym.Num
set_option maxRecDepth 100000

/-- a byte turned turns the value -/
theorem beV_set {B : List UInt8} {n i : Nat} (h : B.length = n) (hi : i < n) (x : UInt8) : beV (B.set i x) + (B.getD i 0).toNat * 256 ^ (n - 1 - i) = beV B + x.toNat * 256 ^ (n - 1 - i) := by
  have hs : B = B.take i ++ (B.getD i 0 :: B.drop (i + 1)) := by
    have hlt : i < B.length := by omega
    rw [List.getD_eq_getElem?_getD, List.getElem?_eq_getElem hlt, Option.getD_some, ← List.drop_eq_getElem_cons hlt, List.take_append_drop]
  have hd : (B.drop (i + 1)).length = n - 1 - i := by rw [List.length_drop]; omega
  have h2 : B.set i x = B.take i ++ (x :: B.drop (i + 1)) := by rw [List.set_eq_take_append_cons_drop, if_pos (by omega)]
  have e1 : beV (B.take i ++ (B.getD i 0 :: B.drop (i + 1))) = beV (B.take i) * 256 ^ (n - 1 - i + 1) + ((B.getD i 0).toNat * 256 ^ (n - 1 - i) + beV (B.drop (i + 1))) := by
    rw [beV_app (n - 1 - i + 1) _ _ (by rw [List.length_cons, hd]), beV_cons _ _ _ hd]
  have e2 : beV (B.take i ++ (x :: B.drop (i + 1))) = beV (B.take i) * 256 ^ (n - 1 - i + 1) + (x.toNat * 256 ^ (n - 1 - i) + beV (B.drop (i + 1))) := by
    rw [beV_app (n - 1 - i + 1) _ _ (by rw [List.length_cons, hd]), beV_cons _ _ _ hd]
  have e3 : beV B = beV (B.take i ++ (B.getD i 0 :: B.drop (i + 1))) := congrArg beV hs
  rw [h2, e2, e3, e1]; omega

/-- the orders of the drawn regions of halberdlaw9.NumEnds -/
def pl8 : List (Nat × List PStep) := [(17, [⟨0, []⟩, ⟨1, [0]⟩, ⟨2, [0]⟩, ⟨3, [0, 1, 2]⟩, ⟨4, []⟩, ⟨5, []⟩, ⟨6, []⟩, ⟨7, [6]⟩, ⟨8, [7]⟩, ⟨9, []⟩]), (18, [⟨0, []⟩, ⟨2, [0]⟩, ⟨3, [0]⟩, ⟨1, [0, 2, 3]⟩, ⟨4, []⟩, ⟨5, []⟩, ⟨6, []⟩, ⟨7, [6]⟩, ⟨8, [7]⟩, ⟨9, []⟩]), (19, [⟨0, []⟩, ⟨1, [0]⟩, ⟨2, [0]⟩, ⟨3, [0]⟩, ⟨4, [0]⟩, ⟨5, [0]⟩, ⟨6, [0, 1, 2, 3, 4, 5]⟩, ⟨7, []⟩, ⟨8, []⟩, ⟨9, []⟩, ⟨10, [9]⟩, ⟨11, [10]⟩, ⟨12, []⟩])]

/-- at the loop's head: what is carried, and the bytes -/
structure Ex (T : Nat) where
  j : Nat
  c : Nat
  B : List UInt8
  hj : j ≤ 32
  hc : c ≤ 8
  hB : B.length = 32
  eq : beV B + c * 256 ^ j = T

theorem ends_step {T : Nat} (s : Ex T) (hj : s.j < 32) (x : UInt8) (c' : Nat) (h : s.c + (s.B.getD (31 - s.j) 0).toNat = 256 * c' + x.toNat) : beV (s.B.set (31 - s.j) x) + c' * 256 ^ (s.j + 1) = T := by
  have h1 := beV_set s.hB (show 31 - s.j < 32 by omega) x
  have e : 32 - 1 - (31 - s.j) = s.j := by omega
  rw [e] at h1
  have h2 := s.eq
  have h3 : (s.c + (s.B.getD (31 - s.j) 0).toNat) * 256 ^ s.j = (256 * c' + x.toNat) * 256 ^ s.j := by rw [h]
  rw [Nat.add_mul, Nat.add_mul] at h3
  have h4 : c' * 256 ^ (s.j + 1) = 256 * c' * 256 ^ s.j := by rw [Nat.pow_succ, Nat.mul_comm (256 ^ s.j) 256, ← Nat.mul_assoc, Nat.mul_comm c' 256]
  rw [h4]; omega
theorem ends_done {T : Nat} (s : Ex T) (hT : T < 256 ^ 32) (h : s.j = 32 ∨ s.c = 0) : beV s.B = T := by
  have h2 := s.eq
  rcases h with h | h
  · rw [h] at h2
    have : s.c = 0 := by
      rcases Nat.eq_zero_or_pos s.c with h0 | h0
      · exact h0
      · have := Nat.mul_le_mul_right (256 ^ 32) h0; omega
    rw [this, Nat.zero_mul] at h2; exact h2
  · rw [h, Nat.zero_mul] at h2; exact h2
theorem md_room {w : Int} (hw : 0 ≤ w ∧ w ≤ 2) : md w + 8 < 256 ^ 32 := by rcases w3 hw with rfl | rfl | rfl <;> decide +kernel

section
attribute [local irreducible] beV beB md opN okN okI ibits
theorem numEnds_vc (w : World) (z by' size : Int) :
    fnVC (lawG f8.ntmps tys lawFn w []) pl8 (codeOf f8) f8.results.toList [.int z, .int by', .int size] [] (fun r _ => r = .bool true) := by
  have hW := which (z := z)
  repeat ((conv => whnf); first | (refine pre_i ?hc ?_; case hc => first | exact (show planOK _ _ _ = true from by kernel_rfl) | assumption | omega | (unfold fits; omega) | decide +kernel | (constructor <;> first | assumption | omega) | (simp only [off_addO, ty3, ty4, ty5, ty9, ty24, ty35, ty41, ty42, ty50, ty67, ty69, ty70, ty71, ty72, ty77, ty78, ty79, ty94, ty97, ty108, off, offE] <;> omega) | (simp only [List.length_append, List.length_take, List.length_drop, List.length_nil, List.length_cons, List.length_replicate, List.length_set, off_addO, off, offE] <;> omega) | (simp only [off_addO, ty3, ty4, ty5, ty9, ty24, ty35, ty41, ty42, ty50, ty67, ty69, ty70, ty71, ty72, ty77, ty78, ty79, ty94, ty97, ty108, List.length_append, List.length_take, List.length_drop, List.length_nil, List.length_cons, List.length_replicate, List.length_set, off, offE] <;> omega) | (constructor <;> first | assumption | (simp only [off_addO, ty3, ty4, ty5, ty9, ty24, ty35, ty41, ty42, ty50, ty67, ty69, ty70, ty71, ty72, ty77, ty78, ty79, ty94, ty97, ty108, List.length_append, List.length_take, List.length_drop, List.length_nil, List.length_cons, List.length_replicate, List.length_set, off, offE] <;> omega))) | (refine cond_t ?hc ?_; case hc => first | rfl | assumption | (rw [decide_eq_true_eq]; omega) | (rw [decide_eq_false_iff_not]; omega) | (simp <;> omega)) | (refine cond_f ?hc ?_; case hc => first | rfl | assumption | (rw [decide_eq_true_eq]; omega) | (rw [decide_eq_false_iff_not]; omega) | (simp <;> omega)) | refine same_i ?_)
  conv => whnf
  generalize hWW : (((UInt64.ofInt z % UInt64.ofNat 3).toNat : Nat) : Int) = W at hW ⊢
  have hbig := md_big hW
  have hmlt := md_lt hW
  have hroom := md_room hW
  have h7 := ibits_and (a := by') (m := 7) (by decide) (by decide)
  have h1s := ibits_and (a := size) (m := 1) (by decide) (by decide)
  have b0 : Int.toNat 0 = 0 := rfl
  have b1 : Int.toNat 1 = 1 := rfl
  have d1 : decide (okN W (beB 32 (Int.toNat 0)) (beB 32 (Int.toNat 1))) = true := decide_eq_true (okN_v hW (by omega) (by omega))
  have e1 : beB 32 (opN 1 (md W) (beV (beB 32 (Int.toNat 0))) (beV (beB 32 (Int.toNat 1)))) = beB 32 (md W - 1) := by
    rw [vB (by decide), vB (by decide), b0, b1]; unfold opN; rw [if_neg (by decide), if_pos rfl, Nat.zero_add, Nat.mod_eq_of_lt (by omega)]
  have d2 : decide (okN W (beB 32 (md W - 1)) (beB 32 (Int.toNat 1))) = true := decide_eq_true (okN_v hW (by omega) (by omega))
  have e2 : beB 32 (opN 0 (md W) (beV (beB 32 (md W - 1))) (beV (beB 32 (Int.toNat 1)))) = beB 32 (Int.toNat 0) := by
    rw [vB (by omega), vB (by decide), b1]; unfold opN; rw [if_pos rfl, show md W - 1 + 1 = md W by omega, Nat.mod_self]; rfl
  have d3 : decide (okN W (beB 32 (md W - 1)) (beB 32 (md W - 1))) = true := decide_eq_true (okN_v hW (by omega) (by omega))
  have e3 : beB 32 (opN 2 (md W) (beV (beB 32 (md W - 1))) (beV (beB 32 (md W - 1)))) = beB 32 (Int.toNat 1) := by
    rw [vB (by omega)]; unfold opN; rw [if_neg (by decide), if_neg (by decide), if_pos rfl]
    obtain ⟨u, hu⟩ : ∃ u, md W = u + 2 := ⟨md W - 2, by omega⟩
    rw [hu, show u + 2 - 1 = u + 1 by omega, show (u + 1) * (u + 1) = (u + 2) * u + 1 by simp only [Nat.add_mul, Nat.mul_add]; omega, Nat.mul_add_mod, Nat.mod_eq_of_lt (by omega)]; rfl
  have hlen := beB_len 32 (md W - 1)
  repeat ((conv => whnf); first | (refine pre_i ?hc ?_; case hc => first | exact (show planOK _ _ _ = true from by kernel_rfl) | assumption | omega | (unfold fits; omega) | decide +kernel | (constructor <;> first | assumption | omega) | (simp only [off_addO, ty3, ty4, ty5, ty9, ty24, ty35, ty41, ty42, ty50, ty67, ty69, ty70, ty71, ty72, ty77, ty78, ty79, ty94, ty97, ty108, off, offE] <;> omega) | (simp only [List.length_append, List.length_take, List.length_drop, List.length_nil, List.length_cons, List.length_replicate, List.length_set, off_addO, off, offE] <;> omega) | (simp only [off_addO, ty3, ty4, ty5, ty9, ty24, ty35, ty41, ty42, ty50, ty67, ty69, ty70, ty71, ty72, ty77, ty78, ty79, ty94, ty97, ty108, List.length_append, List.length_take, List.length_drop, List.length_nil, List.length_cons, List.length_replicate, List.length_set, off, offE] <;> omega) | (constructor <;> first | assumption | (simp only [off_addO, ty3, ty4, ty5, ty9, ty24, ty35, ty41, ty42, ty50, ty67, ty69, ty70, ty71, ty72, ty77, ty78, ty79, ty94, ty97, ty108, List.length_append, List.length_take, List.length_drop, List.length_nil, List.length_cons, List.length_replicate, List.length_set, off, offE] <;> omega))) | (refine cond_t ?hc ?_; case hc => first | rfl | assumption | (rw [decide_eq_true_eq]; omega) | (rw [decide_eq_false_iff_not]; omega) | (simp <;> omega)) | (refine cond_f ?hc ?_; case hc => first | rfl | assumption | (rw [decide_eq_true_eq]; omega) | (rw [decide_eq_false_iff_not]; omega) | (simp <;> omega)) | refine same_i ?_)
  conv => whnf
  rw [e1]
  repeat ((conv => whnf); first | (refine pre_i ?hc ?_; case hc => first | exact (show planOK _ _ _ = true from by kernel_rfl) | assumption | omega | (unfold fits; omega) | decide +kernel | (constructor <;> first | assumption | omega) | (simp only [off_addO, ty3, ty4, ty5, ty9, ty24, ty35, ty41, ty42, ty50, ty67, ty69, ty70, ty71, ty72, ty77, ty78, ty79, ty94, ty97, ty108, off, offE] <;> omega) | (simp only [List.length_append, List.length_take, List.length_drop, List.length_nil, List.length_cons, List.length_replicate, List.length_set, off_addO, off, offE] <;> omega) | (simp only [off_addO, ty3, ty4, ty5, ty9, ty24, ty35, ty41, ty42, ty50, ty67, ty69, ty70, ty71, ty72, ty77, ty78, ty79, ty94, ty97, ty108, List.length_append, List.length_take, List.length_drop, List.length_nil, List.length_cons, List.length_replicate, List.length_set, off, offE] <;> omega) | (constructor <;> first | assumption | (simp only [off_addO, ty3, ty4, ty5, ty9, ty24, ty35, ty41, ty42, ty50, ty67, ty69, ty70, ty71, ty72, ty77, ty78, ty79, ty94, ty97, ty108, List.length_append, List.length_take, List.length_drop, List.length_nil, List.length_cons, List.length_replicate, List.length_set, off, offE] <;> omega))) | (refine cond_t ?hc ?_; case hc => first | rfl | assumption | (rw [decide_eq_true_eq]; omega) | (rw [decide_eq_false_iff_not]; omega) | (simp <;> omega)) | (refine cond_f ?hc ?_; case hc => first | rfl | assumption | (rw [decide_eq_true_eq]; omega) | (rw [decide_eq_false_iff_not]; omega) | (simp <;> omega)) | refine same_i ?_)
  conv => whnf
  refine all_i fun tail => ?_
  repeat ((conv => whnf); first | (refine pre_i ?hc ?_; case hc => first | exact (show planOK _ _ _ = true from by kernel_rfl) | assumption | omega | (unfold fits; omega) | decide +kernel | (constructor <;> first | assumption | omega) | (simp only [off_addO, ty3, ty4, ty5, ty9, ty24, ty35, ty41, ty42, ty50, ty67, ty69, ty70, ty71, ty72, ty77, ty78, ty79, ty94, ty97, ty108, off, offE] <;> omega) | (simp only [List.length_append, List.length_take, List.length_drop, List.length_nil, List.length_cons, List.length_replicate, List.length_set, off_addO, off, offE] <;> omega) | (simp only [off_addO, ty3, ty4, ty5, ty9, ty24, ty35, ty41, ty42, ty50, ty67, ty69, ty70, ty71, ty72, ty77, ty78, ty79, ty94, ty97, ty108, List.length_append, List.length_take, List.length_drop, List.length_nil, List.length_cons, List.length_replicate, List.length_set, off, offE] <;> omega) | (constructor <;> first | assumption | (simp only [off_addO, ty3, ty4, ty5, ty9, ty24, ty35, ty41, ty42, ty50, ty67, ty69, ty70, ty71, ty72, ty77, ty78, ty79, ty94, ty97, ty108, List.length_append, List.length_take, List.length_drop, List.length_nil, List.length_cons, List.length_replicate, List.length_set, off, offE] <;> omega))) | (refine cond_t ?hc ?_; case hc => first | rfl | assumption | (rw [decide_eq_true_eq]; omega) | (rw [decide_eq_false_iff_not]; omega) | (simp <;> omega)) | (refine cond_f ?hc ?_; case hc => first | rfl | assumption | (rw [decide_eq_true_eq]; omega) | (rw [decide_eq_false_iff_not]; omega) | (simp <;> omega)) | refine same_i ?_)
  conv => whnf
  rw [e2, e3]
  generalize hc0 : 1 + ibits .and by' 7 = c0
  obtain ⟨C, hC⟩ : ∃ C : Nat, c0 = C := ⟨c0.toNat, by omega⟩
  rw [hC]
  have hTr : md W - 1 + C < 256 ^ 32 := by omega
  have p0 : beV (beB 32 (md W - 1)) + C * 256 ^ 0 = md W - 1 + C := by rw [vB (by omega), Nat.pow_zero, Nat.mul_one]
  refine loop_h (Ex (md W - 1 + C)) (fun s => ⟨[(1, .int by'), (2, .int size), (7, .int W), (10, .str (beB 32 (Int.toNat 0))), (11, .int 0), (12, .str (beB 32 (Int.toNat 1))), (14, .sl 0 0 0 [] 32 (32 + tail.length)), (15, .int s.c), (16, .int (31 - (s.j : Int)))], [.mk 5 [.arr8 (32 + tail.length) (s.B ++ tail)]]⟩)
    (fun s => 32 - s.j) ⟨0, C, beB 32 (md W - 1), Nat.zero_le _, by omega, hlen, p0⟩ [0] ?_ ?_
  · conv => whnf
    refine same_q (by rw [hlen]; rfl) ?_
    repeat ((conv => whnf); first | (refine pre_i ?hc ?_; case hc => first | exact (show planOK _ _ _ = true from by kernel_rfl) | assumption | omega | (unfold fits; omega) | decide +kernel | (constructor <;> first | assumption | omega) | (simp only [off_addO, ty3, ty4, ty5, ty9, ty24, ty35, ty41, ty42, ty50, ty67, ty69, ty70, ty71, ty72, ty77, ty78, ty79, ty94, ty97, ty108, off, offE] <;> omega) | (simp only [List.length_append, List.length_take, List.length_drop, List.length_nil, List.length_cons, List.length_replicate, List.length_set, off_addO, off, offE] <;> omega) | (simp only [off_addO, ty3, ty4, ty5, ty9, ty24, ty35, ty41, ty42, ty50, ty67, ty69, ty70, ty71, ty72, ty77, ty78, ty79, ty94, ty97, ty108, List.length_append, List.length_take, List.length_drop, List.length_nil, List.length_cons, List.length_replicate, List.length_set, off, offE] <;> omega) | (constructor <;> first | assumption | (simp only [off_addO, ty3, ty4, ty5, ty9, ty24, ty35, ty41, ty42, ty50, ty67, ty69, ty70, ty71, ty72, ty77, ty78, ty79, ty94, ty97, ty108, List.length_append, List.length_take, List.length_drop, List.length_nil, List.length_cons, List.length_replicate, List.length_set, off, offE] <;> omega))) | (refine cond_t ?hc ?_; case hc => first | rfl | assumption | (rw [decide_eq_true_eq]; omega) | (rw [decide_eq_false_iff_not]; omega) | (simp <;> omega)) | (refine cond_f ?hc ?_; case hc => first | rfl | assumption | (rw [decide_eq_true_eq]; omega) | (rw [decide_eq_false_iff_not]; omega) | (simp <;> omega)) | refine same_i ?_)
    conv => whnf
    refine same_q (by rw [hlen]; rfl) ?_
    repeat ((conv => whnf); first | (refine pre_i ?hc ?_; case hc => first | exact (show planOK _ _ _ = true from by kernel_rfl) | assumption | omega | (unfold fits; omega) | decide +kernel | (constructor <;> first | assumption | omega) | (simp only [off_addO, ty3, ty4, ty5, ty9, ty24, ty35, ty41, ty42, ty50, ty67, ty69, ty70, ty71, ty72, ty77, ty78, ty79, ty94, ty97, ty108, off, offE] <;> omega) | (simp only [List.length_append, List.length_take, List.length_drop, List.length_nil, List.length_cons, List.length_replicate, List.length_set, off_addO, off, offE] <;> omega) | (simp only [off_addO, ty3, ty4, ty5, ty9, ty24, ty35, ty41, ty42, ty50, ty67, ty69, ty70, ty71, ty72, ty77, ty78, ty79, ty94, ty97, ty108, List.length_append, List.length_take, List.length_drop, List.length_nil, List.length_cons, List.length_replicate, List.length_set, off, offE] <;> omega) | (constructor <;> first | assumption | (simp only [off_addO, ty3, ty4, ty5, ty9, ty24, ty35, ty41, ty42, ty50, ty67, ty69, ty70, ty71, ty72, ty77, ty78, ty79, ty94, ty97, ty108, List.length_append, List.length_take, List.length_drop, List.length_nil, List.length_cons, List.length_replicate, List.length_set, off, offE] <;> omega))) | (refine cond_t ?hc ?_; case hc => first | rfl | assumption | (rw [decide_eq_true_eq]; omega) | (rw [decide_eq_false_iff_not]; omega) | (simp <;> omega)) | (refine cond_f ?hc ?_; case hc => first | rfl | assumption | (rw [decide_eq_true_eq]; omega) | (rw [decide_eq_false_iff_not]; omega) | (simp <;> omega)) | refine same_i ?_)
    exact trivial
  · intro s
    have hj := s.hj
    have hcc := s.hc
    have hB := s.hB
    have heq := s.eq
    by_cases hgo : s.j < 32 ∧ 0 < s.c
    · obtain ⟨hj32, hc1⟩ := hgo
      have hx1 : (31 - (s.j : Int)).toNat = 31 - s.j := by omega
      have hoff : off (addO [] (31 - (s.j : Int)).toNat ty5.sz) = 31 - s.j := by rw [hx1]; rfl
      have hbi : (s.B ++ tail).getD (31 - s.j) 0 = s.B.getD (31 - s.j) 0 := by
        rw [List.getD_eq_getElem?_getD, List.getD_eq_getElem?_getD, List.getElem?_append_left (by omega)]
      have hset : ∀ x, (s.B ++ tail).set (31 - s.j) x = s.B.set (31 - s.j) x ++ tail := fun x => List.set_append_left _ _ (by omega)
      have hlt : 31 - s.j < (s.B ++ tail).length := by rw [List.length_append]; omega
      have hb8 := (s.B.getD (31 - s.j) 0).toNat_lt
      have hlt2 : off (addO [] (31 - (s.j : Int)).toNat ty5.sz) < (s.B ++ tail).length := by rw [hoff]; exact hlt
      repeat ((conv => whnf); first | (refine pre_i ?hc ?_; case hc => first | exact (show planOK _ _ _ = true from by kernel_rfl) | assumption | omega | (unfold fits; omega) | decide +kernel | (constructor <;> first | assumption | omega) | (simp only [off_addO, ty3, ty4, ty5, ty9, ty24, ty35, ty41, ty42, ty50, ty67, ty69, ty70, ty71, ty72, ty77, ty78, ty79, ty94, ty97, ty108, off, offE] <;> omega) | (simp only [List.length_append, List.length_take, List.length_drop, List.length_nil, List.length_cons, List.length_replicate, List.length_set, off_addO, off, offE] <;> omega) | (simp only [off_addO, ty3, ty4, ty5, ty9, ty24, ty35, ty41, ty42, ty50, ty67, ty69, ty70, ty71, ty72, ty77, ty78, ty79, ty94, ty97, ty108, List.length_append, List.length_take, List.length_drop, List.length_nil, List.length_cons, List.length_replicate, List.length_set, off, offE] <;> omega) | (constructor <;> first | assumption | (simp only [off_addO, ty3, ty4, ty5, ty9, ty24, ty35, ty41, ty42, ty50, ty67, ty69, ty70, ty71, ty72, ty77, ty78, ty79, ty94, ty97, ty108, List.length_append, List.length_take, List.length_drop, List.length_nil, List.length_cons, List.length_replicate, List.length_set, off, offE] <;> omega))) | (refine cond_t ?hc ?_; case hc => first | rfl | assumption | (rw [decide_eq_true_eq]; omega) | (rw [decide_eq_false_iff_not]; omega) | (simp <;> omega)) | (refine cond_f ?hc ?_; case hc => first | rfl | assumption | (rw [decide_eq_true_eq]; omega) | (rw [decide_eq_false_iff_not]; omega) | (simp <;> omega)) | refine same_i ?_)
      conv => whnf
      rw [hoff, hbi]
      obtain ⟨bi, hbe⟩ : ∃ b, b = s.B.getD (31 - s.j) 0 := ⟨_, rfl⟩
      rw [← hbe] at hb8 ⊢
      have hS : ((s.c : Int) + (bi.toNat : Int)) = ((s.c + bi.toNat : Nat) : Int) := by omega
      have hx8 : (UInt8.ofInt (ibits .and ((s.c : Int) + (bi.toNat : Int)) 255)).toNat = (s.c + bi.toNat) % 256 := by
        have := ofInt_8 (ibits .and ((s.c : Int) + (bi.toNat : Int)) 255)
        rw [ibits_255 (by omega)] at this ⊢
        omega
      have hstep := ends_step s hj32 (UInt8.ofInt (ibits .and ((s.c : Int) + (bi.toNat : Int)) 255)) ((s.c + bi.toNat) / 256) (by rw [hx8, ← hbe]; omega)
      repeat ((conv => whnf); first | (refine pre_i ?hc ?_; case hc => first | exact (show planOK _ _ _ = true from by kernel_rfl) | assumption | omega | (unfold fits; omega) | decide +kernel | (constructor <;> first | assumption | omega) | (simp only [off_addO, ty3, ty4, ty5, ty9, ty24, ty35, ty41, ty42, ty50, ty67, ty69, ty70, ty71, ty72, ty77, ty78, ty79, ty94, ty97, ty108, off, offE] <;> omega) | (simp only [List.length_append, List.length_take, List.length_drop, List.length_nil, List.length_cons, List.length_replicate, List.length_set, off_addO, off, offE] <;> omega) | (simp only [off_addO, ty3, ty4, ty5, ty9, ty24, ty35, ty41, ty42, ty50, ty67, ty69, ty70, ty71, ty72, ty77, ty78, ty79, ty94, ty97, ty108, List.length_append, List.length_take, List.length_drop, List.length_nil, List.length_cons, List.length_replicate, List.length_set, off, offE] <;> omega) | (constructor <;> first | assumption | (simp only [off_addO, ty3, ty4, ty5, ty9, ty24, ty35, ty41, ty42, ty50, ty67, ty69, ty70, ty71, ty72, ty77, ty78, ty79, ty94, ty97, ty108, List.length_append, List.length_take, List.length_drop, List.length_nil, List.length_cons, List.length_replicate, List.length_set, off, offE] <;> omega))) | (refine cond_t ?hc ?_; case hc => first | rfl | assumption | (rw [decide_eq_true_eq]; omega) | (rw [decide_eq_false_iff_not]; omega) | (simp <;> omega)) | (refine cond_f ?hc ?_; case hc => first | rfl | assumption | (rw [decide_eq_true_eq]; omega) | (rw [decide_eq_false_iff_not]; omega) | (simp <;> omega)) | refine same_i ?_)
      conv => whnf
      refine ⟨⟨s.j + 1, (s.c + bi.toNat) / 256, s.B.set (31 - s.j) (UInt8.ofInt (ibits .and ((s.c : Int) + (bi.toNat : Int)) 255)), hj32, by omega, by rw [List.length_set]; exact hB, hstep⟩, [0], ?_, ?_⟩
      · show 32 - (s.j + 1) < 32 - s.j
        omega
      · conv => whnf
        refine same_q (by rw [hoff, hset]; rfl) ?_
        repeat ((conv => whnf); first | (refine pre_i ?hc ?_; case hc => first | exact (show planOK _ _ _ = true from by kernel_rfl) | assumption | omega | (unfold fits; omega) | decide +kernel | (constructor <;> first | assumption | omega) | (simp only [off_addO, ty3, ty4, ty5, ty9, ty24, ty35, ty41, ty42, ty50, ty67, ty69, ty70, ty71, ty72, ty77, ty78, ty79, ty94, ty97, ty108, off, offE] <;> omega) | (simp only [List.length_append, List.length_take, List.length_drop, List.length_nil, List.length_cons, List.length_replicate, List.length_set, off_addO, off, offE] <;> omega) | (simp only [off_addO, ty3, ty4, ty5, ty9, ty24, ty35, ty41, ty42, ty50, ty67, ty69, ty70, ty71, ty72, ty77, ty78, ty79, ty94, ty97, ty108, List.length_append, List.length_take, List.length_drop, List.length_nil, List.length_cons, List.length_replicate, List.length_set, off, offE] <;> omega) | (constructor <;> first | assumption | (simp only [off_addO, ty3, ty4, ty5, ty9, ty24, ty35, ty41, ty42, ty50, ty67, ty69, ty70, ty71, ty72, ty77, ty78, ty79, ty94, ty97, ty108, List.length_append, List.length_take, List.length_drop, List.length_nil, List.length_cons, List.length_replicate, List.length_set, off, offE] <;> omega))) | (refine cond_t ?hc ?_; case hc => first | rfl | assumption | (rw [decide_eq_true_eq]; omega) | (rw [decide_eq_false_iff_not]; omega) | (simp <;> omega)) | (refine cond_f ?hc ?_; case hc => first | rfl | assumption | (rw [decide_eq_true_eq]; omega) | (rw [decide_eq_false_iff_not]; omega) | (simp <;> omega)) | refine same_i ?_)
        conv => whnf
        refine same_q (congrArg SV.int (by show (31 - (s.j : Int) - 1) = 31 - ((s.j + 1 : Nat) : Int); omega)) ?_
        exact trivial
    · have hdone := ends_done s hTr (by omega)
      have hm1 : md W ≤ beV s.B := by omega
      have hBs : List.take 32 (List.drop (off []) (s.B ++ tail)) = s.B := by
        show List.take 32 (s.B ++ tail) = s.B
        rw [List.take_append_of_le_length (by omega), List.take_of_length_le (by omega)]
      have d5 : decide (okN W s.B (beB 32 (Int.toNat 0))) = false := decide_eq_false (fun hh => by unfold okN at hh; omega)
      have d6 : decide (okN W (beB 32 (Int.toNat 0)) s.B) = false := decide_eq_false (fun hh => by unfold okN at hh; omega)
      have d7 : ∀ l : List UInt8, l.length ≠ 32 → decide (okN W l (beB 32 (Int.toNat 0))) = false := fun l hl => decide_eq_false (fun hh => by unfold okN at hh; exact hl hh.2.1)
      have d8 : decide (okN (-1 - ibits .and by' 7) (beB 32 (Int.toNat 0)) (beB 32 (Int.toNat 0))) = false := decide_eq_false (fun hh => by unfold okN at hh; omega)
      by_cases hj32 : s.j < 32
      all_goals
        repeat ((conv => whnf); first | (refine pre_i ?hc ?_; case hc => first | exact (show planOK _ _ _ = true from by kernel_rfl) | assumption | omega | (unfold fits; omega) | decide +kernel | (constructor <;> first | assumption | omega) | (simp only [off_addO, ty3, ty4, ty5, ty9, ty24, ty35, ty41, ty42, ty50, ty67, ty69, ty70, ty71, ty72, ty77, ty78, ty79, ty94, ty97, ty108, off, offE] <;> omega) | (simp only [List.length_append, List.length_take, List.length_drop, List.length_nil, List.length_cons, List.length_replicate, List.length_set, off_addO, off, offE] <;> omega) | (simp only [off_addO, ty3, ty4, ty5, ty9, ty24, ty35, ty41, ty42, ty50, ty67, ty69, ty70, ty71, ty72, ty77, ty78, ty79, ty94, ty97, ty108, List.length_append, List.length_take, List.length_drop, List.length_nil, List.length_cons, List.length_replicate, List.length_set, off, offE] <;> omega) | (constructor <;> first | assumption | (simp only [off_addO, ty3, ty4, ty5, ty9, ty24, ty35, ty41, ty42, ty50, ty67, ty69, ty70, ty71, ty72, ty77, ty78, ty79, ty94, ty97, ty108, List.length_append, List.length_take, List.length_drop, List.length_nil, List.length_cons, List.length_replicate, List.length_set, off, offE] <;> omega))) | (refine cond_t ?hc ?_; case hc => first | rfl | assumption | (rw [decide_eq_true_eq]; omega) | (rw [decide_eq_false_iff_not]; omega) | (simp <;> omega)) | (refine cond_f ?hc ?_; case hc => first | rfl | assumption | (rw [decide_eq_true_eq]; omega) | (rw [decide_eq_false_iff_not]; omega) | (simp <;> omega)) | refine same_i ?_)
        conv => whnf
        rw [hBs]
        repeat ((conv => whnf); first | (refine pre_i ?hc ?_; case hc => first | exact (show planOK _ _ _ = true from by kernel_rfl) | assumption | omega | (unfold fits; omega) | decide +kernel | (constructor <;> first | assumption | omega) | (simp only [off_addO, ty3, ty4, ty5, ty9, ty24, ty35, ty41, ty42, ty50, ty67, ty69, ty70, ty71, ty72, ty77, ty78, ty79, ty94, ty97, ty108, off, offE] <;> omega) | (simp only [List.length_append, List.length_take, List.length_drop, List.length_nil, List.length_cons, List.length_replicate, List.length_set, off_addO, off, offE] <;> omega) | (simp only [off_addO, ty3, ty4, ty5, ty9, ty24, ty35, ty41, ty42, ty50, ty67, ty69, ty70, ty71, ty72, ty77, ty78, ty79, ty94, ty97, ty108, List.length_append, List.length_take, List.length_drop, List.length_nil, List.length_cons, List.length_replicate, List.length_set, off, offE] <;> omega) | (constructor <;> first | assumption | (simp only [off_addO, ty3, ty4, ty5, ty9, ty24, ty35, ty41, ty42, ty50, ty67, ty69, ty70, ty71, ty72, ty77, ty78, ty79, ty94, ty97, ty108, List.length_append, List.length_take, List.length_drop, List.length_nil, List.length_cons, List.length_replicate, List.length_set, off, offE] <;> omega))) | (refine cond_t ?hc ?_; case hc => first | rfl | assumption | (rw [decide_eq_true_eq]; omega) | (rw [decide_eq_false_iff_not]; omega) | (simp <;> omega)) | (refine cond_f ?hc ?_; case hc => first | rfl | assumption | (rw [decide_eq_true_eq]; omega) | (rw [decide_eq_false_iff_not]; omega) | (simp <;> omega)) | refine same_i ?_)
        conv => whnf
        rw [hBs]
        repeat ((conv => whnf); first | (refine pre_i ?hc ?_; case hc => first | exact (show planOK _ _ _ = true from by kernel_rfl) | assumption | omega | (unfold fits; omega) | decide +kernel | (constructor <;> first | assumption | omega) | (simp only [off_addO, ty3, ty4, ty5, ty9, ty24, ty35, ty41, ty42, ty50, ty67, ty69, ty70, ty71, ty72, ty77, ty78, ty79, ty94, ty97, ty108, off, offE] <;> omega) | (simp only [List.length_append, List.length_take, List.length_drop, List.length_nil, List.length_cons, List.length_replicate, List.length_set, off_addO, off, offE] <;> omega) | (simp only [off_addO, ty3, ty4, ty5, ty9, ty24, ty35, ty41, ty42, ty50, ty67, ty69, ty70, ty71, ty72, ty77, ty78, ty79, ty94, ty97, ty108, List.length_append, List.length_take, List.length_drop, List.length_nil, List.length_cons, List.length_replicate, List.length_set, off, offE] <;> omega) | (constructor <;> first | assumption | (simp only [off_addO, ty3, ty4, ty5, ty9, ty24, ty35, ty41, ty42, ty50, ty67, ty69, ty70, ty71, ty72, ty77, ty78, ty79, ty94, ty97, ty108, List.length_append, List.length_take, List.length_drop, List.length_nil, List.length_cons, List.length_replicate, List.length_set, off, offE] <;> omega))) | (refine cond_t ?hc ?_; case hc => first | rfl | assumption | (rw [decide_eq_true_eq]; omega) | (rw [decide_eq_false_iff_not]; omega) | (simp <;> omega)) | (refine cond_f ?hc ?_; case hc => first | rfl | assumption | (rw [decide_eq_true_eq]; omega) | (rw [decide_eq_false_iff_not]; omega) | (simp <;> omega)) | refine same_i ?_)
        conv => whnf
        refine cond_f (d7 _ (by simp only [List.length_take, List.length_drop, List.length_replicate]; omega)) ?_
        repeat ((conv => whnf); first | (refine pre_i ?hc ?_; case hc => first | exact (show planOK _ _ _ = true from by kernel_rfl) | assumption | omega | (unfold fits; omega) | decide +kernel | (constructor <;> first | assumption | omega) | (simp only [off_addO, ty3, ty4, ty5, ty9, ty24, ty35, ty41, ty42, ty50, ty67, ty69, ty70, ty71, ty72, ty77, ty78, ty79, ty94, ty97, ty108, off, offE] <;> omega) | (simp only [List.length_append, List.length_take, List.length_drop, List.length_nil, List.length_cons, List.length_replicate, List.length_set, off_addO, off, offE] <;> omega) | (simp only [off_addO, ty3, ty4, ty5, ty9, ty24, ty35, ty41, ty42, ty50, ty67, ty69, ty70, ty71, ty72, ty77, ty78, ty79, ty94, ty97, ty108, List.length_append, List.length_take, List.length_drop, List.length_nil, List.length_cons, List.length_replicate, List.length_set, off, offE] <;> omega) | (constructor <;> first | assumption | (simp only [off_addO, ty3, ty4, ty5, ty9, ty24, ty35, ty41, ty42, ty50, ty67, ty69, ty70, ty71, ty72, ty77, ty78, ty79, ty94, ty97, ty108, List.length_append, List.length_take, List.length_drop, List.length_nil, List.length_cons, List.length_replicate, List.length_set, off, offE] <;> omega))) | (refine cond_t ?hc ?_; case hc => first | rfl | assumption | (rw [decide_eq_true_eq]; omega) | (rw [decide_eq_false_iff_not]; omega) | (simp <;> omega)) | (refine cond_f ?hc ?_; case hc => first | rfl | assumption | (rw [decide_eq_true_eq]; omega) | (rw [decide_eq_false_iff_not]; omega) | (simp <;> omega)) | refine same_i ?_)
        conv => whnf
        refine final_h (hp' := []) [] rfl ?_
        repeat ((conv => whnf); first | (refine pre_i ?hc ?_; case hc => first | exact (show planOK _ _ _ = true from by kernel_rfl) | assumption | omega | (unfold fits; omega) | decide +kernel | (constructor <;> first | assumption | omega) | (simp only [off_addO, ty3, ty4, ty5, ty9, ty24, ty35, ty41, ty42, ty50, ty67, ty69, ty70, ty71, ty72, ty77, ty78, ty79, ty94, ty97, ty108, off, offE] <;> omega) | (simp only [List.length_append, List.length_take, List.length_drop, List.length_nil, List.length_cons, List.length_replicate, List.length_set, off_addO, off, offE] <;> omega) | (simp only [off_addO, ty3, ty4, ty5, ty9, ty24, ty35, ty41, ty42, ty50, ty67, ty69, ty70, ty71, ty72, ty77, ty78, ty79, ty94, ty97, ty108, List.length_append, List.length_take, List.length_drop, List.length_nil, List.length_cons, List.length_replicate, List.length_set, off, offE] <;> omega) | (constructor <;> first | assumption | (simp only [off_addO, ty3, ty4, ty5, ty9, ty24, ty35, ty41, ty42, ty50, ty67, ty69, ty70, ty71, ty72, ty77, ty78, ty79, ty94, ty97, ty108, List.length_append, List.length_take, List.length_drop, List.length_nil, List.length_cons, List.length_replicate, List.length_set, off, offE] <;> omega))) | (refine cond_t ?hc ?_; case hc => first | rfl | assumption | (rw [decide_eq_true_eq]; omega) | (rw [decide_eq_false_iff_not]; omega) | (simp <;> omega)) | (refine cond_f ?hc ?_; case hc => first | rfl | assumption | (rw [decide_eq_true_eq]; omega) | (rw [decide_eq_false_iff_not]; omega) | (simp <;> omega)) | refine same_i ?_)
        exact trivial
end
theorem numEnds_end (w : World) (z : Int) (_ : -9223372036854775808 ≤ z ∧ z ≤ 9223372036854775807) (y : Int) (_ : -9223372036854775808 ≤ y ∧ y ≤ 9223372036854775807) (x : Int) (_ : -9223372036854775808 ≤ x ∧ x ≤ 9223372036854775807) :
    fnVC (lawG f8.ntmps tys lawFn w []) pl8 (codeOf f8) f8.results.toList [.int z, .int y, .int x] [] (fun r _ => r = .bool true) := numEnds_vc w z y x
end Go.Sym.N
