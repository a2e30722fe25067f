/-
  Contracts of functions of the program, each said of symbolic values; no condition beyond each statement's own.
-/
import Derived.Test.YtofhjelmgekofaaN0
import Derived.Test.YtofhjelmgekofaaNumPlain
set_option linter.unusedSimpArgs false
set_option linter.unusedVariables false
namespace Go.Sym.N
open Go Go.Proofs.Try Go.Sym.Num
set_option maxRecDepth 100000

theorem same_q {v u : SV} {p : Prop} (e : v = u) (h : p) : Same v u p := by subst e; exact same_i h

def add64S : Spec := fun args hp K => match args, hp with
  | [.u64 x, .u64 y, .u64 c], [] => Pre (c.toNat ≤ 1) (K (.tup [.u64 (addL x y c), .u64 (addC x y c)]) [])
  | _, _ => False
def sub64S : Spec := fun args hp K => match args, hp with
  | [.u64 x, .u64 y, .u64 c], [] => Pre (c.toNat ≤ 1) (K (.tup [.u64 (subL x y c), .u64 (subB x y c)]) [])
  | _, _ => False
def mul64S : Spec := fun args hp K => match args, hp with
  | [.u64 x, .u64 y], [] => K (.tup [.u64 (mulH x y), .u64 (mulL x y)]) []
  | _, _ => False

theorem ext_s {f : FuncId} {args : List SV} {hp : List Blk} {K : SV → List Blk → Prop} {r : SV} {ρ : Nat → Nat} {w : World} (hr : HpRel ρ hp w) (hk : K r hp) (hok : r.ok (· < hp.length))
    (h : (callFunc f (denL ρ args).toArray).run prog w = .ok (.value (r.den ρ)) w) : CallOut prog f (denL ρ args).toArray ρ hp w K :=
  .inl ⟨r, ρ, hp, w, h, hk, hok, Step.refl hr⟩

theorem func77 : prog.funcs[77]? = some f77 := by kernel_rfl
theorem func86 : prog.funcs[86]? = some f86 := by kernel_rfl
theorem add64_s : SoundC prog 77 add64S := by
  intro args hp K h ρ w hr hargs
  unfold add64S at h
  split at h
  · rename_i x y c
    obtain ⟨h0, h⟩ := pre_e h
    refine ext_s hr h ⟨trivial, trivial, trivial⟩ ?_
    have := run_add64 (P := prog) (x.toNat : Int) (y.toNat : Int) (c.toNat : Int) (by omega) (by omega) (by omega) (by omega) w
    simp only [denL, SV.den]
    rw [run_callFunc_extern func77 (by kernel_rfl) (by kernel_rfl) (by kernel_rfl) (e := add64Entry) (by kernel_rfl), this]
    simp only [Result.andThen, addL_nat, addC_nat h0]
  · exact h.elim
theorem sub64_s : SoundC prog 86 sub64S := by
  intro args hp K h ρ w hr hargs
  unfold sub64S at h
  split at h
  · rename_i x y c
    obtain ⟨h0, h⟩ := pre_e h
    refine ext_s hr h ⟨trivial, trivial, trivial⟩ ?_
    have := Go.Proofs.run_sub64 (P := prog) x.toNat y.toNat c.toNat h0 w
    simp only [denL, SV.den]
    rw [run_callFunc_extern func86 (by kernel_rfl) (by kernel_rfl) (by kernel_rfl) (e := Go.Proofs.sub64Entry) (by kernel_rfl), this]
    simp only [Result.andThen, subL_nat h0, subB_nat]
  · exact h.elim

theorem mul64_s : SoundC prog 76 mul64S := by
  refine sound_f tys_ok fnok_nil rfl func76 rfl call76 (D := []) ?_ ?_
  · intro args hp K h
    unfold mul64S at h
    split at h
    · exact Nat.le_of_ble_eq_true rfl
    · exact h.elim
  · intro args hp K h
    unfold mul64S at h
    split at h
    · rename_i x y
      repeat ((conv => whnf); first | (refine pre_i ?hc ?_; case hc => first | exact (show planOK _ _ _ = true from by kernel_rfl) | assumption | omega | (unfold fits; omega) | decide +kernel | (constructor <;> first | assumption | omega) | (simp only [off_addO, ty3, ty4, ty5, ty9, ty24, ty35, ty41, ty42, ty50, ty67, ty69, ty70, ty71, ty72, ty77, ty78, ty79, ty94, ty97, ty108, off, offE] <;> omega) | (simp only [List.length_append, List.length_take, List.length_drop, List.length_nil, List.length_cons, List.length_replicate, List.length_set, off_addO, off, offE] <;> omega) | (simp only [off_addO, ty3, ty4, ty5, ty9, ty24, ty35, ty41, ty42, ty50, ty67, ty69, ty70, ty71, ty72, ty77, ty78, ty79, ty94, ty97, ty108, List.length_append, List.length_take, List.length_drop, List.length_nil, List.length_cons, List.length_replicate, List.length_set, off, offE] <;> omega) | (constructor <;> first | assumption | (simp only [off_addO, ty3, ty4, ty5, ty9, ty24, ty35, ty41, ty42, ty50, ty67, ty69, ty70, ty71, ty72, ty77, ty78, ty79, ty94, ty97, ty108, List.length_append, List.length_take, List.length_drop, List.length_nil, List.length_cons, List.length_replicate, List.length_set, off, offE] <;> omega))) | (refine cond_t ?hc ?_; case hc => first | rfl | assumption | (rw [decide_eq_true_eq]; omega) | (rw [decide_eq_false_iff_not]; omega) | (simp <;> omega)) | (refine cond_f ?hc ?_; case hc => first | rfl | assumption | (rw [decide_eq_true_eq]; omega) | (rw [decide_eq_false_iff_not]; omega) | (simp <;> omega)) | refine same_i ?_)
      conv => whnf
      refine final_h (hp' := []) [] h ?_
      conv => whnf
      refine same_q (by rw [mulH_eq, mulL_eq]; rfl) ?_
      exact trivial
    · exact h.elim

/-- the orders of the drawn regions of num.add -/
def pl72 : List (Nat × List PStep) := [(6, [⟨0, []⟩, ⟨1, [0]⟩, ⟨2, [0]⟩, ⟨3, [0]⟩, ⟨4, [0, 1, 2, 3]⟩, ⟨5, [0, 1, 2, 3]⟩, ⟨6, [0, 1, 2, 3]⟩, ⟨7, [0, 1, 2, 3, 4, 5, 6]⟩, ⟨8, [0]⟩, ⟨9, [0]⟩, ⟨10, [0]⟩, ⟨11, [0, 10]⟩, ⟨12, [11]⟩, ⟨13, [11]⟩, ⟨14, []⟩])]
/-- the orders of the drawn regions of num.sub -/
def pl73 : List (Nat × List PStep) := [(6, [⟨0, []⟩, ⟨1, [0]⟩, ⟨2, [0]⟩, ⟨3, [0]⟩, ⟨4, [0, 1, 2, 3]⟩, ⟨5, [0, 1, 2, 3]⟩, ⟨6, [0, 1, 2, 3]⟩, ⟨7, [0, 1, 2, 3, 4, 5, 6]⟩, ⟨8, [0]⟩, ⟨9, [0]⟩, ⟨10, [0]⟩, ⟨11, [0, 10]⟩, ⟨12, [11]⟩, ⟨13, [11]⟩, ⟨14, []⟩])]

def addS : Spec := fun args hp K => match args, hp with
  | [.arr64 4 x, .arr64 4 y], [] => Pre (x.length = 4 ∧ y.length = 4) (K (.tup [.arr64 4 (addSt x y 4).1, .u64 (addSt x y 4).2]) [])
  | _, _ => False
structure Ix (n : Nat) where
  i : Nat
  hi : i ≤ n
theorem add_s : SoundC prog 72 addS := by
  refine sound_f tys_ok (fnok_cons add64_s fnok_nil) rfl func72 rfl call72 (D := pl72) ?_ ?_
  · intro args hp K h
    unfold addS at h
    split at h
    · exact Nat.le_of_ble_eq_true rfl
    · exact h.elim
  · intro args hp K h
    unfold addS at h
    split at h
    · rename_i x y
      obtain ⟨⟨hx, hy⟩, h⟩ := pre_e h
      repeat ((conv => whnf); first | (refine pre_i ?hc ?_; case hc => first | exact (show planOK _ _ _ = true from by kernel_rfl) | assumption | omega | (unfold fits; omega) | decide +kernel | (constructor <;> first | assumption | omega) | (simp only [off_addO, ty3, ty4, ty5, ty9, ty24, ty35, ty41, ty42, ty50, ty67, ty69, ty70, ty71, ty72, ty77, ty78, ty79, ty94, ty97, ty108, off, offE] <;> omega) | (simp only [List.length_append, List.length_take, List.length_drop, List.length_nil, List.length_cons, List.length_replicate, List.length_set, off_addO, off, offE] <;> omega) | (simp only [off_addO, ty3, ty4, ty5, ty9, ty24, ty35, ty41, ty42, ty50, ty67, ty69, ty70, ty71, ty72, ty77, ty78, ty79, ty94, ty97, ty108, List.length_append, List.length_take, List.length_drop, List.length_nil, List.length_cons, List.length_replicate, List.length_set, off, offE] <;> omega) | (constructor <;> first | assumption | (simp only [off_addO, ty3, ty4, ty5, ty9, ty24, ty35, ty41, ty42, ty50, ty67, ty69, ty70, ty71, ty72, ty77, ty78, ty79, ty94, ty97, ty108, List.length_append, List.length_take, List.length_drop, List.length_nil, List.length_cons, List.length_replicate, List.length_set, off, offE] <;> omega))) | (refine cond_t ?hc ?_; case hc => first | rfl | assumption | (rw [decide_eq_true_eq]; omega) | (rw [decide_eq_false_iff_not]; omega) | (simp <;> omega)) | (refine cond_f ?hc ?_; case hc => first | rfl | assumption | (rw [decide_eq_true_eq]; omega) | (rw [decide_eq_false_iff_not]; omega) | (simp <;> omega)) | refine same_i ?_)
      conv => whnf
      refine loop_h (Ix 4) (fun s => ⟨[(2, .ptr 0 0 0 []), (3, .ptr 1 0 0 []), (4, .ptr 2 0 0 []), (6, .ptr 3 0 0 []), (7, .u64 (addSt x y s.i).2), (9, .int s.i)], [.mk 79 [.arr64 4 x], .mk 79 [.arr64 4 y], .mk 79 [.arr64 4 [0, 0, 0, 0]], .mk 79 [.arr64 4 (addSt x y s.i).1]]⟩)
        (fun s => 4 - s.i) ⟨0, Nat.zero_le _⟩ [0, 1, 2, 3] ?_ ?_
      · repeat ((conv => whnf); first | (refine pre_i ?hc ?_; case hc => first | exact (show planOK _ _ _ = true from by kernel_rfl) | assumption | omega | (unfold fits; omega) | decide +kernel | (constructor <;> first | assumption | omega) | (simp only [off_addO, ty3, ty4, ty5, ty9, ty24, ty35, ty41, ty42, ty50, ty67, ty69, ty70, ty71, ty72, ty77, ty78, ty79, ty94, ty97, ty108, off, offE] <;> omega) | (simp only [List.length_append, List.length_take, List.length_drop, List.length_nil, List.length_cons, List.length_replicate, List.length_set, off_addO, off, offE] <;> omega) | (simp only [off_addO, ty3, ty4, ty5, ty9, ty24, ty35, ty41, ty42, ty50, ty67, ty69, ty70, ty71, ty72, ty77, ty78, ty79, ty94, ty97, ty108, List.length_append, List.length_take, List.length_drop, List.length_nil, List.length_cons, List.length_replicate, List.length_set, off, offE] <;> omega) | (constructor <;> first | assumption | (simp only [off_addO, ty3, ty4, ty5, ty9, ty24, ty35, ty41, ty42, ty50, ty67, ty69, ty70, ty71, ty72, ty77, ty78, ty79, ty94, ty97, ty108, List.length_append, List.length_take, List.length_drop, List.length_nil, List.length_cons, List.length_replicate, List.length_set, off, offE] <;> omega))) | (refine cond_t ?hc ?_; case hc => first | rfl | assumption | (rw [decide_eq_true_eq]; omega) | (rw [decide_eq_false_iff_not]; omega) | (simp <;> omega)) | (refine cond_f ?hc ?_; case hc => first | rfl | assumption | (rw [decide_eq_true_eq]; omega) | (rw [decide_eq_false_iff_not]; omega) | (simp <;> omega)) | refine same_i ?_)
        exact trivial
      · intro s
        have hi := s.hi
        have hc := addSt_c x y s.i
        have hl := addSt_len x y s.i
        by_cases h4 : s.i < 4
        · repeat ((conv => whnf); first | (refine pre_i ?hc ?_; case hc => first | exact (show planOK _ _ _ = true from by kernel_rfl) | assumption | omega | (unfold fits; omega) | decide +kernel | (constructor <;> first | assumption | omega) | (simp only [off_addO, ty3, ty4, ty5, ty9, ty24, ty35, ty41, ty42, ty50, ty67, ty69, ty70, ty71, ty72, ty77, ty78, ty79, ty94, ty97, ty108, off, offE] <;> omega) | (simp only [List.length_append, List.length_take, List.length_drop, List.length_nil, List.length_cons, List.length_replicate, List.length_set, off_addO, off, offE] <;> omega) | (simp only [off_addO, ty3, ty4, ty5, ty9, ty24, ty35, ty41, ty42, ty50, ty67, ty69, ty70, ty71, ty72, ty77, ty78, ty79, ty94, ty97, ty108, List.length_append, List.length_take, List.length_drop, List.length_nil, List.length_cons, List.length_replicate, List.length_set, off, offE] <;> omega) | (constructor <;> first | assumption | (simp only [off_addO, ty3, ty4, ty5, ty9, ty24, ty35, ty41, ty42, ty50, ty67, ty69, ty70, ty71, ty72, ty77, ty78, ty79, ty94, ty97, ty108, List.length_append, List.length_take, List.length_drop, List.length_nil, List.length_cons, List.length_replicate, List.length_set, off, offE] <;> omega))) | (refine cond_t ?hc ?_; case hc => first | rfl | assumption | (rw [decide_eq_true_eq]; omega) | (rw [decide_eq_false_iff_not]; omega) | (simp <;> omega)) | (refine cond_f ?hc ?_; case hc => first | rfl | assumption | (rw [decide_eq_true_eq]; omega) | (rw [decide_eq_false_iff_not]; omega) | (simp <;> omega)) | refine same_i ?_)
          conv => whnf
          refine ⟨⟨s.i + 1, h4⟩, [0, 1, 2, 3], ?_, ?_⟩
          · show 4 - (s.i + 1) < 4 - s.i
            omega
          · repeat ((conv => whnf); first | (refine pre_i ?hc ?_; case hc => first | exact (show planOK _ _ _ = true from by kernel_rfl) | assumption | omega | (unfold fits; omega) | decide +kernel | (constructor <;> first | assumption | omega) | (simp only [off_addO, ty3, ty4, ty5, ty9, ty24, ty35, ty41, ty42, ty50, ty67, ty69, ty70, ty71, ty72, ty77, ty78, ty79, ty94, ty97, ty108, off, offE] <;> omega) | (simp only [List.length_append, List.length_take, List.length_drop, List.length_nil, List.length_cons, List.length_replicate, List.length_set, off_addO, off, offE] <;> omega) | (simp only [off_addO, ty3, ty4, ty5, ty9, ty24, ty35, ty41, ty42, ty50, ty67, ty69, ty70, ty71, ty72, ty77, ty78, ty79, ty94, ty97, ty108, List.length_append, List.length_take, List.length_drop, List.length_nil, List.length_cons, List.length_replicate, List.length_set, off, offE] <;> omega) | (constructor <;> first | assumption | (simp only [off_addO, ty3, ty4, ty5, ty9, ty24, ty35, ty41, ty42, ty50, ty67, ty69, ty70, ty71, ty72, ty77, ty78, ty79, ty94, ty97, ty108, List.length_append, List.length_take, List.length_drop, List.length_nil, List.length_cons, List.length_replicate, List.length_set, off, offE] <;> omega))) | (refine cond_t ?hc ?_; case hc => first | rfl | assumption | (rw [decide_eq_true_eq]; omega) | (rw [decide_eq_false_iff_not]; omega) | (simp <;> omega)) | (refine cond_f ?hc ?_; case hc => first | rfl | assumption | (rw [decide_eq_true_eq]; omega) | (rw [decide_eq_false_iff_not]; omega) | (simp <;> omega)) | refine same_i ?_)
            exact trivial
        · have e4 : s.i = 4 := by omega
          repeat ((conv => whnf); first | (refine pre_i ?hc ?_; case hc => first | exact (show planOK _ _ _ = true from by kernel_rfl) | assumption | omega | (unfold fits; omega) | decide +kernel | (constructor <;> first | assumption | omega) | (simp only [off_addO, ty3, ty4, ty5, ty9, ty24, ty35, ty41, ty42, ty50, ty67, ty69, ty70, ty71, ty72, ty77, ty78, ty79, ty94, ty97, ty108, off, offE] <;> omega) | (simp only [List.length_append, List.length_take, List.length_drop, List.length_nil, List.length_cons, List.length_replicate, List.length_set, off_addO, off, offE] <;> omega) | (simp only [off_addO, ty3, ty4, ty5, ty9, ty24, ty35, ty41, ty42, ty50, ty67, ty69, ty70, ty71, ty72, ty77, ty78, ty79, ty94, ty97, ty108, List.length_append, List.length_take, List.length_drop, List.length_nil, List.length_cons, List.length_replicate, List.length_set, off, offE] <;> omega) | (constructor <;> first | assumption | (simp only [off_addO, ty3, ty4, ty5, ty9, ty24, ty35, ty41, ty42, ty50, ty67, ty69, ty70, ty71, ty72, ty77, ty78, ty79, ty94, ty97, ty108, List.length_append, List.length_take, List.length_drop, List.length_nil, List.length_cons, List.length_replicate, List.length_set, off, offE] <;> omega))) | (refine cond_t ?hc ?_; case hc => first | rfl | assumption | (rw [decide_eq_true_eq]; omega) | (rw [decide_eq_false_iff_not]; omega) | (simp <;> omega)) | (refine cond_f ?hc ?_; case hc => first | rfl | assumption | (rw [decide_eq_true_eq]; omega) | (rw [decide_eq_false_iff_not]; omega) | (simp <;> omega)) | refine same_i ?_)
          conv => whnf
          rw [e4]
          refine final_h (hp' := []) [] h ?_
          repeat ((conv => whnf); first | (refine pre_i ?hc ?_; case hc => first | exact (show planOK _ _ _ = true from by kernel_rfl) | assumption | omega | (unfold fits; omega) | decide +kernel | (constructor <;> first | assumption | omega) | (simp only [off_addO, ty3, ty4, ty5, ty9, ty24, ty35, ty41, ty42, ty50, ty67, ty69, ty70, ty71, ty72, ty77, ty78, ty79, ty94, ty97, ty108, off, offE] <;> omega) | (simp only [List.length_append, List.length_take, List.length_drop, List.length_nil, List.length_cons, List.length_replicate, List.length_set, off_addO, off, offE] <;> omega) | (simp only [off_addO, ty3, ty4, ty5, ty9, ty24, ty35, ty41, ty42, ty50, ty67, ty69, ty70, ty71, ty72, ty77, ty78, ty79, ty94, ty97, ty108, List.length_append, List.length_take, List.length_drop, List.length_nil, List.length_cons, List.length_replicate, List.length_set, off, offE] <;> omega) | (constructor <;> first | assumption | (simp only [off_addO, ty3, ty4, ty5, ty9, ty24, ty35, ty41, ty42, ty50, ty67, ty69, ty70, ty71, ty72, ty77, ty78, ty79, ty94, ty97, ty108, List.length_append, List.length_take, List.length_drop, List.length_nil, List.length_cons, List.length_replicate, List.length_set, off, offE] <;> omega))) | (refine cond_t ?hc ?_; case hc => first | rfl | assumption | (rw [decide_eq_true_eq]; omega) | (rw [decide_eq_false_iff_not]; omega) | (simp <;> omega)) | (refine cond_f ?hc ?_; case hc => first | rfl | assumption | (rw [decide_eq_true_eq]; omega) | (rw [decide_eq_false_iff_not]; omega) | (simp <;> omega)) | refine same_i ?_)
          exact trivial
    · exact h.elim
def subS : Spec := fun args hp K => match args, hp with
  | [.arr64 4 x, .arr64 4 y], [] => Pre (x.length = 4 ∧ y.length = 4) (K (.tup [.arr64 4 (subSt x y 4).1, .u64 (subSt x y 4).2]) [])
  | _, _ => False
theorem sub_s : SoundC prog 73 subS := by
  refine sound_f tys_ok (fnok_cons sub64_s fnok_nil) rfl func73 rfl call73 (D := pl73) ?_ ?_
  · intro args hp K h
    unfold subS at h
    split at h
    · exact Nat.le_of_ble_eq_true rfl
    · exact h.elim
  · intro args hp K h
    unfold subS at h
    split at h
    · rename_i x y
      obtain ⟨⟨hx, hy⟩, h⟩ := pre_e h
      repeat ((conv => whnf); first | (refine pre_i ?hc ?_; case hc => first | exact (show planOK _ _ _ = true from by kernel_rfl) | assumption | omega | (unfold fits; omega) | decide +kernel | (constructor <;> first | assumption | omega) | (simp only [off_addO, ty3, ty4, ty5, ty9, ty24, ty35, ty41, ty42, ty50, ty67, ty69, ty70, ty71, ty72, ty77, ty78, ty79, ty94, ty97, ty108, off, offE] <;> omega) | (simp only [List.length_append, List.length_take, List.length_drop, List.length_nil, List.length_cons, List.length_replicate, List.length_set, off_addO, off, offE] <;> omega) | (simp only [off_addO, ty3, ty4, ty5, ty9, ty24, ty35, ty41, ty42, ty50, ty67, ty69, ty70, ty71, ty72, ty77, ty78, ty79, ty94, ty97, ty108, List.length_append, List.length_take, List.length_drop, List.length_nil, List.length_cons, List.length_replicate, List.length_set, off, offE] <;> omega) | (constructor <;> first | assumption | (simp only [off_addO, ty3, ty4, ty5, ty9, ty24, ty35, ty41, ty42, ty50, ty67, ty69, ty70, ty71, ty72, ty77, ty78, ty79, ty94, ty97, ty108, List.length_append, List.length_take, List.length_drop, List.length_nil, List.length_cons, List.length_replicate, List.length_set, off, offE] <;> omega))) | (refine cond_t ?hc ?_; case hc => first | rfl | assumption | (rw [decide_eq_true_eq]; omega) | (rw [decide_eq_false_iff_not]; omega) | (simp <;> omega)) | (refine cond_f ?hc ?_; case hc => first | rfl | assumption | (rw [decide_eq_true_eq]; omega) | (rw [decide_eq_false_iff_not]; omega) | (simp <;> omega)) | refine same_i ?_)
      conv => whnf
      refine loop_h (Ix 4) (fun s => ⟨[(2, .ptr 0 0 0 []), (3, .ptr 1 0 0 []), (4, .ptr 2 0 0 []), (6, .ptr 3 0 0 []), (7, .u64 (subSt x y s.i).2), (9, .int s.i)], [.mk 79 [.arr64 4 x], .mk 79 [.arr64 4 y], .mk 79 [.arr64 4 [0, 0, 0, 0]], .mk 79 [.arr64 4 (subSt x y s.i).1]]⟩)
        (fun s => 4 - s.i) ⟨0, Nat.zero_le _⟩ [0, 1, 2, 3] ?_ ?_
      · repeat ((conv => whnf); first | (refine pre_i ?hc ?_; case hc => first | exact (show planOK _ _ _ = true from by kernel_rfl) | assumption | omega | (unfold fits; omega) | decide +kernel | (constructor <;> first | assumption | omega) | (simp only [off_addO, ty3, ty4, ty5, ty9, ty24, ty35, ty41, ty42, ty50, ty67, ty69, ty70, ty71, ty72, ty77, ty78, ty79, ty94, ty97, ty108, off, offE] <;> omega) | (simp only [List.length_append, List.length_take, List.length_drop, List.length_nil, List.length_cons, List.length_replicate, List.length_set, off_addO, off, offE] <;> omega) | (simp only [off_addO, ty3, ty4, ty5, ty9, ty24, ty35, ty41, ty42, ty50, ty67, ty69, ty70, ty71, ty72, ty77, ty78, ty79, ty94, ty97, ty108, List.length_append, List.length_take, List.length_drop, List.length_nil, List.length_cons, List.length_replicate, List.length_set, off, offE] <;> omega) | (constructor <;> first | assumption | (simp only [off_addO, ty3, ty4, ty5, ty9, ty24, ty35, ty41, ty42, ty50, ty67, ty69, ty70, ty71, ty72, ty77, ty78, ty79, ty94, ty97, ty108, List.length_append, List.length_take, List.length_drop, List.length_nil, List.length_cons, List.length_replicate, List.length_set, off, offE] <;> omega))) | (refine cond_t ?hc ?_; case hc => first | rfl | assumption | (rw [decide_eq_true_eq]; omega) | (rw [decide_eq_false_iff_not]; omega) | (simp <;> omega)) | (refine cond_f ?hc ?_; case hc => first | rfl | assumption | (rw [decide_eq_true_eq]; omega) | (rw [decide_eq_false_iff_not]; omega) | (simp <;> omega)) | refine same_i ?_)
        exact trivial
      · intro s
        have hi := s.hi
        have hc := subSt_c x y s.i
        have hl := subSt_len x y s.i
        by_cases h4 : s.i < 4
        · repeat ((conv => whnf); first | (refine pre_i ?hc ?_; case hc => first | exact (show planOK _ _ _ = true from by kernel_rfl) | assumption | omega | (unfold fits; omega) | decide +kernel | (constructor <;> first | assumption | omega) | (simp only [off_addO, ty3, ty4, ty5, ty9, ty24, ty35, ty41, ty42, ty50, ty67, ty69, ty70, ty71, ty72, ty77, ty78, ty79, ty94, ty97, ty108, off, offE] <;> omega) | (simp only [List.length_append, List.length_take, List.length_drop, List.length_nil, List.length_cons, List.length_replicate, List.length_set, off_addO, off, offE] <;> omega) | (simp only [off_addO, ty3, ty4, ty5, ty9, ty24, ty35, ty41, ty42, ty50, ty67, ty69, ty70, ty71, ty72, ty77, ty78, ty79, ty94, ty97, ty108, List.length_append, List.length_take, List.length_drop, List.length_nil, List.length_cons, List.length_replicate, List.length_set, off, offE] <;> omega) | (constructor <;> first | assumption | (simp only [off_addO, ty3, ty4, ty5, ty9, ty24, ty35, ty41, ty42, ty50, ty67, ty69, ty70, ty71, ty72, ty77, ty78, ty79, ty94, ty97, ty108, List.length_append, List.length_take, List.length_drop, List.length_nil, List.length_cons, List.length_replicate, List.length_set, off, offE] <;> omega))) | (refine cond_t ?hc ?_; case hc => first | rfl | assumption | (rw [decide_eq_true_eq]; omega) | (rw [decide_eq_false_iff_not]; omega) | (simp <;> omega)) | (refine cond_f ?hc ?_; case hc => first | rfl | assumption | (rw [decide_eq_true_eq]; omega) | (rw [decide_eq_false_iff_not]; omega) | (simp <;> omega)) | refine same_i ?_)
          conv => whnf
          refine ⟨⟨s.i + 1, h4⟩, [0, 1, 2, 3], ?_, ?_⟩
          · show 4 - (s.i + 1) < 4 - s.i
            omega
          · repeat ((conv => whnf); first | (refine pre_i ?hc ?_; case hc => first | exact (show planOK _ _ _ = true from by kernel_rfl) | assumption | omega | (unfold fits; omega) | decide +kernel | (constructor <;> first | assumption | omega) | (simp only [off_addO, ty3, ty4, ty5, ty9, ty24, ty35, ty41, ty42, ty50, ty67, ty69, ty70, ty71, ty72, ty77, ty78, ty79, ty94, ty97, ty108, off, offE] <;> omega) | (simp only [List.length_append, List.length_take, List.length_drop, List.length_nil, List.length_cons, List.length_replicate, List.length_set, off_addO, off, offE] <;> omega) | (simp only [off_addO, ty3, ty4, ty5, ty9, ty24, ty35, ty41, ty42, ty50, ty67, ty69, ty70, ty71, ty72, ty77, ty78, ty79, ty94, ty97, ty108, List.length_append, List.length_take, List.length_drop, List.length_nil, List.length_cons, List.length_replicate, List.length_set, off, offE] <;> omega) | (constructor <;> first | assumption | (simp only [off_addO, ty3, ty4, ty5, ty9, ty24, ty35, ty41, ty42, ty50, ty67, ty69, ty70, ty71, ty72, ty77, ty78, ty79, ty94, ty97, ty108, List.length_append, List.length_take, List.length_drop, List.length_nil, List.length_cons, List.length_replicate, List.length_set, off, offE] <;> omega))) | (refine cond_t ?hc ?_; case hc => first | rfl | assumption | (rw [decide_eq_true_eq]; omega) | (rw [decide_eq_false_iff_not]; omega) | (simp <;> omega)) | (refine cond_f ?hc ?_; case hc => first | rfl | assumption | (rw [decide_eq_true_eq]; omega) | (rw [decide_eq_false_iff_not]; omega) | (simp <;> omega)) | refine same_i ?_)
            exact trivial
        · have e4 : s.i = 4 := by omega
          repeat ((conv => whnf); first | (refine pre_i ?hc ?_; case hc => first | exact (show planOK _ _ _ = true from by kernel_rfl) | assumption | omega | (unfold fits; omega) | decide +kernel | (constructor <;> first | assumption | omega) | (simp only [off_addO, ty3, ty4, ty5, ty9, ty24, ty35, ty41, ty42, ty50, ty67, ty69, ty70, ty71, ty72, ty77, ty78, ty79, ty94, ty97, ty108, off, offE] <;> omega) | (simp only [List.length_append, List.length_take, List.length_drop, List.length_nil, List.length_cons, List.length_replicate, List.length_set, off_addO, off, offE] <;> omega) | (simp only [off_addO, ty3, ty4, ty5, ty9, ty24, ty35, ty41, ty42, ty50, ty67, ty69, ty70, ty71, ty72, ty77, ty78, ty79, ty94, ty97, ty108, List.length_append, List.length_take, List.length_drop, List.length_nil, List.length_cons, List.length_replicate, List.length_set, off, offE] <;> omega) | (constructor <;> first | assumption | (simp only [off_addO, ty3, ty4, ty5, ty9, ty24, ty35, ty41, ty42, ty50, ty67, ty69, ty70, ty71, ty72, ty77, ty78, ty79, ty94, ty97, ty108, List.length_append, List.length_take, List.length_drop, List.length_nil, List.length_cons, List.length_replicate, List.length_set, off, offE] <;> omega))) | (refine cond_t ?hc ?_; case hc => first | rfl | assumption | (rw [decide_eq_true_eq]; omega) | (rw [decide_eq_false_iff_not]; omega) | (simp <;> omega)) | (refine cond_f ?hc ?_; case hc => first | rfl | assumption | (rw [decide_eq_true_eq]; omega) | (rw [decide_eq_false_iff_not]; omega) | (simp <;> omega)) | refine same_i ?_)
          conv => whnf
          rw [e4]
          refine final_h (hp' := []) [] h ?_
          repeat ((conv => whnf); first | (refine pre_i ?hc ?_; case hc => first | exact (show planOK _ _ _ = true from by kernel_rfl) | assumption | omega | (unfold fits; omega) | decide +kernel | (constructor <;> first | assumption | omega) | (simp only [off_addO, ty3, ty4, ty5, ty9, ty24, ty35, ty41, ty42, ty50, ty67, ty69, ty70, ty71, ty72, ty77, ty78, ty79, ty94, ty97, ty108, off, offE] <;> omega) | (simp only [List.length_append, List.length_take, List.length_drop, List.length_nil, List.length_cons, List.length_replicate, List.length_set, off_addO, off, offE] <;> omega) | (simp only [off_addO, ty3, ty4, ty5, ty9, ty24, ty35, ty41, ty42, ty50, ty67, ty69, ty70, ty71, ty72, ty77, ty78, ty79, ty94, ty97, ty108, List.length_append, List.length_take, List.length_drop, List.length_nil, List.length_cons, List.length_replicate, List.length_set, off, offE] <;> omega) | (constructor <;> first | assumption | (simp only [off_addO, ty3, ty4, ty5, ty9, ty24, ty35, ty41, ty42, ty50, ty67, ty69, ty70, ty71, ty72, ty77, ty78, ty79, ty94, ty97, ty108, List.length_append, List.length_take, List.length_drop, List.length_nil, List.length_cons, List.length_replicate, List.length_set, off, offE] <;> omega))) | (refine cond_t ?hc ?_; case hc => first | rfl | assumption | (rw [decide_eq_true_eq]; omega) | (rw [decide_eq_false_iff_not]; omega) | (simp <;> omega)) | (refine cond_f ?hc ?_; case hc => first | rfl | assumption | (rw [decide_eq_true_eq]; omega) | (rw [decide_eq_false_iff_not]; omega) | (simp <;> omega)) | refine same_i ?_)
          exact trivial
    · exact h.elim
end Go.Sym.N
