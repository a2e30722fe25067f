/-
  Contracts of functions of the program, each said of symbolic values; no condition beyond each statement's own.
-/
import Derived.Test.YtofhjelmgekofaaN6
import Derived.Test.YtofhjelmgekofaaNum32b
set_option linter.unusedSimpArgs false
set_option linter.unusedVariables false
namespace Go.Sym.N
open Go Go.Proofs.Try Go.Sym.Num
open Go.Sym.Num32 (plusSt minusSt plusSt_len minusSt_len plusSt_val minusSt_val minus_of)
set_option maxRecDepth 100000
attribute [local irreducible] Num32.lim Num32.val Num32.mlim md beB beV

/-- the orders of the drawn regions of halberdref9.plus -/
def pl74 : List (Nat × List PStep) := [(5, [⟨0, []⟩, ⟨1, []⟩, ⟨2, []⟩, ⟨3, []⟩, ⟨4, [0, 1, 2, 3]⟩, ⟨5, [0, 1, 2, 3]⟩, ⟨6, [0, 1, 2, 3]⟩, ⟨7, [0, 1, 2, 3]⟩, ⟨8, []⟩, ⟨9, [0, 1, 2, 3, 4, 5, 6, 7, 8]⟩, ⟨10, []⟩, ⟨11, []⟩])]
/-- the orders of the drawn regions of halberdref9.minus -/
def pl68 : List (Nat × List PStep) := [(5, [⟨0, []⟩, ⟨1, []⟩, ⟨2, []⟩, ⟨3, []⟩, ⟨4, [0, 1, 2, 3]⟩, ⟨5, [0, 1, 2, 3]⟩, ⟨6, [0, 1, 2, 3]⟩, ⟨7, [0, 1, 2, 3]⟩, ⟨8, []⟩, ⟨9, [0, 1, 2, 3, 4, 5, 6, 7, 8]⟩, ⟨10, []⟩, ⟨11, []⟩])]
/-- the orders of the drawn regions of halberdref9.add -/
def pl45 : List (Nat × List PStep) := []
/-- the orders of the drawn regions of halberdref9.sub -/
def pl46 : List (Nat × List PStep) := [(2, [⟨0, []⟩, ⟨1, [0]⟩, ⟨7, [0, 1]⟩, ⟨2, [0, 7]⟩, ⟨3, [7]⟩, ⟨4, [7]⟩, ⟨5, [7]⟩, ⟨6, [7, 5]⟩, ⟨8, [6]⟩, ⟨9, []⟩])]
/-- the orders of the drawn regions of halberdref9.square -/
def pl84 : List (Nat × List PStep) := []
/-- the orders of the drawn regions of halberdref9.inverse -/
def pl87 : List (Nat × List PStep) := []
/-- the orders of the drawn regions of halberdref9.put -/
def pl44 : List (Nat × List PStep) := []

/-- what the reference's constants are -/
def sqL (w : Int) : List UInt32 := if w = 0 then [0x3, 0x0, 0xffffffff, 0xfffffffb, 0xfffffffe, 0xffffffff, 0xfffffffd, 0x4] else if w = 1 then [0xbe79eea2, 0x83244c95, 0x49bd6fa6, 0x4699799c, 0x2b6bec59, 0x2845b239, 0xf3d95620, 0x66e12d94] else [0x5a4, 0x0, 0x0, 0x0, 0x0, 0x0, 0x0, 0x0]
def kR (w : Int) : UInt64 := if w = 0 then 1 else if w = 1 then 3993025615 else 678152731
theorem sqL_eq {w : Int} (h : 0 ≤ w ∧ w ≤ 2) : sqL w = Num32.lim (B4 * B4 % md w) := by
  rcases w3 h with rfl | rfl | rfl <;> decide +kernel
theorem kR_lt {w : Int} (h : 0 ≤ w ∧ w ≤ 2) : (kR w).toNat < 4294967296 := by
  rcases w3 h with rfl | rfl | rfl <;> decide +kernel
theorem kR_ok {w : Int} (h : 0 ≤ w ∧ w ≤ 2) : ((kR w).toNat * ((Num32.mlim w).getD 0 0).toNat) % 4294967296 = 4294967295 := by
  rcases w3 h with rfl | rfl | rfl <;> decide +kernel
theorem u64pos {x : UInt64} : decide (0 < x) = decide (0 < x.toNat) := by rw [decide_eq_decide, UInt64.lt_iff_toNat_lt]; rfl

theorem radd_w {x y m : List UInt32} (hx : x.length = 8) (hy : y.length = 8) (hm : m.length = 8) (h1 : Num32.val x < Num32.val m) (h2 : Num32.val y < Num32.val m)
    (h : (plusSt x y 8).2 = 1 ∨ ¬ Num32.val (plusSt x y 8).1 < Num32.val m) : (minusSt (plusSt x y 8).1 m 8).1 = Num32.lim ((Num32.val x + Num32.val y) % Num32.val m) := by
  obtain ⟨e1, c1⟩ := plusSt_val hx hy
  have hl := plusSt_len y hx 8
  obtain ⟨e2, c2⟩ := minusSt_val hl hm
  refine Num32.lim_of (minusSt_len m hl 8) ?_
  have l1 := Num32.val_lt (minusSt_len m hl 8)
  have l2 := Num32.val_lt hl
  have l3 := Num32.val_lt hm
  rw [u64_one] at h
  have hge : Num32.val m ≤ Num32.val x + Num32.val y := by unfold B4 at *; omega
  rw [Nat.mod_eq_sub_mod hge, Nat.mod_eq_of_lt (by omega)]
  unfold B4 at *; omega
theorem radd_z {x y m : List UInt32} (hx : x.length = 8) (hy : y.length = 8)
    (h : ¬ (plusSt x y 8).2 = 1) (h' : Num32.val (plusSt x y 8).1 < Num32.val m) : (plusSt x y 8).1 = Num32.lim ((Num32.val x + Num32.val y) % Num32.val m) := by
  obtain ⟨e1, c1⟩ := plusSt_val hx hy
  refine Num32.lim_of (plusSt_len y hx 8) ?_
  rw [u64_one] at h
  have e0 : (plusSt x y 8).2.toNat = 0 := by omega
  rw [e0, Nat.mul_zero, Nat.add_zero] at e1
  rw [← e1, Nat.mod_eq_of_lt h']
theorem rsub_w {x y m : List UInt32} (hx : x.length = 8) (hy : y.length = 8) (hm : m.length = 8) (h2 : Num32.val y < Num32.val m)
    (h : Num32.val x < Num32.val y) : (minusSt (plusSt x m 8).1 y 8).1 = Num32.lim ((Num32.val x + (Num32.val m - Num32.val y)) % Num32.val m) := by
  obtain ⟨e1, c1⟩ := plusSt_val hx hm
  have hl := plusSt_len m hx 8
  obtain ⟨e2, c2⟩ := minusSt_val hl hy
  refine Num32.lim_of (minusSt_len y hl 8) ?_
  have l1 := Num32.val_lt (minusSt_len y hl 8)
  have l2 := Num32.val_lt hl
  have l3 := Num32.val_lt hm
  rw [Nat.mod_eq_of_lt (by omega)]
  unfold B4 at *; omega
theorem rsub_z {x y m : List UInt32} (hx : x.length = 8) (hy : y.length = 8) (h1 : Num32.val x < Num32.val m)
    (h : ¬ Num32.val x < Num32.val y) : (minusSt x y 8).1 = Num32.lim ((Num32.val x + (Num32.val m - Num32.val y)) % Num32.val m) := by
  obtain ⟨e2, c2⟩ := minusSt_val hx hy
  refine Num32.lim_of (minusSt_len y hx 8) ?_
  have l1 := Num32.val_lt (minusSt_len y hx 8)
  have l2 := Num32.val_lt hx
  rw [Nat.mod_eq_sub_mod (by omega), Nat.mod_eq_of_lt (by omega)]
  unfold B4 at *; omega

/-! ### bytes out of words -/
def pbx (i : Nat) : Nat := ((24 : Int) - 8 * (i : Int).tmod 4).toNat
def psh (x : UInt32) (n : Nat) : UInt8 := (x >>> UInt32.ofNat n &&& UInt32.ofNat 255).toUInt8
def putSt (x : List UInt32) (i : Nat) : List UInt8 := fill 0 (fun i => psh (x.getD (Num32.kx i) 0) (pbx i)) 32 i
theorem putSt_len (x : List UInt32) (i : Nat) : (putSt x i).length = 32 := fill_len _ _ _ i
theorem psh_nat (x : UInt32) {n : Nat} (h : n < 32) : psh x n = UInt8.ofNat (x.toNat / 2 ^ n) := by
  apply UInt8.toNat_inj.1
  unfold psh
  rw [UInt32.toNat_toUInt8, UInt32.toNat_and, UInt32.toNat_shiftRight, Num32.ofNat_lt (by omega), Num32.ofNat_lt (by decide), Nat.mod_eq_of_lt h, Nat.shiftRight_eq_div_pow, UInt8.toNat_ofNat']
  have e : (2 ^ 8 : Nat) = 256 := by decide
  rw [show (255 : Nat) = 2 ^ 8 - 1 by decide, Nat.and_two_pow_sub_one_eq_mod, e, Nat.mod_mod]
theorem word4 (x : UInt32) : [psh x (24 - 8 * (0 : Nat)), psh x (24 - 8 * (1 : Nat)), psh x (24 - 8 * (2 : Nat)), psh x (24 - 8 * (3 : Nat))] = beB 4 x.toNat := by
  have f : ∀ n, beB 0 n = [] := fun n => by unfold beB; rfl
  have g : ∀ k n, beB (k + 1) n = beB k (n / 256) ++ [UInt8.ofNat n] := fun k n => by rw [beB]
  rw [g, g, g, g, f, psh_nat x (by decide), psh_nat x (by decide), psh_nat x (by decide), psh_nat x (by decide)]
  simp only [List.nil_append, List.cons_append, Nat.div_div_eq_div_mul]
  rw [show x.toNat / 2 ^ (24 - 8 * 3) = x.toNat by simp]
theorem put_expl (a0 a1 a2 a3 a4 a5 a6 a7 : UInt32) : putSt [a0, a1, a2, a3, a4, a5, a6, a7] 32 = [psh a7 (24 - 8 * (0 : Nat)), psh a7 (24 - 8 * (1 : Nat)), psh a7 (24 - 8 * (2 : Nat)), psh a7 (24 - 8 * (3 : Nat)), psh a6 (24 - 8 * (0 : Nat)), psh a6 (24 - 8 * (1 : Nat)), psh a6 (24 - 8 * (2 : Nat)), psh a6 (24 - 8 * (3 : Nat)), psh a5 (24 - 8 * (0 : Nat)), psh a5 (24 - 8 * (1 : Nat)), psh a5 (24 - 8 * (2 : Nat)), psh a5 (24 - 8 * (3 : Nat)), psh a4 (24 - 8 * (0 : Nat)), psh a4 (24 - 8 * (1 : Nat)), psh a4 (24 - 8 * (2 : Nat)), psh a4 (24 - 8 * (3 : Nat)), psh a3 (24 - 8 * (0 : Nat)), psh a3 (24 - 8 * (1 : Nat)), psh a3 (24 - 8 * (2 : Nat)), psh a3 (24 - 8 * (3 : Nat)), psh a2 (24 - 8 * (0 : Nat)), psh a2 (24 - 8 * (1 : Nat)), psh a2 (24 - 8 * (2 : Nat)), psh a2 (24 - 8 * (3 : Nat)), psh a1 (24 - 8 * (0 : Nat)), psh a1 (24 - 8 * (1 : Nat)), psh a1 (24 - 8 * (2 : Nat)), psh a1 (24 - 8 * (3 : Nat)), psh a0 (24 - 8 * (0 : Nat)), psh a0 (24 - 8 * (1 : Nat)), psh a0 (24 - 8 * (2 : Nat)), psh a0 (24 - 8 * (3 : Nat))] := by unfold putSt; rw [fill_all]; rfl
theorem put_val {x : List UInt32} (h : x.length = 8) : putSt x 32 = beB 32 (Num32.val x) := by
  obtain ⟨a0, a1, a2, a3, a4, a5, a6, a7, rfl⟩ := Num32.len8 h
  have p4 : (256 ^ 4 : Nat) = 4294967296 := by decide
  have key : ∀ (k : Nat) (a : UInt32) (n : Nat), beB (k + 4) (a.toNat + 4294967296 * n) = beB k n ++ [psh a (24 - 8 * (0 : Nat)), psh a (24 - 8 * (1 : Nat)), psh a (24 - 8 * (2 : Nat)), psh a (24 - 8 * (3 : Nat))] := fun k a n => by
    have ha := Num32.lt32 a
    rw [beB_add, p4, word4, ← beB_mod 4 (a.toNat + 4294967296 * n), p4]
    congr 2 <;> omega
  have hv : Num32.val [a0, a1, a2, a3, a4, a5, a6, a7] = a0.toNat + 4294967296 * (a1.toNat + 4294967296 * (a2.toNat + 4294967296 * (a3.toNat + 4294967296 * (a4.toNat + 4294967296 * (a5.toNat + 4294967296 * (a6.toNat + 4294967296 * (a7.toNat + 4294967296 * (0)))))))) := by simp only [Num32.val]
  rw [put_expl, hv]
  rw [show (32 : Nat) = 28 + 4 from rfl, key, show (28 : Nat) = 24 + 4 from rfl, key, show (24 : Nat) = 20 + 4 from rfl, key, show (20 : Nat) = 16 + 4 from rfl, key, show (16 : Nat) = 12 + 4 from rfl, key, show (12 : Nat) = 8 + 4 from rfl, key, show (8 : Nat) = 4 + 4 from rfl, key, show (4 : Nat) = 0 + 4 from rfl, key]
  have f : beB 0 0 = [] := by unfold beB; rfl
  rw [f]
  rfl

def rplusS : Spec := fun args hp K => match args, hp with
  | [.arr32 8 x, .arr32 8 y], [] => Pre (x.length = 8 ∧ y.length = 8) (K (.tup [.arr32 8 (plusSt x y 8).1, .u64 (plusSt x y 8).2]) [])
  | _, _ => False
def rminusS : Spec := fun args hp K => match args, hp with
  | [.arr32 8 x, .arr32 8 y], [] => Pre (x.length = 8 ∧ y.length = 8) (K (.arr32 8 (minusSt x y 8).1) [])
  | _, _ => False
def raddS : Spec := fun args hp K => match args, hp with
  | [.int w, .arr32 8 x, .arr32 8 y], [] => Pre ((0 ≤ w ∧ w ≤ 2) ∧ x.length = 8 ∧ y.length = 8 ∧ Num32.val x < md w ∧ Num32.val y < md w) (K (.arr32 8 (Num32.lim ((Num32.val x + Num32.val y) % md w))) [])
  | _, _ => False
def rsubS : Spec := fun args hp K => match args, hp with
  | [.int w, .arr32 8 x, .arr32 8 y], [] => Pre ((0 ≤ w ∧ w ≤ 2) ∧ x.length = 8 ∧ y.length = 8 ∧ Num32.val x < md w ∧ Num32.val y < md w) (K (.arr32 8 (Num32.lim ((Num32.val x + (md w - Num32.val y)) % md w))) [])
  | _, _ => False
def squareS : Spec := fun args hp K => match args, hp with
  | [.int w], [] => K (.arr32 8 (sqL w)) []
  | _, _ => False
def inverseS : Spec := fun args hp K => match args, hp with
  | [.int w], [] => K (.u64 (kR w)) []
  | _, _ => False
def putS : Spec := fun args hp K => match args, hp with
  | [.arr32 8 x], [] => Pre (x.length = 8) (K (.str (beB 32 (Num32.val x))) [])
  | _, _ => False
theorem rplus_s : SoundC prog 74 rplusS := by
  refine sound_f tys_ok fnok_nil rfl func74 rfl call74 (D := pl74) ?_ ?_
  · intro args hp K h
    unfold rplusS at h
    split at h
    · exact Nat.le_of_ble_eq_true rfl
    · exact h.elim
  · intro args hp K h
    unfold rplusS at h
    split at h
    · rename_i x y
      obtain ⟨⟨hx, hy⟩, h⟩ := pre_e h
      repeat ((conv => whnf); first | (refine pre_i ?hc ?_; case hc => first | exact (show planOK _ _ _ = true from by kernel_rfl) | assumption | omega | (unfold fits; omega) | decide +kernel | (constructor <;> first | assumption | omega) | (simp only [off_addO, ty3, ty4, ty5, ty9, ty24, ty35, ty41, ty42, ty50, ty67, ty69, ty70, ty71, ty72, ty77, ty78, ty79, ty94, ty97, ty108, off, offE] <;> omega) | (simp only [List.length_append, List.length_take, List.length_drop, List.length_nil, List.length_cons, List.length_replicate, List.length_set, off_addO, off, offE] <;> omega) | (simp only [off_addO, ty3, ty4, ty5, ty9, ty24, ty35, ty41, ty42, ty50, ty67, ty69, ty70, ty71, ty72, ty77, ty78, ty79, ty94, ty97, ty108, List.length_append, List.length_take, List.length_drop, List.length_nil, List.length_cons, List.length_replicate, List.length_set, off, offE] <;> omega) | (constructor <;> first | assumption | (simp only [off_addO, ty3, ty4, ty5, ty9, ty24, ty35, ty41, ty42, ty50, ty67, ty69, ty70, ty71, ty72, ty77, ty78, ty79, ty94, ty97, ty108, List.length_append, List.length_take, List.length_drop, List.length_nil, List.length_cons, List.length_replicate, List.length_set, off, offE] <;> omega))) | (refine cond_t ?hc ?_; case hc => first | rfl | assumption | (rw [decide_eq_true_eq]; omega) | (rw [decide_eq_false_iff_not]; omega) | (simp <;> omega)) | (refine cond_f ?hc ?_; case hc => first | rfl | assumption | (rw [decide_eq_true_eq]; omega) | (rw [decide_eq_false_iff_not]; omega) | (simp <;> omega)) | refine same_i ?_)
      conv => whnf
      refine loop_h (Ix 8) (fun q => ⟨[(2, .ptr 0 0 0 []), (3, .ptr 1 0 0 []), (4, .ptr 2 0 0 []), (6, .u64 (plusSt x y q.i).2), (7, .int q.i)], [.mk 72 [.arr32 8 (plusSt x y q.i).1], .mk 72 [.arr32 8 y], .mk 72 [.arr32 8 [0, 0, 0, 0, 0, 0, 0, 0]]]⟩)
        (fun q => 8 - q.i) ⟨0, Nat.zero_le _⟩ [0, 1, 2] ?_ ?_
      · repeat ((conv => whnf); first | (refine pre_i ?hc ?_; case hc => first | exact (show planOK _ _ _ = true from by kernel_rfl) | assumption | omega | (unfold fits; omega) | decide +kernel | (constructor <;> first | assumption | omega) | (simp only [off_addO, ty3, ty4, ty5, ty9, ty24, ty35, ty41, ty42, ty50, ty67, ty69, ty70, ty71, ty72, ty77, ty78, ty79, ty94, ty97, ty108, off, offE] <;> omega) | (simp only [List.length_append, List.length_take, List.length_drop, List.length_nil, List.length_cons, List.length_replicate, List.length_set, off_addO, off, offE] <;> omega) | (simp only [off_addO, ty3, ty4, ty5, ty9, ty24, ty35, ty41, ty42, ty50, ty67, ty69, ty70, ty71, ty72, ty77, ty78, ty79, ty94, ty97, ty108, List.length_append, List.length_take, List.length_drop, List.length_nil, List.length_cons, List.length_replicate, List.length_set, off, offE] <;> omega) | (constructor <;> first | assumption | (simp only [off_addO, ty3, ty4, ty5, ty9, ty24, ty35, ty41, ty42, ty50, ty67, ty69, ty70, ty71, ty72, ty77, ty78, ty79, ty94, ty97, ty108, List.length_append, List.length_take, List.length_drop, List.length_nil, List.length_cons, List.length_replicate, List.length_set, off, offE] <;> omega))) | (refine cond_t ?hc ?_; case hc => first | rfl | assumption | (rw [decide_eq_true_eq]; omega) | (rw [decide_eq_false_iff_not]; omega) | (simp <;> omega)) | (refine cond_f ?hc ?_; case hc => first | rfl | assumption | (rw [decide_eq_true_eq]; omega) | (rw [decide_eq_false_iff_not]; omega) | (simp <;> omega)) | refine same_i ?_)
        exact trivial
      · intro q
        have hi := q.hi
        have hl := plusSt_len y hx q.i
        have hI : ((q.i : Int)).toNat = q.i := Int.toNat_natCast _
        by_cases h4 : q.i < 8
        · repeat ((conv => whnf); first | (refine pre_i ?hc ?_; case hc => first | exact (show planOK _ _ _ = true from by kernel_rfl) | assumption | omega | (unfold fits; omega) | decide +kernel | (constructor <;> first | assumption | omega) | (simp only [off_addO, ty3, ty4, ty5, ty9, ty24, ty35, ty41, ty42, ty50, ty67, ty69, ty70, ty71, ty72, ty77, ty78, ty79, ty94, ty97, ty108, off, offE] <;> omega) | (simp only [List.length_append, List.length_take, List.length_drop, List.length_nil, List.length_cons, List.length_replicate, List.length_set, off_addO, off, offE] <;> omega) | (simp only [off_addO, ty3, ty4, ty5, ty9, ty24, ty35, ty41, ty42, ty50, ty67, ty69, ty70, ty71, ty72, ty77, ty78, ty79, ty94, ty97, ty108, List.length_append, List.length_take, List.length_drop, List.length_nil, List.length_cons, List.length_replicate, List.length_set, off, offE] <;> omega) | (constructor <;> first | assumption | (simp only [off_addO, ty3, ty4, ty5, ty9, ty24, ty35, ty41, ty42, ty50, ty67, ty69, ty70, ty71, ty72, ty77, ty78, ty79, ty94, ty97, ty108, List.length_append, List.length_take, List.length_drop, List.length_nil, List.length_cons, List.length_replicate, List.length_set, off, offE] <;> omega))) | (refine cond_t ?hc ?_; case hc => first | rfl | assumption | (rw [decide_eq_true_eq]; omega) | (rw [decide_eq_false_iff_not]; omega) | (simp <;> omega)) | (refine cond_f ?hc ?_; case hc => first | rfl | assumption | (rw [decide_eq_true_eq]; omega) | (rw [decide_eq_false_iff_not]; omega) | (simp <;> omega)) | refine same_i ?_)
          conv => whnf
          refine ⟨⟨q.i + 1, h4⟩, [0, 1, 2], ?_, ?_⟩
          · show 8 - (q.i + 1) < 8 - q.i
            omega
          · repeat ((conv => whnf); first | (refine pre_i ?hc ?_; case hc => first | exact (show planOK _ _ _ = true from by kernel_rfl) | assumption | omega | (unfold fits; omega) | decide +kernel | (constructor <;> first | assumption | omega) | (simp only [off_addO, ty3, ty4, ty5, ty9, ty24, ty35, ty41, ty42, ty50, ty67, ty69, ty70, ty71, ty72, ty77, ty78, ty79, ty94, ty97, ty108, off, offE] <;> omega) | (simp only [List.length_append, List.length_take, List.length_drop, List.length_nil, List.length_cons, List.length_replicate, List.length_set, off_addO, off, offE] <;> omega) | (simp only [off_addO, ty3, ty4, ty5, ty9, ty24, ty35, ty41, ty42, ty50, ty67, ty69, ty70, ty71, ty72, ty77, ty78, ty79, ty94, ty97, ty108, List.length_append, List.length_take, List.length_drop, List.length_nil, List.length_cons, List.length_replicate, List.length_set, off, offE] <;> omega) | (constructor <;> first | assumption | (simp only [off_addO, ty3, ty4, ty5, ty9, ty24, ty35, ty41, ty42, ty50, ty67, ty69, ty70, ty71, ty72, ty77, ty78, ty79, ty94, ty97, ty108, List.length_append, List.length_take, List.length_drop, List.length_nil, List.length_cons, List.length_replicate, List.length_set, off, offE] <;> omega))) | (refine cond_t ?hc ?_; case hc => first | rfl | assumption | (rw [decide_eq_true_eq]; omega) | (rw [decide_eq_false_iff_not]; omega) | (simp <;> omega)) | (refine cond_f ?hc ?_; case hc => first | rfl | assumption | (rw [decide_eq_true_eq]; omega) | (rw [decide_eq_false_iff_not]; omega) | (simp <;> omega)) | refine same_i ?_)
            exact trivial
        · have e4 : q.i = 8 := by omega
          repeat ((conv => whnf); first | (refine pre_i ?hc ?_; case hc => first | exact (show planOK _ _ _ = true from by kernel_rfl) | assumption | omega | (unfold fits; omega) | decide +kernel | (constructor <;> first | assumption | omega) | (simp only [off_addO, ty3, ty4, ty5, ty9, ty24, ty35, ty41, ty42, ty50, ty67, ty69, ty70, ty71, ty72, ty77, ty78, ty79, ty94, ty97, ty108, off, offE] <;> omega) | (simp only [List.length_append, List.length_take, List.length_drop, List.length_nil, List.length_cons, List.length_replicate, List.length_set, off_addO, off, offE] <;> omega) | (simp only [off_addO, ty3, ty4, ty5, ty9, ty24, ty35, ty41, ty42, ty50, ty67, ty69, ty70, ty71, ty72, ty77, ty78, ty79, ty94, ty97, ty108, List.length_append, List.length_take, List.length_drop, List.length_nil, List.length_cons, List.length_replicate, List.length_set, off, offE] <;> omega) | (constructor <;> first | assumption | (simp only [off_addO, ty3, ty4, ty5, ty9, ty24, ty35, ty41, ty42, ty50, ty67, ty69, ty70, ty71, ty72, ty77, ty78, ty79, ty94, ty97, ty108, List.length_append, List.length_take, List.length_drop, List.length_nil, List.length_cons, List.length_replicate, List.length_set, off, offE] <;> omega))) | (refine cond_t ?hc ?_; case hc => first | rfl | assumption | (rw [decide_eq_true_eq]; omega) | (rw [decide_eq_false_iff_not]; omega) | (simp <;> omega)) | (refine cond_f ?hc ?_; case hc => first | rfl | assumption | (rw [decide_eq_true_eq]; omega) | (rw [decide_eq_false_iff_not]; omega) | (simp <;> omega)) | refine same_i ?_)
          conv => whnf
          rw [e4]
          refine final_h (hp' := []) [] h ?_
          repeat ((conv => whnf); first | (refine pre_i ?hc ?_; case hc => first | exact (show planOK _ _ _ = true from by kernel_rfl) | assumption | omega | (unfold fits; omega) | decide +kernel | (constructor <;> first | assumption | omega) | (simp only [off_addO, ty3, ty4, ty5, ty9, ty24, ty35, ty41, ty42, ty50, ty67, ty69, ty70, ty71, ty72, ty77, ty78, ty79, ty94, ty97, ty108, off, offE] <;> omega) | (simp only [List.length_append, List.length_take, List.length_drop, List.length_nil, List.length_cons, List.length_replicate, List.length_set, off_addO, off, offE] <;> omega) | (simp only [off_addO, ty3, ty4, ty5, ty9, ty24, ty35, ty41, ty42, ty50, ty67, ty69, ty70, ty71, ty72, ty77, ty78, ty79, ty94, ty97, ty108, List.length_append, List.length_take, List.length_drop, List.length_nil, List.length_cons, List.length_replicate, List.length_set, off, offE] <;> omega) | (constructor <;> first | assumption | (simp only [off_addO, ty3, ty4, ty5, ty9, ty24, ty35, ty41, ty42, ty50, ty67, ty69, ty70, ty71, ty72, ty77, ty78, ty79, ty94, ty97, ty108, List.length_append, List.length_take, List.length_drop, List.length_nil, List.length_cons, List.length_replicate, List.length_set, off, offE] <;> omega))) | (refine cond_t ?hc ?_; case hc => first | rfl | assumption | (rw [decide_eq_true_eq]; omega) | (rw [decide_eq_false_iff_not]; omega) | (simp <;> omega)) | (refine cond_f ?hc ?_; case hc => first | rfl | assumption | (rw [decide_eq_true_eq]; omega) | (rw [decide_eq_false_iff_not]; omega) | (simp <;> omega)) | refine same_i ?_)
          exact trivial
    · exact h.elim
theorem rminus_s : SoundC prog 68 rminusS := by
  refine sound_f tys_ok fnok_nil rfl func68 rfl call68 (D := pl68) ?_ ?_
  · intro args hp K h
    unfold rminusS at h
    split at h
    · exact Nat.le_of_ble_eq_true rfl
    · exact h.elim
  · intro args hp K h
    unfold rminusS at h
    split at h
    · rename_i x y
      obtain ⟨⟨hx, hy⟩, h⟩ := pre_e h
      repeat ((conv => whnf); first | (refine pre_i ?hc ?_; case hc => first | exact (show planOK _ _ _ = true from by kernel_rfl) | assumption | omega | (unfold fits; omega) | decide +kernel | (constructor <;> first | assumption | omega) | (simp only [off_addO, ty3, ty4, ty5, ty9, ty24, ty35, ty41, ty42, ty50, ty67, ty69, ty70, ty71, ty72, ty77, ty78, ty79, ty94, ty97, ty108, off, offE] <;> omega) | (simp only [List.length_append, List.length_take, List.length_drop, List.length_nil, List.length_cons, List.length_replicate, List.length_set, off_addO, off, offE] <;> omega) | (simp only [off_addO, ty3, ty4, ty5, ty9, ty24, ty35, ty41, ty42, ty50, ty67, ty69, ty70, ty71, ty72, ty77, ty78, ty79, ty94, ty97, ty108, List.length_append, List.length_take, List.length_drop, List.length_nil, List.length_cons, List.length_replicate, List.length_set, off, offE] <;> omega) | (constructor <;> first | assumption | (simp only [off_addO, ty3, ty4, ty5, ty9, ty24, ty35, ty41, ty42, ty50, ty67, ty69, ty70, ty71, ty72, ty77, ty78, ty79, ty94, ty97, ty108, List.length_append, List.length_take, List.length_drop, List.length_nil, List.length_cons, List.length_replicate, List.length_set, off, offE] <;> omega))) | (refine cond_t ?hc ?_; case hc => first | rfl | assumption | (rw [decide_eq_true_eq]; omega) | (rw [decide_eq_false_iff_not]; omega) | (simp <;> omega)) | (refine cond_f ?hc ?_; case hc => first | rfl | assumption | (rw [decide_eq_true_eq]; omega) | (rw [decide_eq_false_iff_not]; omega) | (simp <;> omega)) | refine same_i ?_)
      conv => whnf
      refine loop_h (Ix 8) (fun q => ⟨[(2, .ptr 0 0 0 []), (3, .ptr 1 0 0 []), (4, .ptr 2 0 0 []), (5, .u64 (minusSt x y q.i).2), (6, .int q.i)], [.mk 72 [.arr32 8 (minusSt x y q.i).1], .mk 72 [.arr32 8 y], .mk 72 [.arr32 8 [0, 0, 0, 0, 0, 0, 0, 0]]]⟩)
        (fun q => 8 - q.i) ⟨0, Nat.zero_le _⟩ [0, 1, 2] ?_ ?_
      · repeat ((conv => whnf); first | (refine pre_i ?hc ?_; case hc => first | exact (show planOK _ _ _ = true from by kernel_rfl) | assumption | omega | (unfold fits; omega) | decide +kernel | (constructor <;> first | assumption | omega) | (simp only [off_addO, ty3, ty4, ty5, ty9, ty24, ty35, ty41, ty42, ty50, ty67, ty69, ty70, ty71, ty72, ty77, ty78, ty79, ty94, ty97, ty108, off, offE] <;> omega) | (simp only [List.length_append, List.length_take, List.length_drop, List.length_nil, List.length_cons, List.length_replicate, List.length_set, off_addO, off, offE] <;> omega) | (simp only [off_addO, ty3, ty4, ty5, ty9, ty24, ty35, ty41, ty42, ty50, ty67, ty69, ty70, ty71, ty72, ty77, ty78, ty79, ty94, ty97, ty108, List.length_append, List.length_take, List.length_drop, List.length_nil, List.length_cons, List.length_replicate, List.length_set, off, offE] <;> omega) | (constructor <;> first | assumption | (simp only [off_addO, ty3, ty4, ty5, ty9, ty24, ty35, ty41, ty42, ty50, ty67, ty69, ty70, ty71, ty72, ty77, ty78, ty79, ty94, ty97, ty108, List.length_append, List.length_take, List.length_drop, List.length_nil, List.length_cons, List.length_replicate, List.length_set, off, offE] <;> omega))) | (refine cond_t ?hc ?_; case hc => first | rfl | assumption | (rw [decide_eq_true_eq]; omega) | (rw [decide_eq_false_iff_not]; omega) | (simp <;> omega)) | (refine cond_f ?hc ?_; case hc => first | rfl | assumption | (rw [decide_eq_true_eq]; omega) | (rw [decide_eq_false_iff_not]; omega) | (simp <;> omega)) | refine same_i ?_)
        exact trivial
      · intro q
        have hi := q.hi
        have hl := minusSt_len y hx q.i
        have hI : ((q.i : Int)).toNat = q.i := Int.toNat_natCast _
        by_cases h4 : q.i < 8
        · repeat ((conv => whnf); first | (refine pre_i ?hc ?_; case hc => first | exact (show planOK _ _ _ = true from by kernel_rfl) | assumption | omega | (unfold fits; omega) | decide +kernel | (constructor <;> first | assumption | omega) | (simp only [off_addO, ty3, ty4, ty5, ty9, ty24, ty35, ty41, ty42, ty50, ty67, ty69, ty70, ty71, ty72, ty77, ty78, ty79, ty94, ty97, ty108, off, offE] <;> omega) | (simp only [List.length_append, List.length_take, List.length_drop, List.length_nil, List.length_cons, List.length_replicate, List.length_set, off_addO, off, offE] <;> omega) | (simp only [off_addO, ty3, ty4, ty5, ty9, ty24, ty35, ty41, ty42, ty50, ty67, ty69, ty70, ty71, ty72, ty77, ty78, ty79, ty94, ty97, ty108, List.length_append, List.length_take, List.length_drop, List.length_nil, List.length_cons, List.length_replicate, List.length_set, off, offE] <;> omega) | (constructor <;> first | assumption | (simp only [off_addO, ty3, ty4, ty5, ty9, ty24, ty35, ty41, ty42, ty50, ty67, ty69, ty70, ty71, ty72, ty77, ty78, ty79, ty94, ty97, ty108, List.length_append, List.length_take, List.length_drop, List.length_nil, List.length_cons, List.length_replicate, List.length_set, off, offE] <;> omega))) | (refine cond_t ?hc ?_; case hc => first | rfl | assumption | (rw [decide_eq_true_eq]; omega) | (rw [decide_eq_false_iff_not]; omega) | (simp <;> omega)) | (refine cond_f ?hc ?_; case hc => first | rfl | assumption | (rw [decide_eq_true_eq]; omega) | (rw [decide_eq_false_iff_not]; omega) | (simp <;> omega)) | refine same_i ?_)
          conv => whnf
          refine ⟨⟨q.i + 1, h4⟩, [0, 1, 2], ?_, ?_⟩
          · show 8 - (q.i + 1) < 8 - q.i
            omega
          · repeat ((conv => whnf); first | (refine pre_i ?hc ?_; case hc => first | exact (show planOK _ _ _ = true from by kernel_rfl) | assumption | omega | (unfold fits; omega) | decide +kernel | (constructor <;> first | assumption | omega) | (simp only [off_addO, ty3, ty4, ty5, ty9, ty24, ty35, ty41, ty42, ty50, ty67, ty69, ty70, ty71, ty72, ty77, ty78, ty79, ty94, ty97, ty108, off, offE] <;> omega) | (simp only [List.length_append, List.length_take, List.length_drop, List.length_nil, List.length_cons, List.length_replicate, List.length_set, off_addO, off, offE] <;> omega) | (simp only [off_addO, ty3, ty4, ty5, ty9, ty24, ty35, ty41, ty42, ty50, ty67, ty69, ty70, ty71, ty72, ty77, ty78, ty79, ty94, ty97, ty108, List.length_append, List.length_take, List.length_drop, List.length_nil, List.length_cons, List.length_replicate, List.length_set, off, offE] <;> omega) | (constructor <;> first | assumption | (simp only [off_addO, ty3, ty4, ty5, ty9, ty24, ty35, ty41, ty42, ty50, ty67, ty69, ty70, ty71, ty72, ty77, ty78, ty79, ty94, ty97, ty108, List.length_append, List.length_take, List.length_drop, List.length_nil, List.length_cons, List.length_replicate, List.length_set, off, offE] <;> omega))) | (refine cond_t ?hc ?_; case hc => first | rfl | assumption | (rw [decide_eq_true_eq]; omega) | (rw [decide_eq_false_iff_not]; omega) | (simp <;> omega)) | (refine cond_f ?hc ?_; case hc => first | rfl | assumption | (rw [decide_eq_true_eq]; omega) | (rw [decide_eq_false_iff_not]; omega) | (simp <;> omega)) | refine same_i ?_)
            exact trivial
        · have e4 : q.i = 8 := by omega
          repeat ((conv => whnf); first | (refine pre_i ?hc ?_; case hc => first | exact (show planOK _ _ _ = true from by kernel_rfl) | assumption | omega | (unfold fits; omega) | decide +kernel | (constructor <;> first | assumption | omega) | (simp only [off_addO, ty3, ty4, ty5, ty9, ty24, ty35, ty41, ty42, ty50, ty67, ty69, ty70, ty71, ty72, ty77, ty78, ty79, ty94, ty97, ty108, off, offE] <;> omega) | (simp only [List.length_append, List.length_take, List.length_drop, List.length_nil, List.length_cons, List.length_replicate, List.length_set, off_addO, off, offE] <;> omega) | (simp only [off_addO, ty3, ty4, ty5, ty9, ty24, ty35, ty41, ty42, ty50, ty67, ty69, ty70, ty71, ty72, ty77, ty78, ty79, ty94, ty97, ty108, List.length_append, List.length_take, List.length_drop, List.length_nil, List.length_cons, List.length_replicate, List.length_set, off, offE] <;> omega) | (constructor <;> first | assumption | (simp only [off_addO, ty3, ty4, ty5, ty9, ty24, ty35, ty41, ty42, ty50, ty67, ty69, ty70, ty71, ty72, ty77, ty78, ty79, ty94, ty97, ty108, List.length_append, List.length_take, List.length_drop, List.length_nil, List.length_cons, List.length_replicate, List.length_set, off, offE] <;> omega))) | (refine cond_t ?hc ?_; case hc => first | rfl | assumption | (rw [decide_eq_true_eq]; omega) | (rw [decide_eq_false_iff_not]; omega) | (simp <;> omega)) | (refine cond_f ?hc ?_; case hc => first | rfl | assumption | (rw [decide_eq_true_eq]; omega) | (rw [decide_eq_false_iff_not]; omega) | (simp <;> omega)) | refine same_i ?_)
          conv => whnf
          rw [e4]
          refine final_h (hp' := []) [] h ?_
          repeat ((conv => whnf); first | (refine pre_i ?hc ?_; case hc => first | exact (show planOK _ _ _ = true from by kernel_rfl) | assumption | omega | (unfold fits; omega) | decide +kernel | (constructor <;> first | assumption | omega) | (simp only [off_addO, ty3, ty4, ty5, ty9, ty24, ty35, ty41, ty42, ty50, ty67, ty69, ty70, ty71, ty72, ty77, ty78, ty79, ty94, ty97, ty108, off, offE] <;> omega) | (simp only [List.length_append, List.length_take, List.length_drop, List.length_nil, List.length_cons, List.length_replicate, List.length_set, off_addO, off, offE] <;> omega) | (simp only [off_addO, ty3, ty4, ty5, ty9, ty24, ty35, ty41, ty42, ty50, ty67, ty69, ty70, ty71, ty72, ty77, ty78, ty79, ty94, ty97, ty108, List.length_append, List.length_take, List.length_drop, List.length_nil, List.length_cons, List.length_replicate, List.length_set, off, offE] <;> omega) | (constructor <;> first | assumption | (simp only [off_addO, ty3, ty4, ty5, ty9, ty24, ty35, ty41, ty42, ty50, ty67, ty69, ty70, ty71, ty72, ty77, ty78, ty79, ty94, ty97, ty108, List.length_append, List.length_take, List.length_drop, List.length_nil, List.length_cons, List.length_replicate, List.length_set, off, offE] <;> omega))) | (refine cond_t ?hc ?_; case hc => first | rfl | assumption | (rw [decide_eq_true_eq]; omega) | (rw [decide_eq_false_iff_not]; omega) | (simp <;> omega)) | (refine cond_f ?hc ?_; case hc => first | rfl | assumption | (rw [decide_eq_true_eq]; omega) | (rw [decide_eq_false_iff_not]; omega) | (simp <;> omega)) | refine same_i ?_)
          exact trivial
    · exact h.elim
theorem square_s : SoundC prog 84 squareS := by
  refine sound_f tys_ok fnok_nil rfl func84 rfl call84 (D := pl84) ?_ ?_
  · intro args hp K h
    unfold squareS at h
    split at h
    · exact Nat.le_of_ble_eq_true rfl
    · exact h.elim
  · intro args hp K h
    unfold squareS at h
    split at h
    · rename_i w
      by_cases h0 : w = 0
      · repeat ((conv => whnf); first | (refine pre_i ?hc ?_; case hc => first | exact (show planOK _ _ _ = true from by kernel_rfl) | assumption | omega | (unfold fits; omega) | decide +kernel | (constructor <;> first | assumption | omega) | (simp only [off_addO, ty3, ty4, ty5, ty9, ty24, ty35, ty41, ty42, ty50, ty67, ty69, ty70, ty71, ty72, ty77, ty78, ty79, ty94, ty97, ty108, off, offE] <;> omega) | (simp only [List.length_append, List.length_take, List.length_drop, List.length_nil, List.length_cons, List.length_replicate, List.length_set, off_addO, off, offE] <;> omega) | (simp only [off_addO, ty3, ty4, ty5, ty9, ty24, ty35, ty41, ty42, ty50, ty67, ty69, ty70, ty71, ty72, ty77, ty78, ty79, ty94, ty97, ty108, List.length_append, List.length_take, List.length_drop, List.length_nil, List.length_cons, List.length_replicate, List.length_set, off, offE] <;> omega) | (constructor <;> first | assumption | (simp only [off_addO, ty3, ty4, ty5, ty9, ty24, ty35, ty41, ty42, ty50, ty67, ty69, ty70, ty71, ty72, ty77, ty78, ty79, ty94, ty97, ty108, List.length_append, List.length_take, List.length_drop, List.length_nil, List.length_cons, List.length_replicate, List.length_set, off, offE] <;> omega))) | (refine cond_t ?hc ?_; case hc => first | rfl | assumption | (rw [decide_eq_true_eq]; omega) | (rw [decide_eq_false_iff_not]; omega) | (simp <;> omega)) | (refine cond_f ?hc ?_; case hc => first | rfl | assumption | (rw [decide_eq_true_eq]; omega) | (rw [decide_eq_false_iff_not]; omega) | (simp <;> omega)) | refine same_i ?_)
        conv => whnf
        refine final_h (hp' := []) [] h ?_
        conv => whnf
        refine same_q (by subst h0; unfold sqL; rfl) ?_
        exact trivial
      · by_cases h1 : w = 1
        · repeat ((conv => whnf); first | (refine pre_i ?hc ?_; case hc => first | exact (show planOK _ _ _ = true from by kernel_rfl) | assumption | omega | (unfold fits; omega) | decide +kernel | (constructor <;> first | assumption | omega) | (simp only [off_addO, ty3, ty4, ty5, ty9, ty24, ty35, ty41, ty42, ty50, ty67, ty69, ty70, ty71, ty72, ty77, ty78, ty79, ty94, ty97, ty108, off, offE] <;> omega) | (simp only [List.length_append, List.length_take, List.length_drop, List.length_nil, List.length_cons, List.length_replicate, List.length_set, off_addO, off, offE] <;> omega) | (simp only [off_addO, ty3, ty4, ty5, ty9, ty24, ty35, ty41, ty42, ty50, ty67, ty69, ty70, ty71, ty72, ty77, ty78, ty79, ty94, ty97, ty108, List.length_append, List.length_take, List.length_drop, List.length_nil, List.length_cons, List.length_replicate, List.length_set, off, offE] <;> omega) | (constructor <;> first | assumption | (simp only [off_addO, ty3, ty4, ty5, ty9, ty24, ty35, ty41, ty42, ty50, ty67, ty69, ty70, ty71, ty72, ty77, ty78, ty79, ty94, ty97, ty108, List.length_append, List.length_take, List.length_drop, List.length_nil, List.length_cons, List.length_replicate, List.length_set, off, offE] <;> omega))) | (refine cond_t ?hc ?_; case hc => first | rfl | assumption | (rw [decide_eq_true_eq]; omega) | (rw [decide_eq_false_iff_not]; omega) | (simp <;> omega)) | (refine cond_f ?hc ?_; case hc => first | rfl | assumption | (rw [decide_eq_true_eq]; omega) | (rw [decide_eq_false_iff_not]; omega) | (simp <;> omega)) | refine same_i ?_)
          conv => whnf
          refine final_h (hp' := []) [] h ?_
          conv => whnf
          refine same_q (by subst h1; unfold sqL; rfl) ?_
          exact trivial
        · repeat ((conv => whnf); first | (refine pre_i ?hc ?_; case hc => first | exact (show planOK _ _ _ = true from by kernel_rfl) | assumption | omega | (unfold fits; omega) | decide +kernel | (constructor <;> first | assumption | omega) | (simp only [off_addO, ty3, ty4, ty5, ty9, ty24, ty35, ty41, ty42, ty50, ty67, ty69, ty70, ty71, ty72, ty77, ty78, ty79, ty94, ty97, ty108, off, offE] <;> omega) | (simp only [List.length_append, List.length_take, List.length_drop, List.length_nil, List.length_cons, List.length_replicate, List.length_set, off_addO, off, offE] <;> omega) | (simp only [off_addO, ty3, ty4, ty5, ty9, ty24, ty35, ty41, ty42, ty50, ty67, ty69, ty70, ty71, ty72, ty77, ty78, ty79, ty94, ty97, ty108, List.length_append, List.length_take, List.length_drop, List.length_nil, List.length_cons, List.length_replicate, List.length_set, off, offE] <;> omega) | (constructor <;> first | assumption | (simp only [off_addO, ty3, ty4, ty5, ty9, ty24, ty35, ty41, ty42, ty50, ty67, ty69, ty70, ty71, ty72, ty77, ty78, ty79, ty94, ty97, ty108, List.length_append, List.length_take, List.length_drop, List.length_nil, List.length_cons, List.length_replicate, List.length_set, off, offE] <;> omega))) | (refine cond_t ?hc ?_; case hc => first | rfl | assumption | (rw [decide_eq_true_eq]; omega) | (rw [decide_eq_false_iff_not]; omega) | (simp <;> omega)) | (refine cond_f ?hc ?_; case hc => first | rfl | assumption | (rw [decide_eq_true_eq]; omega) | (rw [decide_eq_false_iff_not]; omega) | (simp <;> omega)) | refine same_i ?_)
          conv => whnf
          refine final_h (hp' := []) [] h ?_
          conv => whnf
          refine same_q (by unfold sqL; rw [if_neg h0, if_neg h1]; rfl) ?_
          exact trivial
    · exact h.elim
theorem inverse_s : SoundC prog 87 inverseS := by
  refine sound_f tys_ok fnok_nil rfl func87 rfl call87 (D := pl87) ?_ ?_
  · intro args hp K h
    unfold inverseS at h
    split at h
    · exact Nat.le_of_ble_eq_true rfl
    · exact h.elim
  · intro args hp K h
    unfold inverseS at h
    split at h
    · rename_i w
      by_cases h0 : w = 0
      · repeat ((conv => whnf); first | (refine pre_i ?hc ?_; case hc => first | exact (show planOK _ _ _ = true from by kernel_rfl) | assumption | omega | (unfold fits; omega) | decide +kernel | (constructor <;> first | assumption | omega) | (simp only [off_addO, ty3, ty4, ty5, ty9, ty24, ty35, ty41, ty42, ty50, ty67, ty69, ty70, ty71, ty72, ty77, ty78, ty79, ty94, ty97, ty108, off, offE] <;> omega) | (simp only [List.length_append, List.length_take, List.length_drop, List.length_nil, List.length_cons, List.length_replicate, List.length_set, off_addO, off, offE] <;> omega) | (simp only [off_addO, ty3, ty4, ty5, ty9, ty24, ty35, ty41, ty42, ty50, ty67, ty69, ty70, ty71, ty72, ty77, ty78, ty79, ty94, ty97, ty108, List.length_append, List.length_take, List.length_drop, List.length_nil, List.length_cons, List.length_replicate, List.length_set, off, offE] <;> omega) | (constructor <;> first | assumption | (simp only [off_addO, ty3, ty4, ty5, ty9, ty24, ty35, ty41, ty42, ty50, ty67, ty69, ty70, ty71, ty72, ty77, ty78, ty79, ty94, ty97, ty108, List.length_append, List.length_take, List.length_drop, List.length_nil, List.length_cons, List.length_replicate, List.length_set, off, offE] <;> omega))) | (refine cond_t ?hc ?_; case hc => first | rfl | assumption | (rw [decide_eq_true_eq]; omega) | (rw [decide_eq_false_iff_not]; omega) | (simp <;> omega)) | (refine cond_f ?hc ?_; case hc => first | rfl | assumption | (rw [decide_eq_true_eq]; omega) | (rw [decide_eq_false_iff_not]; omega) | (simp <;> omega)) | refine same_i ?_)
        conv => whnf
        refine final_h (hp' := []) [] h ?_
        conv => whnf
        refine same_q (by subst h0; unfold kR; rfl) ?_
        exact trivial
      · by_cases h1 : w = 1
        · repeat ((conv => whnf); first | (refine pre_i ?hc ?_; case hc => first | exact (show planOK _ _ _ = true from by kernel_rfl) | assumption | omega | (unfold fits; omega) | decide +kernel | (constructor <;> first | assumption | omega) | (simp only [off_addO, ty3, ty4, ty5, ty9, ty24, ty35, ty41, ty42, ty50, ty67, ty69, ty70, ty71, ty72, ty77, ty78, ty79, ty94, ty97, ty108, off, offE] <;> omega) | (simp only [List.length_append, List.length_take, List.length_drop, List.length_nil, List.length_cons, List.length_replicate, List.length_set, off_addO, off, offE] <;> omega) | (simp only [off_addO, ty3, ty4, ty5, ty9, ty24, ty35, ty41, ty42, ty50, ty67, ty69, ty70, ty71, ty72, ty77, ty78, ty79, ty94, ty97, ty108, List.length_append, List.length_take, List.length_drop, List.length_nil, List.length_cons, List.length_replicate, List.length_set, off, offE] <;> omega) | (constructor <;> first | assumption | (simp only [off_addO, ty3, ty4, ty5, ty9, ty24, ty35, ty41, ty42, ty50, ty67, ty69, ty70, ty71, ty72, ty77, ty78, ty79, ty94, ty97, ty108, List.length_append, List.length_take, List.length_drop, List.length_nil, List.length_cons, List.length_replicate, List.length_set, off, offE] <;> omega))) | (refine cond_t ?hc ?_; case hc => first | rfl | assumption | (rw [decide_eq_true_eq]; omega) | (rw [decide_eq_false_iff_not]; omega) | (simp <;> omega)) | (refine cond_f ?hc ?_; case hc => first | rfl | assumption | (rw [decide_eq_true_eq]; omega) | (rw [decide_eq_false_iff_not]; omega) | (simp <;> omega)) | refine same_i ?_)
          conv => whnf
          refine final_h (hp' := []) [] h ?_
          conv => whnf
          refine same_q (by subst h1; unfold kR; rfl) ?_
          exact trivial
        · repeat ((conv => whnf); first | (refine pre_i ?hc ?_; case hc => first | exact (show planOK _ _ _ = true from by kernel_rfl) | assumption | omega | (unfold fits; omega) | decide +kernel | (constructor <;> first | assumption | omega) | (simp only [off_addO, ty3, ty4, ty5, ty9, ty24, ty35, ty41, ty42, ty50, ty67, ty69, ty70, ty71, ty72, ty77, ty78, ty79, ty94, ty97, ty108, off, offE] <;> omega) | (simp only [List.length_append, List.length_take, List.length_drop, List.length_nil, List.length_cons, List.length_replicate, List.length_set, off_addO, off, offE] <;> omega) | (simp only [off_addO, ty3, ty4, ty5, ty9, ty24, ty35, ty41, ty42, ty50, ty67, ty69, ty70, ty71, ty72, ty77, ty78, ty79, ty94, ty97, ty108, List.length_append, List.length_take, List.length_drop, List.length_nil, List.length_cons, List.length_replicate, List.length_set, off, offE] <;> omega) | (constructor <;> first | assumption | (simp only [off_addO, ty3, ty4, ty5, ty9, ty24, ty35, ty41, ty42, ty50, ty67, ty69, ty70, ty71, ty72, ty77, ty78, ty79, ty94, ty97, ty108, List.length_append, List.length_take, List.length_drop, List.length_nil, List.length_cons, List.length_replicate, List.length_set, off, offE] <;> omega))) | (refine cond_t ?hc ?_; case hc => first | rfl | assumption | (rw [decide_eq_true_eq]; omega) | (rw [decide_eq_false_iff_not]; omega) | (simp <;> omega)) | (refine cond_f ?hc ?_; case hc => first | rfl | assumption | (rw [decide_eq_true_eq]; omega) | (rw [decide_eq_false_iff_not]; omega) | (simp <;> omega)) | refine same_i ?_)
          conv => whnf
          refine final_h (hp' := []) [] h ?_
          conv => whnf
          refine same_q (by unfold kR; rw [if_neg h0, if_neg h1]; rfl) ?_
          exact trivial
    · exact h.elim
section
attribute [local irreducible] plusSt minusSt
theorem radd_s : SoundC prog 45 raddS := by
  refine sound_f tys_ok (fnok_cons rmod_s (fnok_cons rplus_s (fnok_cons rless_s (fnok_cons rminus_s fnok_nil)))) rfl func45 rfl call45 (D := pl45) ?_ ?_
  · intro args hp K h
    unfold raddS at h
    split at h
    · exact Nat.le_of_ble_eq_true rfl
    · exact h.elim
  · intro args hp K h
    unfold raddS at h
    split at h
    · rename_i w x y
      obtain ⟨⟨hw, hx, hy, h1, h2⟩, h⟩ := pre_e h
      have hm := Num32.mlim_val hw
      have hl := Num32.mlim_len w
      rw [← hm] at h1 h2 h
      have hp := plusSt_len y hx 8
      repeat ((conv => whnf); first | (refine pre_i ?hc ?_; case hc => first | exact (show planOK _ _ _ = true from by kernel_rfl) | assumption | omega | (unfold fits; omega) | decide +kernel | (constructor <;> first | assumption | omega) | (simp only [off_addO, ty3, ty4, ty5, ty9, ty24, ty35, ty41, ty42, ty50, ty67, ty69, ty70, ty71, ty72, ty77, ty78, ty79, ty94, ty97, ty108, off, offE] <;> omega) | (simp only [List.length_append, List.length_take, List.length_drop, List.length_nil, List.length_cons, List.length_replicate, List.length_set, off_addO, off, offE] <;> omega) | (simp only [off_addO, ty3, ty4, ty5, ty9, ty24, ty35, ty41, ty42, ty50, ty67, ty69, ty70, ty71, ty72, ty77, ty78, ty79, ty94, ty97, ty108, List.length_append, List.length_take, List.length_drop, List.length_nil, List.length_cons, List.length_replicate, List.length_set, off, offE] <;> omega) | (constructor <;> first | assumption | (simp only [off_addO, ty3, ty4, ty5, ty9, ty24, ty35, ty41, ty42, ty50, ty67, ty69, ty70, ty71, ty72, ty77, ty78, ty79, ty94, ty97, ty108, List.length_append, List.length_take, List.length_drop, List.length_nil, List.length_cons, List.length_replicate, List.length_set, off, offE] <;> omega))) | (refine cond_t ?hc ?_; case hc => first | rfl | assumption | (rw [decide_eq_true_eq]; omega) | (rw [decide_eq_false_iff_not]; omega) | (simp <;> omega)) | (refine cond_f ?hc ?_; case hc => first | rfl | assumption | (rw [decide_eq_true_eq]; omega) | (rw [decide_eq_false_iff_not]; omega) | (simp <;> omega)) | refine same_i ?_)
      conv => whnf
      refine cond_i (fun hc => ?_) (fun hc => ?_)
      · have hc1 : ¬ (plusSt x y 8).2 = 1 := by
          have : (decide ((plusSt x y 8).2 = 1) == false) = true := hc
          simpa using this
        have hd : decide ((plusSt x y 8).2 = UInt64.ofNat 1) = false := decide_eq_false hc1
        repeat ((conv => whnf); first | (refine pre_i ?hc ?_; case hc => first | exact (show planOK _ _ _ = true from by kernel_rfl) | assumption | omega | (unfold fits; omega) | decide +kernel | (constructor <;> first | assumption | omega) | (simp only [off_addO, ty3, ty4, ty5, ty9, ty24, ty35, ty41, ty42, ty50, ty67, ty69, ty70, ty71, ty72, ty77, ty78, ty79, ty94, ty97, ty108, off, offE] <;> omega) | (simp only [List.length_append, List.length_take, List.length_drop, List.length_nil, List.length_cons, List.length_replicate, List.length_set, off_addO, off, offE] <;> omega) | (simp only [off_addO, ty3, ty4, ty5, ty9, ty24, ty35, ty41, ty42, ty50, ty67, ty69, ty70, ty71, ty72, ty77, ty78, ty79, ty94, ty97, ty108, List.length_append, List.length_take, List.length_drop, List.length_nil, List.length_cons, List.length_replicate, List.length_set, off, offE] <;> omega) | (constructor <;> first | assumption | (simp only [off_addO, ty3, ty4, ty5, ty9, ty24, ty35, ty41, ty42, ty50, ty67, ty69, ty70, ty71, ty72, ty77, ty78, ty79, ty94, ty97, ty108, List.length_append, List.length_take, List.length_drop, List.length_nil, List.length_cons, List.length_replicate, List.length_set, off, offE] <;> omega))) | (refine cond_t ?hc ?_; case hc => first | rfl | assumption | (rw [decide_eq_true_eq]; omega) | (rw [decide_eq_false_iff_not]; omega) | (simp <;> omega) | exact hd | (rw [hd]; rfl)) | (refine cond_f ?hc ?_; case hc => first | rfl | assumption | (rw [decide_eq_true_eq]; omega) | (rw [decide_eq_false_iff_not]; omega) | (simp <;> omega) | exact hd | (rw [hd]; rfl)) | refine same_i ?_)
        conv => whnf
        by_cases hb : Num32.val (plusSt x y 8).1 < Num32.val (Num32.mlim w)
        · have hbd := decide_eq_true hb
          repeat ((conv => whnf); first | (refine pre_i ?hc ?_; case hc => first | exact (show planOK _ _ _ = true from by kernel_rfl) | assumption | omega | (unfold fits; omega) | decide +kernel | (constructor <;> first | assumption | omega) | (simp only [off_addO, ty3, ty4, ty5, ty9, ty24, ty35, ty41, ty42, ty50, ty67, ty69, ty70, ty71, ty72, ty77, ty78, ty79, ty94, ty97, ty108, off, offE] <;> omega) | (simp only [List.length_append, List.length_take, List.length_drop, List.length_nil, List.length_cons, List.length_replicate, List.length_set, off_addO, off, offE] <;> omega) | (simp only [off_addO, ty3, ty4, ty5, ty9, ty24, ty35, ty41, ty42, ty50, ty67, ty69, ty70, ty71, ty72, ty77, ty78, ty79, ty94, ty97, ty108, List.length_append, List.length_take, List.length_drop, List.length_nil, List.length_cons, List.length_replicate, List.length_set, off, offE] <;> omega) | (constructor <;> first | assumption | (simp only [off_addO, ty3, ty4, ty5, ty9, ty24, ty35, ty41, ty42, ty50, ty67, ty69, ty70, ty71, ty72, ty77, ty78, ty79, ty94, ty97, ty108, List.length_append, List.length_take, List.length_drop, List.length_nil, List.length_cons, List.length_replicate, List.length_set, off, offE] <;> omega))) | (refine cond_t ?hc ?_; case hc => first | rfl | assumption | (rw [decide_eq_true_eq]; omega) | (rw [decide_eq_false_iff_not]; omega) | (simp <;> omega) | exact hbd | (rw [hbd]; rfl) | exact hd | (rw [hd]; rfl)) | (refine cond_f ?hc ?_; case hc => first | rfl | assumption | (rw [decide_eq_true_eq]; omega) | (rw [decide_eq_false_iff_not]; omega) | (simp <;> omega) | exact hbd | (rw [hbd]; rfl) | exact hd | (rw [hd]; rfl)) | refine same_i ?_)
          conv => whnf
          rw [radd_z hx hy hc1 hb]
          refine final_h (hp' := []) [] h ?_
          repeat ((conv => whnf); first | (refine pre_i ?hc ?_; case hc => first | exact (show planOK _ _ _ = true from by kernel_rfl) | assumption | omega | (unfold fits; omega) | decide +kernel | (constructor <;> first | assumption | omega) | (simp only [off_addO, ty3, ty4, ty5, ty9, ty24, ty35, ty41, ty42, ty50, ty67, ty69, ty70, ty71, ty72, ty77, ty78, ty79, ty94, ty97, ty108, off, offE] <;> omega) | (simp only [List.length_append, List.length_take, List.length_drop, List.length_nil, List.length_cons, List.length_replicate, List.length_set, off_addO, off, offE] <;> omega) | (simp only [off_addO, ty3, ty4, ty5, ty9, ty24, ty35, ty41, ty42, ty50, ty67, ty69, ty70, ty71, ty72, ty77, ty78, ty79, ty94, ty97, ty108, List.length_append, List.length_take, List.length_drop, List.length_nil, List.length_cons, List.length_replicate, List.length_set, off, offE] <;> omega) | (constructor <;> first | assumption | (simp only [off_addO, ty3, ty4, ty5, ty9, ty24, ty35, ty41, ty42, ty50, ty67, ty69, ty70, ty71, ty72, ty77, ty78, ty79, ty94, ty97, ty108, List.length_append, List.length_take, List.length_drop, List.length_nil, List.length_cons, List.length_replicate, List.length_set, off, offE] <;> omega))) | (refine cond_t ?hc ?_; case hc => first | rfl | assumption | (rw [decide_eq_true_eq]; omega) | (rw [decide_eq_false_iff_not]; omega) | (simp <;> omega)) | (refine cond_f ?hc ?_; case hc => first | rfl | assumption | (rw [decide_eq_true_eq]; omega) | (rw [decide_eq_false_iff_not]; omega) | (simp <;> omega)) | refine same_i ?_)
          exact trivial
        · have hbd := decide_eq_false hb
          repeat ((conv => whnf); first | (refine pre_i ?hc ?_; case hc => first | exact (show planOK _ _ _ = true from by kernel_rfl) | assumption | omega | (unfold fits; omega) | decide +kernel | (constructor <;> first | assumption | omega) | (simp only [off_addO, ty3, ty4, ty5, ty9, ty24, ty35, ty41, ty42, ty50, ty67, ty69, ty70, ty71, ty72, ty77, ty78, ty79, ty94, ty97, ty108, off, offE] <;> omega) | (simp only [List.length_append, List.length_take, List.length_drop, List.length_nil, List.length_cons, List.length_replicate, List.length_set, off_addO, off, offE] <;> omega) | (simp only [off_addO, ty3, ty4, ty5, ty9, ty24, ty35, ty41, ty42, ty50, ty67, ty69, ty70, ty71, ty72, ty77, ty78, ty79, ty94, ty97, ty108, List.length_append, List.length_take, List.length_drop, List.length_nil, List.length_cons, List.length_replicate, List.length_set, off, offE] <;> omega) | (constructor <;> first | assumption | (simp only [off_addO, ty3, ty4, ty5, ty9, ty24, ty35, ty41, ty42, ty50, ty67, ty69, ty70, ty71, ty72, ty77, ty78, ty79, ty94, ty97, ty108, List.length_append, List.length_take, List.length_drop, List.length_nil, List.length_cons, List.length_replicate, List.length_set, off, offE] <;> omega))) | (refine cond_t ?hc ?_; case hc => first | rfl | assumption | (rw [decide_eq_true_eq]; omega) | (rw [decide_eq_false_iff_not]; omega) | (simp <;> omega) | exact hbd | (rw [hbd]; rfl) | exact hd | (rw [hd]; rfl)) | (refine cond_f ?hc ?_; case hc => first | rfl | assumption | (rw [decide_eq_true_eq]; omega) | (rw [decide_eq_false_iff_not]; omega) | (simp <;> omega) | exact hbd | (rw [hbd]; rfl) | exact hd | (rw [hd]; rfl)) | refine same_i ?_)
          conv => whnf
          rw [radd_w hx hy hl h1 h2 (.inr hb)]
          refine final_h (hp' := []) [] h ?_
          repeat ((conv => whnf); first | (refine pre_i ?hc ?_; case hc => first | exact (show planOK _ _ _ = true from by kernel_rfl) | assumption | omega | (unfold fits; omega) | decide +kernel | (constructor <;> first | assumption | omega) | (simp only [off_addO, ty3, ty4, ty5, ty9, ty24, ty35, ty41, ty42, ty50, ty67, ty69, ty70, ty71, ty72, ty77, ty78, ty79, ty94, ty97, ty108, off, offE] <;> omega) | (simp only [List.length_append, List.length_take, List.length_drop, List.length_nil, List.length_cons, List.length_replicate, List.length_set, off_addO, off, offE] <;> omega) | (simp only [off_addO, ty3, ty4, ty5, ty9, ty24, ty35, ty41, ty42, ty50, ty67, ty69, ty70, ty71, ty72, ty77, ty78, ty79, ty94, ty97, ty108, List.length_append, List.length_take, List.length_drop, List.length_nil, List.length_cons, List.length_replicate, List.length_set, off, offE] <;> omega) | (constructor <;> first | assumption | (simp only [off_addO, ty3, ty4, ty5, ty9, ty24, ty35, ty41, ty42, ty50, ty67, ty69, ty70, ty71, ty72, ty77, ty78, ty79, ty94, ty97, ty108, List.length_append, List.length_take, List.length_drop, List.length_nil, List.length_cons, List.length_replicate, List.length_set, off, offE] <;> omega))) | (refine cond_t ?hc ?_; case hc => first | rfl | assumption | (rw [decide_eq_true_eq]; omega) | (rw [decide_eq_false_iff_not]; omega) | (simp <;> omega)) | (refine cond_f ?hc ?_; case hc => first | rfl | assumption | (rw [decide_eq_true_eq]; omega) | (rw [decide_eq_false_iff_not]; omega) | (simp <;> omega)) | refine same_i ?_)
          exact trivial
      · have hc1 : (plusSt x y 8).2 = 1 := by
          have : (decide ((plusSt x y 8).2 = 1) == false) = false := hc
          simpa using this
        have hd : decide ((plusSt x y 8).2 = UInt64.ofNat 1) = true := decide_eq_true hc1
        repeat ((conv => whnf); first | (refine pre_i ?hc ?_; case hc => first | exact (show planOK _ _ _ = true from by kernel_rfl) | assumption | omega | (unfold fits; omega) | decide +kernel | (constructor <;> first | assumption | omega) | (simp only [off_addO, ty3, ty4, ty5, ty9, ty24, ty35, ty41, ty42, ty50, ty67, ty69, ty70, ty71, ty72, ty77, ty78, ty79, ty94, ty97, ty108, off, offE] <;> omega) | (simp only [List.length_append, List.length_take, List.length_drop, List.length_nil, List.length_cons, List.length_replicate, List.length_set, off_addO, off, offE] <;> omega) | (simp only [off_addO, ty3, ty4, ty5, ty9, ty24, ty35, ty41, ty42, ty50, ty67, ty69, ty70, ty71, ty72, ty77, ty78, ty79, ty94, ty97, ty108, List.length_append, List.length_take, List.length_drop, List.length_nil, List.length_cons, List.length_replicate, List.length_set, off, offE] <;> omega) | (constructor <;> first | assumption | (simp only [off_addO, ty3, ty4, ty5, ty9, ty24, ty35, ty41, ty42, ty50, ty67, ty69, ty70, ty71, ty72, ty77, ty78, ty79, ty94, ty97, ty108, List.length_append, List.length_take, List.length_drop, List.length_nil, List.length_cons, List.length_replicate, List.length_set, off, offE] <;> omega))) | (refine cond_t ?hc ?_; case hc => first | rfl | assumption | (rw [decide_eq_true_eq]; omega) | (rw [decide_eq_false_iff_not]; omega) | (simp <;> omega) | exact hd | (rw [hd]; rfl)) | (refine cond_f ?hc ?_; case hc => first | rfl | assumption | (rw [decide_eq_true_eq]; omega) | (rw [decide_eq_false_iff_not]; omega) | (simp <;> omega) | exact hd | (rw [hd]; rfl)) | refine same_i ?_)
        conv => whnf
        rw [radd_w hx hy hl h1 h2 (.inl hc1)]
        refine final_h (hp' := []) [] h ?_
        repeat ((conv => whnf); first | (refine pre_i ?hc ?_; case hc => first | exact (show planOK _ _ _ = true from by kernel_rfl) | assumption | omega | (unfold fits; omega) | decide +kernel | (constructor <;> first | assumption | omega) | (simp only [off_addO, ty3, ty4, ty5, ty9, ty24, ty35, ty41, ty42, ty50, ty67, ty69, ty70, ty71, ty72, ty77, ty78, ty79, ty94, ty97, ty108, off, offE] <;> omega) | (simp only [List.length_append, List.length_take, List.length_drop, List.length_nil, List.length_cons, List.length_replicate, List.length_set, off_addO, off, offE] <;> omega) | (simp only [off_addO, ty3, ty4, ty5, ty9, ty24, ty35, ty41, ty42, ty50, ty67, ty69, ty70, ty71, ty72, ty77, ty78, ty79, ty94, ty97, ty108, List.length_append, List.length_take, List.length_drop, List.length_nil, List.length_cons, List.length_replicate, List.length_set, off, offE] <;> omega) | (constructor <;> first | assumption | (simp only [off_addO, ty3, ty4, ty5, ty9, ty24, ty35, ty41, ty42, ty50, ty67, ty69, ty70, ty71, ty72, ty77, ty78, ty79, ty94, ty97, ty108, List.length_append, List.length_take, List.length_drop, List.length_nil, List.length_cons, List.length_replicate, List.length_set, off, offE] <;> omega))) | (refine cond_t ?hc ?_; case hc => first | rfl | assumption | (rw [decide_eq_true_eq]; omega) | (rw [decide_eq_false_iff_not]; omega) | (simp <;> omega)) | (refine cond_f ?hc ?_; case hc => first | rfl | assumption | (rw [decide_eq_true_eq]; omega) | (rw [decide_eq_false_iff_not]; omega) | (simp <;> omega)) | refine same_i ?_)
        exact trivial
    · exact h.elim
theorem rsub_s : SoundC prog 46 rsubS := by
  refine sound_f tys_ok (fnok_cons rmod_s (fnok_cons rplus_s (fnok_cons rless_s (fnok_cons rminus_s fnok_nil)))) rfl func46 rfl call46 (D := pl46) ?_ ?_
  · intro args hp K h
    unfold rsubS at h
    split at h
    · exact Nat.le_of_ble_eq_true rfl
    · exact h.elim
  · intro args hp K h
    unfold rsubS at h
    split at h
    · rename_i w x y
      obtain ⟨⟨hw, hx, hy, h1, h2⟩, h⟩ := pre_e h
      have hm := Num32.mlim_val hw
      have hl := Num32.mlim_len w
      rw [← hm] at h1 h2 h
      have hp := plusSt_len (Num32.mlim w) hx 8
      by_cases hb : Num32.val x < Num32.val y
      · repeat ((conv => whnf); first | (refine pre_i ?hc ?_; case hc => first | exact (show planOK _ _ _ = true from by kernel_rfl) | assumption | omega | (unfold fits; omega) | decide +kernel | (constructor <;> first | assumption | omega) | (simp only [off_addO, ty3, ty4, ty5, ty9, ty24, ty35, ty41, ty42, ty50, ty67, ty69, ty70, ty71, ty72, ty77, ty78, ty79, ty94, ty97, ty108, off, offE] <;> omega) | (simp only [List.length_append, List.length_take, List.length_drop, List.length_nil, List.length_cons, List.length_replicate, List.length_set, off_addO, off, offE] <;> omega) | (simp only [off_addO, ty3, ty4, ty5, ty9, ty24, ty35, ty41, ty42, ty50, ty67, ty69, ty70, ty71, ty72, ty77, ty78, ty79, ty94, ty97, ty108, List.length_append, List.length_take, List.length_drop, List.length_nil, List.length_cons, List.length_replicate, List.length_set, off, offE] <;> omega) | (constructor <;> first | assumption | (simp only [off_addO, ty3, ty4, ty5, ty9, ty24, ty35, ty41, ty42, ty50, ty67, ty69, ty70, ty71, ty72, ty77, ty78, ty79, ty94, ty97, ty108, List.length_append, List.length_take, List.length_drop, List.length_nil, List.length_cons, List.length_replicate, List.length_set, off, offE] <;> omega))) | (refine cond_t ?hc ?_; case hc => first | rfl | assumption | (rw [decide_eq_true_eq]; omega) | (rw [decide_eq_false_iff_not]; omega) | (simp <;> omega)) | (refine cond_f ?hc ?_; case hc => first | rfl | assumption | (rw [decide_eq_true_eq]; omega) | (rw [decide_eq_false_iff_not]; omega) | (simp <;> omega)) | refine same_i ?_)
        conv => whnf
        rw [rsub_w hx hy hl h2 hb]
        refine final_h (hp' := []) [] h ?_
        repeat ((conv => whnf); first | (refine pre_i ?hc ?_; case hc => first | exact (show planOK _ _ _ = true from by kernel_rfl) | assumption | omega | (unfold fits; omega) | decide +kernel | (constructor <;> first | assumption | omega) | (simp only [off_addO, ty3, ty4, ty5, ty9, ty24, ty35, ty41, ty42, ty50, ty67, ty69, ty70, ty71, ty72, ty77, ty78, ty79, ty94, ty97, ty108, off, offE] <;> omega) | (simp only [List.length_append, List.length_take, List.length_drop, List.length_nil, List.length_cons, List.length_replicate, List.length_set, off_addO, off, offE] <;> omega) | (simp only [off_addO, ty3, ty4, ty5, ty9, ty24, ty35, ty41, ty42, ty50, ty67, ty69, ty70, ty71, ty72, ty77, ty78, ty79, ty94, ty97, ty108, List.length_append, List.length_take, List.length_drop, List.length_nil, List.length_cons, List.length_replicate, List.length_set, off, offE] <;> omega) | (constructor <;> first | assumption | (simp only [off_addO, ty3, ty4, ty5, ty9, ty24, ty35, ty41, ty42, ty50, ty67, ty69, ty70, ty71, ty72, ty77, ty78, ty79, ty94, ty97, ty108, List.length_append, List.length_take, List.length_drop, List.length_nil, List.length_cons, List.length_replicate, List.length_set, off, offE] <;> omega))) | (refine cond_t ?hc ?_; case hc => first | rfl | assumption | (rw [decide_eq_true_eq]; omega) | (rw [decide_eq_false_iff_not]; omega) | (simp <;> omega)) | (refine cond_f ?hc ?_; case hc => first | rfl | assumption | (rw [decide_eq_true_eq]; omega) | (rw [decide_eq_false_iff_not]; omega) | (simp <;> omega)) | refine same_i ?_)
        exact trivial
      · repeat ((conv => whnf); first | (refine pre_i ?hc ?_; case hc => first | exact (show planOK _ _ _ = true from by kernel_rfl) | assumption | omega | (unfold fits; omega) | decide +kernel | (constructor <;> first | assumption | omega) | (simp only [off_addO, ty3, ty4, ty5, ty9, ty24, ty35, ty41, ty42, ty50, ty67, ty69, ty70, ty71, ty72, ty77, ty78, ty79, ty94, ty97, ty108, off, offE] <;> omega) | (simp only [List.length_append, List.length_take, List.length_drop, List.length_nil, List.length_cons, List.length_replicate, List.length_set, off_addO, off, offE] <;> omega) | (simp only [off_addO, ty3, ty4, ty5, ty9, ty24, ty35, ty41, ty42, ty50, ty67, ty69, ty70, ty71, ty72, ty77, ty78, ty79, ty94, ty97, ty108, List.length_append, List.length_take, List.length_drop, List.length_nil, List.length_cons, List.length_replicate, List.length_set, off, offE] <;> omega) | (constructor <;> first | assumption | (simp only [off_addO, ty3, ty4, ty5, ty9, ty24, ty35, ty41, ty42, ty50, ty67, ty69, ty70, ty71, ty72, ty77, ty78, ty79, ty94, ty97, ty108, List.length_append, List.length_take, List.length_drop, List.length_nil, List.length_cons, List.length_replicate, List.length_set, off, offE] <;> omega))) | (refine cond_t ?hc ?_; case hc => first | rfl | assumption | (rw [decide_eq_true_eq]; omega) | (rw [decide_eq_false_iff_not]; omega) | (simp <;> omega)) | (refine cond_f ?hc ?_; case hc => first | rfl | assumption | (rw [decide_eq_true_eq]; omega) | (rw [decide_eq_false_iff_not]; omega) | (simp <;> omega)) | refine same_i ?_)
        conv => whnf
        rw [rsub_z hx hy h1 hb]
        refine final_h (hp' := []) [] h ?_
        repeat ((conv => whnf); first | (refine pre_i ?hc ?_; case hc => first | exact (show planOK _ _ _ = true from by kernel_rfl) | assumption | omega | (unfold fits; omega) | decide +kernel | (constructor <;> first | assumption | omega) | (simp only [off_addO, ty3, ty4, ty5, ty9, ty24, ty35, ty41, ty42, ty50, ty67, ty69, ty70, ty71, ty72, ty77, ty78, ty79, ty94, ty97, ty108, off, offE] <;> omega) | (simp only [List.length_append, List.length_take, List.length_drop, List.length_nil, List.length_cons, List.length_replicate, List.length_set, off_addO, off, offE] <;> omega) | (simp only [off_addO, ty3, ty4, ty5, ty9, ty24, ty35, ty41, ty42, ty50, ty67, ty69, ty70, ty71, ty72, ty77, ty78, ty79, ty94, ty97, ty108, List.length_append, List.length_take, List.length_drop, List.length_nil, List.length_cons, List.length_replicate, List.length_set, off, offE] <;> omega) | (constructor <;> first | assumption | (simp only [off_addO, ty3, ty4, ty5, ty9, ty24, ty35, ty41, ty42, ty50, ty67, ty69, ty70, ty71, ty72, ty77, ty78, ty79, ty94, ty97, ty108, List.length_append, List.length_take, List.length_drop, List.length_nil, List.length_cons, List.length_replicate, List.length_set, off, offE] <;> omega))) | (refine cond_t ?hc ?_; case hc => first | rfl | assumption | (rw [decide_eq_true_eq]; omega) | (rw [decide_eq_false_iff_not]; omega) | (simp <;> omega)) | (refine cond_f ?hc ?_; case hc => first | rfl | assumption | (rw [decide_eq_true_eq]; omega) | (rw [decide_eq_false_iff_not]; omega) | (simp <;> omega)) | refine same_i ?_)
        exact trivial
    · exact h.elim
end
theorem put_s : SoundC prog 44 putS := by
  refine sound_f tys_ok fnok_nil rfl func44 rfl call44 (D := pl44) ?_ ?_
  · intro args hp K h
    unfold putS at h
    split at h
    · exact Nat.le_of_ble_eq_true rfl
    · exact h.elim
  · intro args hp K h
    unfold putS at h
    split at h
    · rename_i x
      obtain ⟨hx, h⟩ := pre_e h
      repeat ((conv => whnf); first | (refine pre_i ?hc ?_; case hc => first | exact (show planOK _ _ _ = true from by kernel_rfl) | assumption | omega | (unfold fits; omega) | decide +kernel | (constructor <;> first | assumption | omega) | (simp only [off_addO, ty3, ty4, ty5, ty9, ty24, ty35, ty41, ty42, ty50, ty67, ty69, ty70, ty71, ty72, ty77, ty78, ty79, ty94, ty97, ty108, off, offE] <;> omega) | (simp only [List.length_append, List.length_take, List.length_drop, List.length_nil, List.length_cons, List.length_replicate, List.length_set, off_addO, off, offE] <;> omega) | (simp only [off_addO, ty3, ty4, ty5, ty9, ty24, ty35, ty41, ty42, ty50, ty67, ty69, ty70, ty71, ty72, ty77, ty78, ty79, ty94, ty97, ty108, List.length_append, List.length_take, List.length_drop, List.length_nil, List.length_cons, List.length_replicate, List.length_set, off, offE] <;> omega) | (constructor <;> first | assumption | (simp only [off_addO, ty3, ty4, ty5, ty9, ty24, ty35, ty41, ty42, ty50, ty67, ty69, ty70, ty71, ty72, ty77, ty78, ty79, ty94, ty97, ty108, List.length_append, List.length_take, List.length_drop, List.length_nil, List.length_cons, List.length_replicate, List.length_set, off, offE] <;> omega))) | (refine cond_t ?hc ?_; case hc => first | rfl | assumption | (rw [decide_eq_true_eq]; omega) | (rw [decide_eq_false_iff_not]; omega) | (simp <;> omega)) | (refine cond_f ?hc ?_; case hc => first | rfl | assumption | (rw [decide_eq_true_eq]; omega) | (rw [decide_eq_false_iff_not]; omega) | (simp <;> omega)) | refine same_i ?_)
      conv => whnf
      refine loop_h (Ix 32) (fun q => ⟨[(1, .ptr 0 0 0 []), (3, .sl 1 0 0 [] 32 32), (4, .int q.i)], [.mk 72 [.arr32 8 x], .mk 5 [.arr8 32 (putSt x q.i)]]⟩)
        (fun q => 32 - q.i) ⟨0, Nat.zero_le _⟩ [0, 1] ?_ ?_
      · repeat ((conv => whnf); first | (refine pre_i ?hc ?_; case hc => first | exact (show planOK _ _ _ = true from by kernel_rfl) | assumption | omega | (unfold fits; omega) | decide +kernel | (constructor <;> first | assumption | omega) | (simp only [off_addO, ty3, ty4, ty5, ty9, ty24, ty35, ty41, ty42, ty50, ty67, ty69, ty70, ty71, ty72, ty77, ty78, ty79, ty94, ty97, ty108, off, offE] <;> omega) | (simp only [List.length_append, List.length_take, List.length_drop, List.length_nil, List.length_cons, List.length_replicate, List.length_set, off_addO, off, offE] <;> omega) | (simp only [off_addO, ty3, ty4, ty5, ty9, ty24, ty35, ty41, ty42, ty50, ty67, ty69, ty70, ty71, ty72, ty77, ty78, ty79, ty94, ty97, ty108, List.length_append, List.length_take, List.length_drop, List.length_nil, List.length_cons, List.length_replicate, List.length_set, off, offE] <;> omega) | (constructor <;> first | assumption | (simp only [off_addO, ty3, ty4, ty5, ty9, ty24, ty35, ty41, ty42, ty50, ty67, ty69, ty70, ty71, ty72, ty77, ty78, ty79, ty94, ty97, ty108, List.length_append, List.length_take, List.length_drop, List.length_nil, List.length_cons, List.length_replicate, List.length_set, off, offE] <;> omega))) | (refine cond_t ?hc ?_; case hc => first | rfl | assumption | (rw [decide_eq_true_eq]; omega) | (rw [decide_eq_false_iff_not]; omega) | (simp <;> omega)) | (refine cond_f ?hc ?_; case hc => first | rfl | assumption | (rw [decide_eq_true_eq]; omega) | (rw [decide_eq_false_iff_not]; omega) | (simp <;> omega)) | refine same_i ?_)
        exact trivial
      · intro q
        have hi := q.hi
        have hl := putSt_len x q.i
        by_cases h4 : q.i < 32
        · have hq0 : 0 ≤ (q.i : Int).tdiv 4 := Int.tdiv_nonneg (by omega) (by omega)
          have hq1 : (q.i : Int).tdiv 4 ≤ 7 := by rw [Int.tdiv_eq_ediv_of_nonneg (by omega)]; omega
          have hr0 : 0 ≤ (q.i : Int).tmod 4 := Int.tmod_nonneg _ (by omega)
          have hr1 : (q.i : Int).tmod 4 < 4 := Int.tmod_lt_of_pos _ (by omega)
          have hI : ((q.i : Int)).toNat = q.i := Int.toNat_natCast _
          repeat ((conv => whnf); first | (refine pre_i ?hc ?_; case hc => first | exact (show planOK _ _ _ = true from by kernel_rfl) | assumption | omega | (unfold fits; omega) | decide +kernel | (constructor <;> first | assumption | omega) | (simp only [off_addO, ty3, ty4, ty5, ty9, ty24, ty35, ty41, ty42, ty50, ty67, ty69, ty70, ty71, ty72, ty77, ty78, ty79, ty94, ty97, ty108, off, offE] <;> omega) | (simp only [List.length_append, List.length_take, List.length_drop, List.length_nil, List.length_cons, List.length_replicate, List.length_set, off_addO, off, offE] <;> omega) | (simp only [off_addO, ty3, ty4, ty5, ty9, ty24, ty35, ty41, ty42, ty50, ty67, ty69, ty70, ty71, ty72, ty77, ty78, ty79, ty94, ty97, ty108, List.length_append, List.length_take, List.length_drop, List.length_nil, List.length_cons, List.length_replicate, List.length_set, off, offE] <;> omega) | (constructor <;> first | assumption | (simp only [off_addO, ty3, ty4, ty5, ty9, ty24, ty35, ty41, ty42, ty50, ty67, ty69, ty70, ty71, ty72, ty77, ty78, ty79, ty94, ty97, ty108, List.length_append, List.length_take, List.length_drop, List.length_nil, List.length_cons, List.length_replicate, List.length_set, off, offE] <;> omega))) | (refine cond_t ?hc ?_; case hc => first | rfl | assumption | (rw [decide_eq_true_eq]; omega) | (rw [decide_eq_false_iff_not]; omega) | (simp <;> omega)) | (refine cond_f ?hc ?_; case hc => first | rfl | assumption | (rw [decide_eq_true_eq]; omega) | (rw [decide_eq_false_iff_not]; omega) | (simp <;> omega)) | refine same_i ?_)
          conv => whnf
          refine ⟨⟨q.i + 1, h4⟩, [0, 1], ?_, ?_⟩
          · show 32 - (q.i + 1) < 32 - q.i
            omega
          · repeat ((conv => whnf); first | (refine pre_i ?hc ?_; case hc => first | exact (show planOK _ _ _ = true from by kernel_rfl) | assumption | omega | (unfold fits; omega) | decide +kernel | (constructor <;> first | assumption | omega) | (simp only [off_addO, ty3, ty4, ty5, ty9, ty24, ty35, ty41, ty42, ty50, ty67, ty69, ty70, ty71, ty72, ty77, ty78, ty79, ty94, ty97, ty108, off, offE] <;> omega) | (simp only [List.length_append, List.length_take, List.length_drop, List.length_nil, List.length_cons, List.length_replicate, List.length_set, off_addO, off, offE] <;> omega) | (simp only [off_addO, ty3, ty4, ty5, ty9, ty24, ty35, ty41, ty42, ty50, ty67, ty69, ty70, ty71, ty72, ty77, ty78, ty79, ty94, ty97, ty108, List.length_append, List.length_take, List.length_drop, List.length_nil, List.length_cons, List.length_replicate, List.length_set, off, offE] <;> omega) | (constructor <;> first | assumption | (simp only [off_addO, ty3, ty4, ty5, ty9, ty24, ty35, ty41, ty42, ty50, ty67, ty69, ty70, ty71, ty72, ty77, ty78, ty79, ty94, ty97, ty108, List.length_append, List.length_take, List.length_drop, List.length_nil, List.length_cons, List.length_replicate, List.length_set, off, offE] <;> omega))) | (refine cond_t ?hc ?_; case hc => first | rfl | assumption | (rw [decide_eq_true_eq]; omega) | (rw [decide_eq_false_iff_not]; omega) | (simp <;> omega)) | (refine cond_f ?hc ?_; case hc => first | rfl | assumption | (rw [decide_eq_true_eq]; omega) | (rw [decide_eq_false_iff_not]; omega) | (simp <;> omega)) | refine same_i ?_)
            exact trivial
        · have e4 : q.i = 32 := by omega
          have eb : List.take 32 (List.drop (off []) (putSt x q.i)) = beB 32 (Num32.val x) := by
            rw [e4, put_val hx]
            exact List.take_of_length_le (Nat.le_of_eq (beB_len 32 _))
          repeat ((conv => whnf); first | (refine pre_i ?hc ?_; case hc => first | exact (show planOK _ _ _ = true from by kernel_rfl) | assumption | omega | (unfold fits; omega) | decide +kernel | (constructor <;> first | assumption | omega) | (simp only [off_addO, ty3, ty4, ty5, ty9, ty24, ty35, ty41, ty42, ty50, ty67, ty69, ty70, ty71, ty72, ty77, ty78, ty79, ty94, ty97, ty108, off, offE] <;> omega) | (simp only [List.length_append, List.length_take, List.length_drop, List.length_nil, List.length_cons, List.length_replicate, List.length_set, off_addO, off, offE] <;> omega) | (simp only [off_addO, ty3, ty4, ty5, ty9, ty24, ty35, ty41, ty42, ty50, ty67, ty69, ty70, ty71, ty72, ty77, ty78, ty79, ty94, ty97, ty108, List.length_append, List.length_take, List.length_drop, List.length_nil, List.length_cons, List.length_replicate, List.length_set, off, offE] <;> omega) | (constructor <;> first | assumption | (simp only [off_addO, ty3, ty4, ty5, ty9, ty24, ty35, ty41, ty42, ty50, ty67, ty69, ty70, ty71, ty72, ty77, ty78, ty79, ty94, ty97, ty108, List.length_append, List.length_take, List.length_drop, List.length_nil, List.length_cons, List.length_replicate, List.length_set, off, offE] <;> omega))) | (refine cond_t ?hc ?_; case hc => first | rfl | assumption | (rw [decide_eq_true_eq]; omega) | (rw [decide_eq_false_iff_not]; omega) | (simp <;> omega)) | (refine cond_f ?hc ?_; case hc => first | rfl | assumption | (rw [decide_eq_true_eq]; omega) | (rw [decide_eq_false_iff_not]; omega) | (simp <;> omega)) | refine same_i ?_)
          conv => whnf
          rw [eb]
          refine final_h (hp' := []) [] h ?_
          repeat ((conv => whnf); first | (refine pre_i ?hc ?_; case hc => first | exact (show planOK _ _ _ = true from by kernel_rfl) | assumption | omega | (unfold fits; omega) | decide +kernel | (constructor <;> first | assumption | omega) | (simp only [off_addO, ty3, ty4, ty5, ty9, ty24, ty35, ty41, ty42, ty50, ty67, ty69, ty70, ty71, ty72, ty77, ty78, ty79, ty94, ty97, ty108, off, offE] <;> omega) | (simp only [List.length_append, List.length_take, List.length_drop, List.length_nil, List.length_cons, List.length_replicate, List.length_set, off_addO, off, offE] <;> omega) | (simp only [off_addO, ty3, ty4, ty5, ty9, ty24, ty35, ty41, ty42, ty50, ty67, ty69, ty70, ty71, ty72, ty77, ty78, ty79, ty94, ty97, ty108, List.length_append, List.length_take, List.length_drop, List.length_nil, List.length_cons, List.length_replicate, List.length_set, off, offE] <;> omega) | (constructor <;> first | assumption | (simp only [off_addO, ty3, ty4, ty5, ty9, ty24, ty35, ty41, ty42, ty50, ty67, ty69, ty70, ty71, ty72, ty77, ty78, ty79, ty94, ty97, ty108, List.length_append, List.length_take, List.length_drop, List.length_nil, List.length_cons, List.length_replicate, List.length_set, off, offE] <;> omega))) | (refine cond_t ?hc ?_; case hc => first | rfl | assumption | (rw [decide_eq_true_eq]; omega) | (rw [decide_eq_false_iff_not]; omega) | (simp <;> omega)) | (refine cond_f ?hc ?_; case hc => first | rfl | assumption | (rw [decide_eq_true_eq]; omega) | (rw [decide_eq_false_iff_not]; omega) | (simp <;> omega)) | refine same_i ?_)
          exact trivial
    · exact h.elim
end Go.Sym.N
