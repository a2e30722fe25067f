/-
  Contracts of functions of the program, each said of symbolic values, and plain laws; no condition beyond each statement's own.
-/
import Derived.Test.YtofhjelmgekofaaG12
import Derived.Test.YtofhjelmgekofaaG11
import GoSem.Core.Value
set_option linter.unusedSimpArgs false
set_option linter.unusedVariables false
namespace Go.Sym.N
open Go Go.Proofs.Try Go.Sym.Num
open Go.Sym.Num32 (plusSt minusSt plusSt_len minusSt_len plusSt_val minusSt_val minus_of)
set_option maxRecDepth 100000
attribute [local irreducible] Num32.lim Num32.val Num32.mlim md beB beV

/-- the orders of the drawn regions of halberdref9.plus -/
def pl74 : List (Nat × List PStep) := [(5, [⟨0, []⟩, ⟨1, []⟩, ⟨2, []⟩, ⟨3, []⟩, ⟨4, [0, 1, 2, 3]⟩, ⟨5, [0, 1, 2, 3]⟩, ⟨6, [0, 1, 2, 3]⟩, ⟨7, [0, 1, 2, 3]⟩, ⟨8, []⟩, ⟨9, [0, 1, 2, 3, 4, 5, 6, 7, 8]⟩, ⟨10, []⟩, ⟨11, []⟩])]
/-- the orders of the drawn regions of halberdref9.minus -/
def pl68 : List (Nat × List PStep) := [(5, [⟨0, []⟩, ⟨1, []⟩, ⟨2, []⟩, ⟨3, []⟩, ⟨4, [0, 1, 2, 3]⟩, ⟨5, [0, 1, 2, 3]⟩, ⟨6, [0, 1, 2, 3]⟩, ⟨7, [0, 1, 2, 3]⟩, ⟨8, []⟩, ⟨9, [0, 1, 2, 3, 4, 5, 6, 7, 8]⟩, ⟨10, []⟩, ⟨11, []⟩])]
/-- the orders of the drawn regions of halberdref9.add -/
def pl45 : List (Nat × List PStep) := []
/-- the orders of the drawn regions of halberdref9.sub -/
def pl46 : List (Nat × List PStep) := [(2, [⟨0, []⟩, ⟨1, [0]⟩, ⟨7, [0, 1]⟩, ⟨2, [0, 7]⟩, ⟨3, [7]⟩, ⟨4, [7]⟩, ⟨5, [7]⟩, ⟨6, [7, 5]⟩, ⟨8, [6]⟩, ⟨9, []⟩])]
/-- the orders of the drawn regions of halberdref9.square -/
def pl84 : List (Nat × List PStep) := []
/-- the orders of the drawn regions of halberdref9.inverse -/
def pl87 : List (Nat × List PStep) := []
/-- the orders of the drawn regions of halberdref9.put -/
def pl44 : List (Nat × List PStep) := []

/-- what the reference's constants are -/
def sqL (w : Int) : List UInt32 := if w = 0 then [0x3, 0x0, 0xffffffff, 0xfffffffb, 0xfffffffe, 0xffffffff, 0xfffffffd, 0x4] else if w = 1 then [0xbe79eea2, 0x83244c95, 0x49bd6fa6, 0x4699799c, 0x2b6bec59, 0x2845b239, 0xf3d95620, 0x66e12d94] else [0x5a4, 0x0, 0x0, 0x0, 0x0, 0x0, 0x0, 0x0]
def kR (w : Int) : UInt64 := if w = 0 then 1 else if w = 1 then 3993025615 else 678152731
theorem sqL_eq {w : Int} (h : 0 ≤ w ∧ w ≤ 2) : sqL w = Num32.lim (B4 * B4 % md w) := by
  rcases w3 h with rfl | rfl | rfl <;> decide +kernel
theorem kR_lt {w : Int} (h : 0 ≤ w ∧ w ≤ 2) : (kR w).toNat < 4294967296 := by
  rcases w3 h with rfl | rfl | rfl <;> decide +kernel
theorem kR_ok {w : Int} (h : 0 ≤ w ∧ w ≤ 2) : ((kR w).toNat * ((Num32.mlim w).getD 0 0).toNat) % 4294967296 = 4294967295 := by
  rcases w3 h with rfl | rfl | rfl <;> decide +kernel
theorem u64pos {x : UInt64} : decide (0 < x) = decide (0 < x.toNat) := by rw [decide_eq_decide, UInt64.lt_iff_toNat_lt]; rfl

theorem radd_w {x y m : List UInt32} (hx : x.length = 8) (hy : y.length = 8) (hm : m.length = 8) (h1 : Num32.val x < Num32.val m) (h2 : Num32.val y < Num32.val m)
    (h : (plusSt x y 8).2 = 1 ∨ ¬ Num32.val (plusSt x y 8).1 < Num32.val m) : (minusSt (plusSt x y 8).1 m 8).1 = Num32.lim ((Num32.val x + Num32.val y) % Num32.val m) := by
  obtain ⟨e1, c1⟩ := plusSt_val hx hy
  have hl := plusSt_len y hx 8
  obtain ⟨e2, c2⟩ := minusSt_val hl hm
  refine Num32.lim_of (minusSt_len m hl 8) ?_
  have l1 := Num32.val_lt (minusSt_len m hl 8)
  have l2 := Num32.val_lt hl
  have l3 := Num32.val_lt hm
  rw [u64_one] at h
  have hge : Num32.val m ≤ Num32.val x + Num32.val y := by unfold B4 at *; omega
  rw [Nat.mod_eq_sub_mod hge, Nat.mod_eq_of_lt (by omega)]
  unfold B4 at *; omega
theorem radd_z {x y m : List UInt32} (hx : x.length = 8) (hy : y.length = 8)
    (h : ¬ (plusSt x y 8).2 = 1) (h' : Num32.val (plusSt x y 8).1 < Num32.val m) : (plusSt x y 8).1 = Num32.lim ((Num32.val x + Num32.val y) % Num32.val m) := by
  obtain ⟨e1, c1⟩ := plusSt_val hx hy
  refine Num32.lim_of (plusSt_len y hx 8) ?_
  rw [u64_one] at h
  have e0 : (plusSt x y 8).2.toNat = 0 := by omega
  rw [e0, Nat.mul_zero, Nat.add_zero] at e1
  rw [← e1, Nat.mod_eq_of_lt h']
theorem rsub_w {x y m : List UInt32} (hx : x.length = 8) (hy : y.length = 8) (hm : m.length = 8) (h2 : Num32.val y < Num32.val m)
    (h : Num32.val x < Num32.val y) : (minusSt (plusSt x m 8).1 y 8).1 = Num32.lim ((Num32.val x + (Num32.val m - Num32.val y)) % Num32.val m) := by
  obtain ⟨e1, c1⟩ := plusSt_val hx hm
  have hl := plusSt_len m hx 8
  obtain ⟨e2, c2⟩ := minusSt_val hl hy
  refine Num32.lim_of (minusSt_len y hl 8) ?_
  have l1 := Num32.val_lt (minusSt_len y hl 8)
  have l2 := Num32.val_lt hl
  have l3 := Num32.val_lt hm
  rw [Nat.mod_eq_of_lt (by omega)]
  unfold B4 at *; omega
theorem rsub_z {x y m : List UInt32} (hx : x.length = 8) (hy : y.length = 8) (h1 : Num32.val x < Num32.val m)
    (h : ¬ Num32.val x < Num32.val y) : (minusSt x y 8).1 = Num32.lim ((Num32.val x + (Num32.val m - Num32.val y)) % Num32.val m) := by
  obtain ⟨e2, c2⟩ := minusSt_val hx hy
  refine Num32.lim_of (minusSt_len y hx 8) ?_
  have l1 := Num32.val_lt (minusSt_len y hx 8)
  have l2 := Num32.val_lt hx
  rw [Nat.mod_eq_sub_mod (by omega), Nat.mod_eq_of_lt (by omega)]
  unfold B4 at *; omega

/-! ### bytes out of words -/
def pbx (i : Nat) : Nat := ((24 : Int) - 8 * (i : Int).tmod 4).toNat
def psh (x : UInt32) (n : Nat) : UInt8 := (x >>> UInt32.ofNat n &&& UInt32.ofNat 255).toUInt8
def putSt (x : List UInt32) (i : Nat) : List UInt8 := fill 0 (fun i => psh (x.getD (Num32.kx i) 0) (pbx i)) 32 i
theorem putSt_len (x : List UInt32) (i : Nat) : (putSt x i).length = 32 := fill_len _ _ _ i
theorem psh_nat (x : UInt32) {n : Nat} (h : n < 32) : psh x n = UInt8.ofNat (x.toNat / 2 ^ n) := by
  apply UInt8.toNat_inj.1
  unfold psh
  rw [UInt32.toNat_toUInt8, UInt32.toNat_and, UInt32.toNat_shiftRight, Num32.ofNat_lt (by omega), Num32.ofNat_lt (by decide), Nat.mod_eq_of_lt h, Nat.shiftRight_eq_div_pow, UInt8.toNat_ofNat']
  have e : (2 ^ 8 : Nat) = 256 := by decide
  rw [show (255 : Nat) = 2 ^ 8 - 1 by decide, Nat.and_two_pow_sub_one_eq_mod, e, Nat.mod_mod]
theorem word4 (x : UInt32) : [psh x (24 - 8 * (0 : Nat)), psh x (24 - 8 * (1 : Nat)), psh x (24 - 8 * (2 : Nat)), psh x (24 - 8 * (3 : Nat))] = beB 4 x.toNat := by
  have f : ∀ n, beB 0 n = [] := fun n => by unfold beB; rfl
  have g : ∀ k n, beB (k + 1) n = beB k (n / 256) ++ [UInt8.ofNat n] := fun k n => by rw [beB]
  rw [g, g, g, g, f, psh_nat x (by decide), psh_nat x (by decide), psh_nat x (by decide), psh_nat x (by decide)]
  simp only [List.nil_append, List.cons_append, Nat.div_div_eq_div_mul]
  rw [show x.toNat / 2 ^ (24 - 8 * 3) = x.toNat by simp]
theorem put_expl (a0 a1 a2 a3 a4 a5 a6 a7 : UInt32) : putSt [a0, a1, a2, a3, a4, a5, a6, a7] 32 = [psh a7 (24 - 8 * (0 : Nat)), psh a7 (24 - 8 * (1 : Nat)), psh a7 (24 - 8 * (2 : Nat)), psh a7 (24 - 8 * (3 : Nat)), psh a6 (24 - 8 * (0 : Nat)), psh a6 (24 - 8 * (1 : Nat)), psh a6 (24 - 8 * (2 : Nat)), psh a6 (24 - 8 * (3 : Nat)), psh a5 (24 - 8 * (0 : Nat)), psh a5 (24 - 8 * (1 : Nat)), psh a5 (24 - 8 * (2 : Nat)), psh a5 (24 - 8 * (3 : Nat)), psh a4 (24 - 8 * (0 : Nat)), psh a4 (24 - 8 * (1 : Nat)), psh a4 (24 - 8 * (2 : Nat)), psh a4 (24 - 8 * (3 : Nat)), psh a3 (24 - 8 * (0 : Nat)), psh a3 (24 - 8 * (1 : Nat)), psh a3 (24 - 8 * (2 : Nat)), psh a3 (24 - 8 * (3 : Nat)), psh a2 (24 - 8 * (0 : Nat)), psh a2 (24 - 8 * (1 : Nat)), psh a2 (24 - 8 * (2 : Nat)), psh a2 (24 - 8 * (3 : Nat)), psh a1 (24 - 8 * (0 : Nat)), psh a1 (24 - 8 * (1 : Nat)), psh a1 (24 - 8 * (2 : Nat)), psh a1 (24 - 8 * (3 : Nat)), psh a0 (24 - 8 * (0 : Nat)), psh a0 (24 - 8 * (1 : Nat)), psh a0 (24 - 8 * (2 : Nat)), psh a0 (24 - 8 * (3 : Nat))] := by unfold putSt; rw [fill_all]; rfl
theorem put_val {x : List UInt32} (h : x.length = 8) : putSt x 32 = beB 32 (Num32.val x) := by
  obtain ⟨a0, a1, a2, a3, a4, a5, a6, a7, rfl⟩ := Num32.len8 h
  have p4 : (256 ^ 4 : Nat) = 4294967296 := by decide
  have key : ∀ (k : Nat) (a : UInt32) (n : Nat), beB (k + 4) (a.toNat + 4294967296 * n) = beB k n ++ [psh a (24 - 8 * (0 : Nat)), psh a (24 - 8 * (1 : Nat)), psh a (24 - 8 * (2 : Nat)), psh a (24 - 8 * (3 : Nat))] := fun k a n => by
    have ha := Num32.lt32 a
    rw [beB_add, p4, word4, ← beB_mod 4 (a.toNat + 4294967296 * n), p4]
    congr 2 <;> omega
  have hv : Num32.val [a0, a1, a2, a3, a4, a5, a6, a7] = a0.toNat + 4294967296 * (a1.toNat + 4294967296 * (a2.toNat + 4294967296 * (a3.toNat + 4294967296 * (a4.toNat + 4294967296 * (a5.toNat + 4294967296 * (a6.toNat + 4294967296 * (a7.toNat + 4294967296 * (0)))))))) := by simp only [Num32.val]
  rw [put_expl, hv]
  rw [show (32 : Nat) = 28 + 4 from rfl, key, show (28 : Nat) = 24 + 4 from rfl, key, show (24 : Nat) = 20 + 4 from rfl, key, show (20 : Nat) = 16 + 4 from rfl, key, show (16 : Nat) = 12 + 4 from rfl, key, show (12 : Nat) = 8 + 4 from rfl, key, show (8 : Nat) = 4 + 4 from rfl, key, show (4 : Nat) = 0 + 4 from rfl, key]
  have f : beB 0 0 = [] := by unfold beB; rfl
  rw [f]
  rfl

def rplusS : Spec := fun args hp K => match args, hp with
  | [.arr32 8 x, .arr32 8 y], [] => Pre (x.length = 8 ∧ y.length = 8) (K (.tup [.arr32 8 (plusSt x y 8).1, .u64 (plusSt x y 8).2]) [])
  | _, _ => False
def rminusS : Spec := fun args hp K => match args, hp with
  | [.arr32 8 x, .arr32 8 y], [] => Pre (x.length = 8 ∧ y.length = 8) (K (.arr32 8 (minusSt x y 8).1) [])
  | _, _ => False
def raddS : Spec := fun args hp K => match args, hp with
  | [.int w, .arr32 8 x, .arr32 8 y], [] => Pre ((0 ≤ w ∧ w ≤ 2) ∧ x.length = 8 ∧ y.length = 8 ∧ Num32.val x < md w ∧ Num32.val y < md w) (K (.arr32 8 (Num32.lim ((Num32.val x + Num32.val y) % md w))) [])
  | _, _ => False
def rsubS : Spec := fun args hp K => match args, hp with
  | [.int w, .arr32 8 x, .arr32 8 y], [] => Pre ((0 ≤ w ∧ w ≤ 2) ∧ x.length = 8 ∧ y.length = 8 ∧ Num32.val x < md w ∧ Num32.val y < md w) (K (.arr32 8 (Num32.lim ((Num32.val x + (md w - Num32.val y)) % md w))) [])
  | _, _ => False
def squareS : Spec := fun args hp K => match args, hp with
  | [.int w], [] => K (.arr32 8 (sqL w)) []
  | _, _ => False
def inverseS : Spec := fun args hp K => match args, hp with
  | [.int w], [] => K (.u64 (kR w)) []
  | _, _ => False
def putS : Spec := fun args hp K => match args, hp with
  | [.arr32 8 x], [] => Pre (x.length = 8) (K (.str (beB 32 (Num32.val x))) [])
  | _, _ => False
theorem rplus_s : SoundC prog 74 rplusS := by
  refine sound_f tys_ok fnok_nil rfl func74 rfl call74 (D := pl74) ?_ ?_
  · intro args hp K h
    unfold rplusS at h
    split at h
    · exact Nat.le_of_ble_eq_true rfl
    · exact h.elim
  · intro args hp K h
    unfold rplusS at h
    split at h
    · rename_i x y
      obtain ⟨⟨hx, hy⟩, h⟩ := pre_e h
      repeat ((conv => whnf); first | (refine pre_i ?hc ?_; case hc => first | exact (show planOK _ _ _ = true from by kernel_rfl) | assumption | omega | (unfold fits; omega) | decide +kernel | (constructor <;> first | assumption | omega) | (simp only [off_addO, tysz, off, offE] <;> omega) | (simp only [lens, off_addO, off, offE] <;> omega) | (simp only [off_addO, tysz, lens, off, offE] <;> omega) | (constructor <;> first | assumption | (simp only [off_addO, tysz, lens, off, offE] <;> omega))) | (refine cond_t ?hc ?_; case hc => first | rfl | assumption | (rw [decide_eq_true_eq]; omega) | (rw [decide_eq_false_iff_not]; omega) | (simp <;> omega)) | (refine cond_f ?hc ?_; case hc => first | rfl | assumption | (rw [decide_eq_true_eq]; omega) | (rw [decide_eq_false_iff_not]; omega) | (simp <;> omega)) | refine same_i ?_)
      conv => whnf
      refine loop_h (Ix 8) (fun q => ⟨[(2, .ptr 0 0 0 []), (3, .ptr 1 0 0 []), (4, .ptr 2 0 0 []), (6, .u64 (plusSt x y q.i).2), (7, .int q.i)], [.mk 72 [.arr32 8 (plusSt x y q.i).1], .mk 72 [.arr32 8 y], .mk 72 [.arr32 8 [0, 0, 0, 0, 0, 0, 0, 0]]]⟩)
        (fun q => 8 - q.i) ⟨0, Nat.zero_le _⟩ [0, 1, 2] ?_ ?_
      · repeat ((conv => whnf); first | (refine pre_i ?hc ?_; case hc => first | exact (show planOK _ _ _ = true from by kernel_rfl) | assumption | omega | (unfold fits; omega) | decide +kernel | (constructor <;> first | assumption | omega) | (simp only [off_addO, tysz, off, offE] <;> omega) | (simp only [lens, off_addO, off, offE] <;> omega) | (simp only [off_addO, tysz, lens, off, offE] <;> omega) | (constructor <;> first | assumption | (simp only [off_addO, tysz, lens, off, offE] <;> omega))) | (refine cond_t ?hc ?_; case hc => first | rfl | assumption | (rw [decide_eq_true_eq]; omega) | (rw [decide_eq_false_iff_not]; omega) | (simp <;> omega)) | (refine cond_f ?hc ?_; case hc => first | rfl | assumption | (rw [decide_eq_true_eq]; omega) | (rw [decide_eq_false_iff_not]; omega) | (simp <;> omega)) | refine same_i ?_)
        exact trivial
      · intro q
        have hi := q.hi
        have hl := plusSt_len y hx q.i
        have hI : ((q.i : Int)).toNat = q.i := Int.toNat_natCast _
        by_cases h4 : q.i < 8
        · repeat ((conv => whnf); first | (refine pre_i ?hc ?_; case hc => first | exact (show planOK _ _ _ = true from by kernel_rfl) | assumption | omega | (unfold fits; omega) | decide +kernel | (constructor <;> first | assumption | omega) | (simp only [off_addO, tysz, off, offE] <;> omega) | (simp only [lens, off_addO, off, offE] <;> omega) | (simp only [off_addO, tysz, lens, off, offE] <;> omega) | (constructor <;> first | assumption | (simp only [off_addO, tysz, lens, off, offE] <;> omega))) | (refine cond_t ?hc ?_; case hc => first | rfl | assumption | (rw [decide_eq_true_eq]; omega) | (rw [decide_eq_false_iff_not]; omega) | (simp <;> omega)) | (refine cond_f ?hc ?_; case hc => first | rfl | assumption | (rw [decide_eq_true_eq]; omega) | (rw [decide_eq_false_iff_not]; omega) | (simp <;> omega)) | refine same_i ?_)
          conv => whnf
          refine ⟨⟨q.i + 1, h4⟩, [0, 1, 2], ?_, ?_⟩
          · show 8 - (q.i + 1) < 8 - q.i
            omega
          · repeat ((conv => whnf); first | (refine pre_i ?hc ?_; case hc => first | exact (show planOK _ _ _ = true from by kernel_rfl) | assumption | omega | (unfold fits; omega) | decide +kernel | (constructor <;> first | assumption | omega) | (simp only [off_addO, tysz, off, offE] <;> omega) | (simp only [lens, off_addO, off, offE] <;> omega) | (simp only [off_addO, tysz, lens, off, offE] <;> omega) | (constructor <;> first | assumption | (simp only [off_addO, tysz, lens, off, offE] <;> omega))) | (refine cond_t ?hc ?_; case hc => first | rfl | assumption | (rw [decide_eq_true_eq]; omega) | (rw [decide_eq_false_iff_not]; omega) | (simp <;> omega)) | (refine cond_f ?hc ?_; case hc => first | rfl | assumption | (rw [decide_eq_true_eq]; omega) | (rw [decide_eq_false_iff_not]; omega) | (simp <;> omega)) | refine same_i ?_)
            exact trivial
        · have e4 : q.i = 8 := by omega
          repeat ((conv => whnf); first | (refine pre_i ?hc ?_; case hc => first | exact (show planOK _ _ _ = true from by kernel_rfl) | assumption | omega | (unfold fits; omega) | decide +kernel | (constructor <;> first | assumption | omega) | (simp only [off_addO, tysz, off, offE] <;> omega) | (simp only [lens, off_addO, off, offE] <;> omega) | (simp only [off_addO, tysz, lens, off, offE] <;> omega) | (constructor <;> first | assumption | (simp only [off_addO, tysz, lens, off, offE] <;> omega))) | (refine cond_t ?hc ?_; case hc => first | rfl | assumption | (rw [decide_eq_true_eq]; omega) | (rw [decide_eq_false_iff_not]; omega) | (simp <;> omega)) | (refine cond_f ?hc ?_; case hc => first | rfl | assumption | (rw [decide_eq_true_eq]; omega) | (rw [decide_eq_false_iff_not]; omega) | (simp <;> omega)) | refine same_i ?_)
          conv => whnf
          rw [e4]
          refine final_h (hp' := []) [] h ?_
          repeat ((conv => whnf); first | (refine pre_i ?hc ?_; case hc => first | exact (show planOK _ _ _ = true from by kernel_rfl) | assumption | omega | (unfold fits; omega) | decide +kernel | (constructor <;> first | assumption | omega) | (simp only [off_addO, tysz, off, offE] <;> omega) | (simp only [lens, off_addO, off, offE] <;> omega) | (simp only [off_addO, tysz, lens, off, offE] <;> omega) | (constructor <;> first | assumption | (simp only [off_addO, tysz, lens, off, offE] <;> omega))) | (refine cond_t ?hc ?_; case hc => first | rfl | assumption | (rw [decide_eq_true_eq]; omega) | (rw [decide_eq_false_iff_not]; omega) | (simp <;> omega)) | (refine cond_f ?hc ?_; case hc => first | rfl | assumption | (rw [decide_eq_true_eq]; omega) | (rw [decide_eq_false_iff_not]; omega) | (simp <;> omega)) | refine same_i ?_)
          exact trivial
    · exact h.elim
theorem rminus_s : SoundC prog 68 rminusS := by
  refine sound_f tys_ok fnok_nil rfl func68 rfl call68 (D := pl68) ?_ ?_
  · intro args hp K h
    unfold rminusS at h
    split at h
    · exact Nat.le_of_ble_eq_true rfl
    · exact h.elim
  · intro args hp K h
    unfold rminusS at h
    split at h
    · rename_i x y
      obtain ⟨⟨hx, hy⟩, h⟩ := pre_e h
      repeat ((conv => whnf); first | (refine pre_i ?hc ?_; case hc => first | exact (show planOK _ _ _ = true from by kernel_rfl) | assumption | omega | (unfold fits; omega) | decide +kernel | (constructor <;> first | assumption | omega) | (simp only [off_addO, tysz, off, offE] <;> omega) | (simp only [lens, off_addO, off, offE] <;> omega) | (simp only [off_addO, tysz, lens, off, offE] <;> omega) | (constructor <;> first | assumption | (simp only [off_addO, tysz, lens, off, offE] <;> omega))) | (refine cond_t ?hc ?_; case hc => first | rfl | assumption | (rw [decide_eq_true_eq]; omega) | (rw [decide_eq_false_iff_not]; omega) | (simp <;> omega)) | (refine cond_f ?hc ?_; case hc => first | rfl | assumption | (rw [decide_eq_true_eq]; omega) | (rw [decide_eq_false_iff_not]; omega) | (simp <;> omega)) | refine same_i ?_)
      conv => whnf
      refine loop_h (Ix 8) (fun q => ⟨[(2, .ptr 0 0 0 []), (3, .ptr 1 0 0 []), (4, .ptr 2 0 0 []), (5, .u64 (minusSt x y q.i).2), (6, .int q.i)], [.mk 72 [.arr32 8 (minusSt x y q.i).1], .mk 72 [.arr32 8 y], .mk 72 [.arr32 8 [0, 0, 0, 0, 0, 0, 0, 0]]]⟩)
        (fun q => 8 - q.i) ⟨0, Nat.zero_le _⟩ [0, 1, 2] ?_ ?_
      · repeat ((conv => whnf); first | (refine pre_i ?hc ?_; case hc => first | exact (show planOK _ _ _ = true from by kernel_rfl) | assumption | omega | (unfold fits; omega) | decide +kernel | (constructor <;> first | assumption | omega) | (simp only [off_addO, tysz, off, offE] <;> omega) | (simp only [lens, off_addO, off, offE] <;> omega) | (simp only [off_addO, tysz, lens, off, offE] <;> omega) | (constructor <;> first | assumption | (simp only [off_addO, tysz, lens, off, offE] <;> omega))) | (refine cond_t ?hc ?_; case hc => first | rfl | assumption | (rw [decide_eq_true_eq]; omega) | (rw [decide_eq_false_iff_not]; omega) | (simp <;> omega)) | (refine cond_f ?hc ?_; case hc => first | rfl | assumption | (rw [decide_eq_true_eq]; omega) | (rw [decide_eq_false_iff_not]; omega) | (simp <;> omega)) | refine same_i ?_)
        exact trivial
      · intro q
        have hi := q.hi
        have hl := minusSt_len y hx q.i
        have hI : ((q.i : Int)).toNat = q.i := Int.toNat_natCast _
        by_cases h4 : q.i < 8
        · repeat ((conv => whnf); first | (refine pre_i ?hc ?_; case hc => first | exact (show planOK _ _ _ = true from by kernel_rfl) | assumption | omega | (unfold fits; omega) | decide +kernel | (constructor <;> first | assumption | omega) | (simp only [off_addO, tysz, off, offE] <;> omega) | (simp only [lens, off_addO, off, offE] <;> omega) | (simp only [off_addO, tysz, lens, off, offE] <;> omega) | (constructor <;> first | assumption | (simp only [off_addO, tysz, lens, off, offE] <;> omega))) | (refine cond_t ?hc ?_; case hc => first | rfl | assumption | (rw [decide_eq_true_eq]; omega) | (rw [decide_eq_false_iff_not]; omega) | (simp <;> omega)) | (refine cond_f ?hc ?_; case hc => first | rfl | assumption | (rw [decide_eq_true_eq]; omega) | (rw [decide_eq_false_iff_not]; omega) | (simp <;> omega)) | refine same_i ?_)
          conv => whnf
          refine ⟨⟨q.i + 1, h4⟩, [0, 1, 2], ?_, ?_⟩
          · show 8 - (q.i + 1) < 8 - q.i
            omega
          · repeat ((conv => whnf); first | (refine pre_i ?hc ?_; case hc => first | exact (show planOK _ _ _ = true from by kernel_rfl) | assumption | omega | (unfold fits; omega) | decide +kernel | (constructor <;> first | assumption | omega) | (simp only [off_addO, tysz, off, offE] <;> omega) | (simp only [lens, off_addO, off, offE] <;> omega) | (simp only [off_addO, tysz, lens, off, offE] <;> omega) | (constructor <;> first | assumption | (simp only [off_addO, tysz, lens, off, offE] <;> omega))) | (refine cond_t ?hc ?_; case hc => first | rfl | assumption | (rw [decide_eq_true_eq]; omega) | (rw [decide_eq_false_iff_not]; omega) | (simp <;> omega)) | (refine cond_f ?hc ?_; case hc => first | rfl | assumption | (rw [decide_eq_true_eq]; omega) | (rw [decide_eq_false_iff_not]; omega) | (simp <;> omega)) | refine same_i ?_)
            exact trivial
        · have e4 : q.i = 8 := by omega
          repeat ((conv => whnf); first | (refine pre_i ?hc ?_; case hc => first | exact (show planOK _ _ _ = true from by kernel_rfl) | assumption | omega | (unfold fits; omega) | decide +kernel | (constructor <;> first | assumption | omega) | (simp only [off_addO, tysz, off, offE] <;> omega) | (simp only [lens, off_addO, off, offE] <;> omega) | (simp only [off_addO, tysz, lens, off, offE] <;> omega) | (constructor <;> first | assumption | (simp only [off_addO, tysz, lens, off, offE] <;> omega))) | (refine cond_t ?hc ?_; case hc => first | rfl | assumption | (rw [decide_eq_true_eq]; omega) | (rw [decide_eq_false_iff_not]; omega) | (simp <;> omega)) | (refine cond_f ?hc ?_; case hc => first | rfl | assumption | (rw [decide_eq_true_eq]; omega) | (rw [decide_eq_false_iff_not]; omega) | (simp <;> omega)) | refine same_i ?_)
          conv => whnf
          rw [e4]
          refine final_h (hp' := []) [] h ?_
          repeat ((conv => whnf); first | (refine pre_i ?hc ?_; case hc => first | exact (show planOK _ _ _ = true from by kernel_rfl) | assumption | omega | (unfold fits; omega) | decide +kernel | (constructor <;> first | assumption | omega) | (simp only [off_addO, tysz, off, offE] <;> omega) | (simp only [lens, off_addO, off, offE] <;> omega) | (simp only [off_addO, tysz, lens, off, offE] <;> omega) | (constructor <;> first | assumption | (simp only [off_addO, tysz, lens, off, offE] <;> omega))) | (refine cond_t ?hc ?_; case hc => first | rfl | assumption | (rw [decide_eq_true_eq]; omega) | (rw [decide_eq_false_iff_not]; omega) | (simp <;> omega)) | (refine cond_f ?hc ?_; case hc => first | rfl | assumption | (rw [decide_eq_true_eq]; omega) | (rw [decide_eq_false_iff_not]; omega) | (simp <;> omega)) | refine same_i ?_)
          exact trivial
    · exact h.elim
theorem square_s : SoundC prog 84 squareS := by
  refine sound_f tys_ok fnok_nil rfl func84 rfl call84 (D := pl84) ?_ ?_
  · intro args hp K h
    unfold squareS at h
    split at h
    · exact Nat.le_of_ble_eq_true rfl
    · exact h.elim
  · intro args hp K h
    unfold squareS at h
    split at h
    · rename_i w
      by_cases h0 : w = 0
      · repeat ((conv => whnf); first | (refine pre_i ?hc ?_; case hc => first | exact (show planOK _ _ _ = true from by kernel_rfl) | assumption | omega | (unfold fits; omega) | decide +kernel | (constructor <;> first | assumption | omega) | (simp only [off_addO, tysz, off, offE] <;> omega) | (simp only [lens, off_addO, off, offE] <;> omega) | (simp only [off_addO, tysz, lens, off, offE] <;> omega) | (constructor <;> first | assumption | (simp only [off_addO, tysz, lens, off, offE] <;> omega))) | (refine cond_t ?hc ?_; case hc => first | rfl | assumption | (rw [decide_eq_true_eq]; omega) | (rw [decide_eq_false_iff_not]; omega) | (simp <;> omega)) | (refine cond_f ?hc ?_; case hc => first | rfl | assumption | (rw [decide_eq_true_eq]; omega) | (rw [decide_eq_false_iff_not]; omega) | (simp <;> omega)) | refine same_i ?_)
        conv => whnf
        refine final_h (hp' := []) [] h ?_
        conv => whnf
        refine same_q (by subst h0; unfold sqL; rfl) ?_
        exact trivial
      · by_cases h1 : w = 1
        · repeat ((conv => whnf); first | (refine pre_i ?hc ?_; case hc => first | exact (show planOK _ _ _ = true from by kernel_rfl) | assumption | omega | (unfold fits; omega) | decide +kernel | (constructor <;> first | assumption | omega) | (simp only [off_addO, tysz, off, offE] <;> omega) | (simp only [lens, off_addO, off, offE] <;> omega) | (simp only [off_addO, tysz, lens, off, offE] <;> omega) | (constructor <;> first | assumption | (simp only [off_addO, tysz, lens, off, offE] <;> omega))) | (refine cond_t ?hc ?_; case hc => first | rfl | assumption | (rw [decide_eq_true_eq]; omega) | (rw [decide_eq_false_iff_not]; omega) | (simp <;> omega)) | (refine cond_f ?hc ?_; case hc => first | rfl | assumption | (rw [decide_eq_true_eq]; omega) | (rw [decide_eq_false_iff_not]; omega) | (simp <;> omega)) | refine same_i ?_)
          conv => whnf
          refine final_h (hp' := []) [] h ?_
          conv => whnf
          refine same_q (by subst h1; unfold sqL; rfl) ?_
          exact trivial
        · repeat ((conv => whnf); first | (refine pre_i ?hc ?_; case hc => first | exact (show planOK _ _ _ = true from by kernel_rfl) | assumption | omega | (unfold fits; omega) | decide +kernel | (constructor <;> first | assumption | omega) | (simp only [off_addO, tysz, off, offE] <;> omega) | (simp only [lens, off_addO, off, offE] <;> omega) | (simp only [off_addO, tysz, lens, off, offE] <;> omega) | (constructor <;> first | assumption | (simp only [off_addO, tysz, lens, off, offE] <;> omega))) | (refine cond_t ?hc ?_; case hc => first | rfl | assumption | (rw [decide_eq_true_eq]; omega) | (rw [decide_eq_false_iff_not]; omega) | (simp <;> omega)) | (refine cond_f ?hc ?_; case hc => first | rfl | assumption | (rw [decide_eq_true_eq]; omega) | (rw [decide_eq_false_iff_not]; omega) | (simp <;> omega)) | refine same_i ?_)
          conv => whnf
          refine final_h (hp' := []) [] h ?_
          conv => whnf
          refine same_q (by unfold sqL; rw [if_neg h0, if_neg h1]; rfl) ?_
          exact trivial
    · exact h.elim
theorem inverse_s : SoundC prog 87 inverseS := by
  refine sound_f tys_ok fnok_nil rfl func87 rfl call87 (D := pl87) ?_ ?_
  · intro args hp K h
    unfold inverseS at h
    split at h
    · exact Nat.le_of_ble_eq_true rfl
    · exact h.elim
  · intro args hp K h
    unfold inverseS at h
    split at h
    · rename_i w
      by_cases h0 : w = 0
      · repeat ((conv => whnf); first | (refine pre_i ?hc ?_; case hc => first | exact (show planOK _ _ _ = true from by kernel_rfl) | assumption | omega | (unfold fits; omega) | decide +kernel | (constructor <;> first | assumption | omega) | (simp only [off_addO, tysz, off, offE] <;> omega) | (simp only [lens, off_addO, off, offE] <;> omega) | (simp only [off_addO, tysz, lens, off, offE] <;> omega) | (constructor <;> first | assumption | (simp only [off_addO, tysz, lens, off, offE] <;> omega))) | (refine cond_t ?hc ?_; case hc => first | rfl | assumption | (rw [decide_eq_true_eq]; omega) | (rw [decide_eq_false_iff_not]; omega) | (simp <;> omega)) | (refine cond_f ?hc ?_; case hc => first | rfl | assumption | (rw [decide_eq_true_eq]; omega) | (rw [decide_eq_false_iff_not]; omega) | (simp <;> omega)) | refine same_i ?_)
        conv => whnf
        refine final_h (hp' := []) [] h ?_
        conv => whnf
        refine same_q (by subst h0; unfold kR; rfl) ?_
        exact trivial
      · by_cases h1 : w = 1
        · repeat ((conv => whnf); first | (refine pre_i ?hc ?_; case hc => first | exact (show planOK _ _ _ = true from by kernel_rfl) | assumption | omega | (unfold fits; omega) | decide +kernel | (constructor <;> first | assumption | omega) | (simp only [off_addO, tysz, off, offE] <;> omega) | (simp only [lens, off_addO, off, offE] <;> omega) | (simp only [off_addO, tysz, lens, off, offE] <;> omega) | (constructor <;> first | assumption | (simp only [off_addO, tysz, lens, off, offE] <;> omega))) | (refine cond_t ?hc ?_; case hc => first | rfl | assumption | (rw [decide_eq_true_eq]; omega) | (rw [decide_eq_false_iff_not]; omega) | (simp <;> omega)) | (refine cond_f ?hc ?_; case hc => first | rfl | assumption | (rw [decide_eq_true_eq]; omega) | (rw [decide_eq_false_iff_not]; omega) | (simp <;> omega)) | refine same_i ?_)
          conv => whnf
          refine final_h (hp' := []) [] h ?_
          conv => whnf
          refine same_q (by subst h1; unfold kR; rfl) ?_
          exact trivial
        · repeat ((conv => whnf); first | (refine pre_i ?hc ?_; case hc => first | exact (show planOK _ _ _ = true from by kernel_rfl) | assumption | omega | (unfold fits; omega) | decide +kernel | (constructor <;> first | assumption | omega) | (simp only [off_addO, tysz, off, offE] <;> omega) | (simp only [lens, off_addO, off, offE] <;> omega) | (simp only [off_addO, tysz, lens, off, offE] <;> omega) | (constructor <;> first | assumption | (simp only [off_addO, tysz, lens, off, offE] <;> omega))) | (refine cond_t ?hc ?_; case hc => first | rfl | assumption | (rw [decide_eq_true_eq]; omega) | (rw [decide_eq_false_iff_not]; omega) | (simp <;> omega)) | (refine cond_f ?hc ?_; case hc => first | rfl | assumption | (rw [decide_eq_true_eq]; omega) | (rw [decide_eq_false_iff_not]; omega) | (simp <;> omega)) | refine same_i ?_)
          conv => whnf
          refine final_h (hp' := []) [] h ?_
          conv => whnf
          refine same_q (by unfold kR; rw [if_neg h0, if_neg h1]; rfl) ?_
          exact trivial
    · exact h.elim
section
attribute [local irreducible] plusSt minusSt
theorem radd_s : SoundC prog 45 raddS := by
  refine sound_f tys_ok (fnok_cons rmod_s (fnok_cons rplus_s (fnok_cons rless_s (fnok_cons rminus_s fnok_nil)))) rfl func45 rfl call45 (D := pl45) ?_ ?_
  · intro args hp K h
    unfold raddS at h
    split at h
    · exact Nat.le_of_ble_eq_true rfl
    · exact h.elim
  · intro args hp K h
    unfold raddS at h
    split at h
    · rename_i w x y
      obtain ⟨⟨hw, hx, hy, h1, h2⟩, h⟩ := pre_e h
      have hm := Num32.mlim_val hw
      have hl := Num32.mlim_len w
      rw [← hm] at h1 h2 h
      have hp := plusSt_len y hx 8
      repeat ((conv => whnf); first | (refine pre_i ?hc ?_; case hc => first | exact (show planOK _ _ _ = true from by kernel_rfl) | assumption | omega | (unfold fits; omega) | decide +kernel | (constructor <;> first | assumption | omega) | (simp only [off_addO, tysz, off, offE] <;> omega) | (simp only [lens, off_addO, off, offE] <;> omega) | (simp only [off_addO, tysz, lens, off, offE] <;> omega) | (constructor <;> first | assumption | (simp only [off_addO, tysz, lens, off, offE] <;> omega))) | (refine cond_t ?hc ?_; case hc => first | rfl | assumption | (rw [decide_eq_true_eq]; omega) | (rw [decide_eq_false_iff_not]; omega) | (simp <;> omega)) | (refine cond_f ?hc ?_; case hc => first | rfl | assumption | (rw [decide_eq_true_eq]; omega) | (rw [decide_eq_false_iff_not]; omega) | (simp <;> omega)) | refine same_i ?_)
      conv => whnf
      refine cond_i (fun hc => ?_) (fun hc => ?_)
      · have hc1 : ¬ (plusSt x y 8).2 = 1 := by
          have : (decide ((plusSt x y 8).2 = 1) == false) = true := hc
          simpa using this
        have hd : decide ((plusSt x y 8).2 = UInt64.ofNat 1) = false := decide_eq_false hc1
        repeat ((conv => whnf); first | (refine pre_i ?hc ?_; case hc => first | exact (show planOK _ _ _ = true from by kernel_rfl) | assumption | omega | (unfold fits; omega) | decide +kernel | (constructor <;> first | assumption | omega) | (simp only [off_addO, tysz, off, offE] <;> omega) | (simp only [lens, off_addO, off, offE] <;> omega) | (simp only [off_addO, tysz, lens, off, offE] <;> omega) | (constructor <;> first | assumption | (simp only [off_addO, tysz, lens, off, offE] <;> omega))) | (refine cond_t ?hc ?_; case hc => first | rfl | assumption | (rw [decide_eq_true_eq]; omega) | (rw [decide_eq_false_iff_not]; omega) | (simp <;> omega) | exact hd | (rw [hd]; rfl)) | (refine cond_f ?hc ?_; case hc => first | rfl | assumption | (rw [decide_eq_true_eq]; omega) | (rw [decide_eq_false_iff_not]; omega) | (simp <;> omega) | exact hd | (rw [hd]; rfl)) | refine same_i ?_)
        conv => whnf
        by_cases hb : Num32.val (plusSt x y 8).1 < Num32.val (Num32.mlim w)
        · have hbd := decide_eq_true hb
          repeat ((conv => whnf); first | (refine pre_i ?hc ?_; case hc => first | exact (show planOK _ _ _ = true from by kernel_rfl) | assumption | omega | (unfold fits; omega) | decide +kernel | (constructor <;> first | assumption | omega) | (simp only [off_addO, tysz, off, offE] <;> omega) | (simp only [lens, off_addO, off, offE] <;> omega) | (simp only [off_addO, tysz, lens, off, offE] <;> omega) | (constructor <;> first | assumption | (simp only [off_addO, tysz, lens, off, offE] <;> omega))) | (refine cond_t ?hc ?_; case hc => first | rfl | assumption | (rw [decide_eq_true_eq]; omega) | (rw [decide_eq_false_iff_not]; omega) | (simp <;> omega) | exact hbd | (rw [hbd]; rfl) | exact hd | (rw [hd]; rfl)) | (refine cond_f ?hc ?_; case hc => first | rfl | assumption | (rw [decide_eq_true_eq]; omega) | (rw [decide_eq_false_iff_not]; omega) | (simp <;> omega) | exact hbd | (rw [hbd]; rfl) | exact hd | (rw [hd]; rfl)) | refine same_i ?_)
          conv => whnf
          rw [radd_z hx hy hc1 hb]
          refine final_h (hp' := []) [] h ?_
          repeat ((conv => whnf); first | (refine pre_i ?hc ?_; case hc => first | exact (show planOK _ _ _ = true from by kernel_rfl) | assumption | omega | (unfold fits; omega) | decide +kernel | (constructor <;> first | assumption | omega) | (simp only [off_addO, tysz, off, offE] <;> omega) | (simp only [lens, off_addO, off, offE] <;> omega) | (simp only [off_addO, tysz, lens, off, offE] <;> omega) | (constructor <;> first | assumption | (simp only [off_addO, tysz, lens, off, offE] <;> omega))) | (refine cond_t ?hc ?_; case hc => first | rfl | assumption | (rw [decide_eq_true_eq]; omega) | (rw [decide_eq_false_iff_not]; omega) | (simp <;> omega)) | (refine cond_f ?hc ?_; case hc => first | rfl | assumption | (rw [decide_eq_true_eq]; omega) | (rw [decide_eq_false_iff_not]; omega) | (simp <;> omega)) | refine same_i ?_)
          exact trivial
        · have hbd := decide_eq_false hb
          repeat ((conv => whnf); first | (refine pre_i ?hc ?_; case hc => first | exact (show planOK _ _ _ = true from by kernel_rfl) | assumption | omega | (unfold fits; omega) | decide +kernel | (constructor <;> first | assumption | omega) | (simp only [off_addO, tysz, off, offE] <;> omega) | (simp only [lens, off_addO, off, offE] <;> omega) | (simp only [off_addO, tysz, lens, off, offE] <;> omega) | (constructor <;> first | assumption | (simp only [off_addO, tysz, lens, off, offE] <;> omega))) | (refine cond_t ?hc ?_; case hc => first | rfl | assumption | (rw [decide_eq_true_eq]; omega) | (rw [decide_eq_false_iff_not]; omega) | (simp <;> omega) | exact hbd | (rw [hbd]; rfl) | exact hd | (rw [hd]; rfl)) | (refine cond_f ?hc ?_; case hc => first | rfl | assumption | (rw [decide_eq_true_eq]; omega) | (rw [decide_eq_false_iff_not]; omega) | (simp <;> omega) | exact hbd | (rw [hbd]; rfl) | exact hd | (rw [hd]; rfl)) | refine same_i ?_)
          conv => whnf
          rw [radd_w hx hy hl h1 h2 (.inr hb)]
          refine final_h (hp' := []) [] h ?_
          repeat ((conv => whnf); first | (refine pre_i ?hc ?_; case hc => first | exact (show planOK _ _ _ = true from by kernel_rfl) | assumption | omega | (unfold fits; omega) | decide +kernel | (constructor <;> first | assumption | omega) | (simp only [off_addO, tysz, off, offE] <;> omega) | (simp only [lens, off_addO, off, offE] <;> omega) | (simp only [off_addO, tysz, lens, off, offE] <;> omega) | (constructor <;> first | assumption | (simp only [off_addO, tysz, lens, off, offE] <;> omega))) | (refine cond_t ?hc ?_; case hc => first | rfl | assumption | (rw [decide_eq_true_eq]; omega) | (rw [decide_eq_false_iff_not]; omega) | (simp <;> omega)) | (refine cond_f ?hc ?_; case hc => first | rfl | assumption | (rw [decide_eq_true_eq]; omega) | (rw [decide_eq_false_iff_not]; omega) | (simp <;> omega)) | refine same_i ?_)
          exact trivial
      · have hc1 : (plusSt x y 8).2 = 1 := by
          have : (decide ((plusSt x y 8).2 = 1) == false) = false := hc
          simpa using this
        have hd : decide ((plusSt x y 8).2 = UInt64.ofNat 1) = true := decide_eq_true hc1
        repeat ((conv => whnf); first | (refine pre_i ?hc ?_; case hc => first | exact (show planOK _ _ _ = true from by kernel_rfl) | assumption | omega | (unfold fits; omega) | decide +kernel | (constructor <;> first | assumption | omega) | (simp only [off_addO, tysz, off, offE] <;> omega) | (simp only [lens, off_addO, off, offE] <;> omega) | (simp only [off_addO, tysz, lens, off, offE] <;> omega) | (constructor <;> first | assumption | (simp only [off_addO, tysz, lens, off, offE] <;> omega))) | (refine cond_t ?hc ?_; case hc => first | rfl | assumption | (rw [decide_eq_true_eq]; omega) | (rw [decide_eq_false_iff_not]; omega) | (simp <;> omega) | exact hd | (rw [hd]; rfl)) | (refine cond_f ?hc ?_; case hc => first | rfl | assumption | (rw [decide_eq_true_eq]; omega) | (rw [decide_eq_false_iff_not]; omega) | (simp <;> omega) | exact hd | (rw [hd]; rfl)) | refine same_i ?_)
        conv => whnf
        rw [radd_w hx hy hl h1 h2 (.inl hc1)]
        refine final_h (hp' := []) [] h ?_
        repeat ((conv => whnf); first | (refine pre_i ?hc ?_; case hc => first | exact (show planOK _ _ _ = true from by kernel_rfl) | assumption | omega | (unfold fits; omega) | decide +kernel | (constructor <;> first | assumption | omega) | (simp only [off_addO, tysz, off, offE] <;> omega) | (simp only [lens, off_addO, off, offE] <;> omega) | (simp only [off_addO, tysz, lens, off, offE] <;> omega) | (constructor <;> first | assumption | (simp only [off_addO, tysz, lens, off, offE] <;> omega))) | (refine cond_t ?hc ?_; case hc => first | rfl | assumption | (rw [decide_eq_true_eq]; omega) | (rw [decide_eq_false_iff_not]; omega) | (simp <;> omega)) | (refine cond_f ?hc ?_; case hc => first | rfl | assumption | (rw [decide_eq_true_eq]; omega) | (rw [decide_eq_false_iff_not]; omega) | (simp <;> omega)) | refine same_i ?_)
        exact trivial
    · exact h.elim
theorem rsub_s : SoundC prog 46 rsubS := by
  refine sound_f tys_ok (fnok_cons rmod_s (fnok_cons rplus_s (fnok_cons rless_s (fnok_cons rminus_s fnok_nil)))) rfl func46 rfl call46 (D := pl46) ?_ ?_
  · intro args hp K h
    unfold rsubS at h
    split at h
    · exact Nat.le_of_ble_eq_true rfl
    · exact h.elim
  · intro args hp K h
    unfold rsubS at h
    split at h
    · rename_i w x y
      obtain ⟨⟨hw, hx, hy, h1, h2⟩, h⟩ := pre_e h
      have hm := Num32.mlim_val hw
      have hl := Num32.mlim_len w
      rw [← hm] at h1 h2 h
      have hp := plusSt_len (Num32.mlim w) hx 8
      by_cases hb : Num32.val x < Num32.val y
      · repeat ((conv => whnf); first | (refine pre_i ?hc ?_; case hc => first | exact (show planOK _ _ _ = true from by kernel_rfl) | assumption | omega | (unfold fits; omega) | decide +kernel | (constructor <;> first | assumption | omega) | (simp only [off_addO, tysz, off, offE] <;> omega) | (simp only [lens, off_addO, off, offE] <;> omega) | (simp only [off_addO, tysz, lens, off, offE] <;> omega) | (constructor <;> first | assumption | (simp only [off_addO, tysz, lens, off, offE] <;> omega))) | (refine cond_t ?hc ?_; case hc => first | rfl | assumption | (rw [decide_eq_true_eq]; omega) | (rw [decide_eq_false_iff_not]; omega) | (simp <;> omega)) | (refine cond_f ?hc ?_; case hc => first | rfl | assumption | (rw [decide_eq_true_eq]; omega) | (rw [decide_eq_false_iff_not]; omega) | (simp <;> omega)) | refine same_i ?_)
        conv => whnf
        rw [rsub_w hx hy hl h2 hb]
        refine final_h (hp' := []) [] h ?_
        repeat ((conv => whnf); first | (refine pre_i ?hc ?_; case hc => first | exact (show planOK _ _ _ = true from by kernel_rfl) | assumption | omega | (unfold fits; omega) | decide +kernel | (constructor <;> first | assumption | omega) | (simp only [off_addO, tysz, off, offE] <;> omega) | (simp only [lens, off_addO, off, offE] <;> omega) | (simp only [off_addO, tysz, lens, off, offE] <;> omega) | (constructor <;> first | assumption | (simp only [off_addO, tysz, lens, off, offE] <;> omega))) | (refine cond_t ?hc ?_; case hc => first | rfl | assumption | (rw [decide_eq_true_eq]; omega) | (rw [decide_eq_false_iff_not]; omega) | (simp <;> omega)) | (refine cond_f ?hc ?_; case hc => first | rfl | assumption | (rw [decide_eq_true_eq]; omega) | (rw [decide_eq_false_iff_not]; omega) | (simp <;> omega)) | refine same_i ?_)
        exact trivial
      · repeat ((conv => whnf); first | (refine pre_i ?hc ?_; case hc => first | exact (show planOK _ _ _ = true from by kernel_rfl) | assumption | omega | (unfold fits; omega) | decide +kernel | (constructor <;> first | assumption | omega) | (simp only [off_addO, tysz, off, offE] <;> omega) | (simp only [lens, off_addO, off, offE] <;> omega) | (simp only [off_addO, tysz, lens, off, offE] <;> omega) | (constructor <;> first | assumption | (simp only [off_addO, tysz, lens, off, offE] <;> omega))) | (refine cond_t ?hc ?_; case hc => first | rfl | assumption | (rw [decide_eq_true_eq]; omega) | (rw [decide_eq_false_iff_not]; omega) | (simp <;> omega)) | (refine cond_f ?hc ?_; case hc => first | rfl | assumption | (rw [decide_eq_true_eq]; omega) | (rw [decide_eq_false_iff_not]; omega) | (simp <;> omega)) | refine same_i ?_)
        conv => whnf
        rw [rsub_z hx hy h1 hb]
        refine final_h (hp' := []) [] h ?_
        repeat ((conv => whnf); first | (refine pre_i ?hc ?_; case hc => first | exact (show planOK _ _ _ = true from by kernel_rfl) | assumption | omega | (unfold fits; omega) | decide +kernel | (constructor <;> first | assumption | omega) | (simp only [off_addO, tysz, off, offE] <;> omega) | (simp only [lens, off_addO, off, offE] <;> omega) | (simp only [off_addO, tysz, lens, off, offE] <;> omega) | (constructor <;> first | assumption | (simp only [off_addO, tysz, lens, off, offE] <;> omega))) | (refine cond_t ?hc ?_; case hc => first | rfl | assumption | (rw [decide_eq_true_eq]; omega) | (rw [decide_eq_false_iff_not]; omega) | (simp <;> omega)) | (refine cond_f ?hc ?_; case hc => first | rfl | assumption | (rw [decide_eq_true_eq]; omega) | (rw [decide_eq_false_iff_not]; omega) | (simp <;> omega)) | refine same_i ?_)
        exact trivial
    · exact h.elim
end
theorem put_s : SoundC prog 44 putS := by
  refine sound_f tys_ok fnok_nil rfl func44 rfl call44 (D := pl44) ?_ ?_
  · intro args hp K h
    unfold putS at h
    split at h
    · exact Nat.le_of_ble_eq_true rfl
    · exact h.elim
  · intro args hp K h
    unfold putS at h
    split at h
    · rename_i x
      obtain ⟨hx, h⟩ := pre_e h
      repeat ((conv => whnf); first | (refine pre_i ?hc ?_; case hc => first | exact (show planOK _ _ _ = true from by kernel_rfl) | assumption | omega | (unfold fits; omega) | decide +kernel | (constructor <;> first | assumption | omega) | (simp only [off_addO, tysz, off, offE] <;> omega) | (simp only [lens, off_addO, off, offE] <;> omega) | (simp only [off_addO, tysz, lens, off, offE] <;> omega) | (constructor <;> first | assumption | (simp only [off_addO, tysz, lens, off, offE] <;> omega))) | (refine cond_t ?hc ?_; case hc => first | rfl | assumption | (rw [decide_eq_true_eq]; omega) | (rw [decide_eq_false_iff_not]; omega) | (simp <;> omega)) | (refine cond_f ?hc ?_; case hc => first | rfl | assumption | (rw [decide_eq_true_eq]; omega) | (rw [decide_eq_false_iff_not]; omega) | (simp <;> omega)) | refine same_i ?_)
      conv => whnf
      refine loop_h (Ix 32) (fun q => ⟨[(1, .ptr 0 0 0 []), (3, .sl 1 0 0 [] 32 32), (4, .int q.i)], [.mk 72 [.arr32 8 x], .mk 5 [.arr8 32 (putSt x q.i)]]⟩)
        (fun q => 32 - q.i) ⟨0, Nat.zero_le _⟩ [0, 1] ?_ ?_
      · repeat ((conv => whnf); first | (refine pre_i ?hc ?_; case hc => first | exact (show planOK _ _ _ = true from by kernel_rfl) | assumption | omega | (unfold fits; omega) | decide +kernel | (constructor <;> first | assumption | omega) | (simp only [off_addO, tysz, off, offE] <;> omega) | (simp only [lens, off_addO, off, offE] <;> omega) | (simp only [off_addO, tysz, lens, off, offE] <;> omega) | (constructor <;> first | assumption | (simp only [off_addO, tysz, lens, off, offE] <;> omega))) | (refine cond_t ?hc ?_; case hc => first | rfl | assumption | (rw [decide_eq_true_eq]; omega) | (rw [decide_eq_false_iff_not]; omega) | (simp <;> omega)) | (refine cond_f ?hc ?_; case hc => first | rfl | assumption | (rw [decide_eq_true_eq]; omega) | (rw [decide_eq_false_iff_not]; omega) | (simp <;> omega)) | refine same_i ?_)
        exact trivial
      · intro q
        have hi := q.hi
        have hl := putSt_len x q.i
        by_cases h4 : q.i < 32
        · have hq0 : 0 ≤ (q.i : Int).tdiv 4 := Int.tdiv_nonneg (by omega) (by omega)
          have hq1 : (q.i : Int).tdiv 4 ≤ 7 := by rw [Int.tdiv_eq_ediv_of_nonneg (by omega)]; omega
          have hr0 : 0 ≤ (q.i : Int).tmod 4 := Int.tmod_nonneg _ (by omega)
          have hr1 : (q.i : Int).tmod 4 < 4 := Int.tmod_lt_of_pos _ (by omega)
          have hI : ((q.i : Int)).toNat = q.i := Int.toNat_natCast _
          repeat ((conv => whnf); first | (refine pre_i ?hc ?_; case hc => first | exact (show planOK _ _ _ = true from by kernel_rfl) | assumption | omega | (unfold fits; omega) | decide +kernel | (constructor <;> first | assumption | omega) | (simp only [off_addO, tysz, off, offE] <;> omega) | (simp only [lens, off_addO, off, offE] <;> omega) | (simp only [off_addO, tysz, lens, off, offE] <;> omega) | (constructor <;> first | assumption | (simp only [off_addO, tysz, lens, off, offE] <;> omega))) | (refine cond_t ?hc ?_; case hc => first | rfl | assumption | (rw [decide_eq_true_eq]; omega) | (rw [decide_eq_false_iff_not]; omega) | (simp <;> omega)) | (refine cond_f ?hc ?_; case hc => first | rfl | assumption | (rw [decide_eq_true_eq]; omega) | (rw [decide_eq_false_iff_not]; omega) | (simp <;> omega)) | refine same_i ?_)
          conv => whnf
          refine ⟨⟨q.i + 1, h4⟩, [0, 1], ?_, ?_⟩
          · show 32 - (q.i + 1) < 32 - q.i
            omega
          · repeat ((conv => whnf); first | (refine pre_i ?hc ?_; case hc => first | exact (show planOK _ _ _ = true from by kernel_rfl) | assumption | omega | (unfold fits; omega) | decide +kernel | (constructor <;> first | assumption | omega) | (simp only [off_addO, tysz, off, offE] <;> omega) | (simp only [lens, off_addO, off, offE] <;> omega) | (simp only [off_addO, tysz, lens, off, offE] <;> omega) | (constructor <;> first | assumption | (simp only [off_addO, tysz, lens, off, offE] <;> omega))) | (refine cond_t ?hc ?_; case hc => first | rfl | assumption | (rw [decide_eq_true_eq]; omega) | (rw [decide_eq_false_iff_not]; omega) | (simp <;> omega)) | (refine cond_f ?hc ?_; case hc => first | rfl | assumption | (rw [decide_eq_true_eq]; omega) | (rw [decide_eq_false_iff_not]; omega) | (simp <;> omega)) | refine same_i ?_)
            exact trivial
        · have e4 : q.i = 32 := by omega
          have eb : List.take 32 (List.drop (off []) (putSt x q.i)) = beB 32 (Num32.val x) := by
            rw [e4, put_val hx]
            exact List.take_of_length_le (Nat.le_of_eq (beB_len 32 _))
          repeat ((conv => whnf); first | (refine pre_i ?hc ?_; case hc => first | exact (show planOK _ _ _ = true from by kernel_rfl) | assumption | omega | (unfold fits; omega) | decide +kernel | (constructor <;> first | assumption | omega) | (simp only [off_addO, tysz, off, offE] <;> omega) | (simp only [lens, off_addO, off, offE] <;> omega) | (simp only [off_addO, tysz, lens, off, offE] <;> omega) | (constructor <;> first | assumption | (simp only [off_addO, tysz, lens, off, offE] <;> omega))) | (refine cond_t ?hc ?_; case hc => first | rfl | assumption | (rw [decide_eq_true_eq]; omega) | (rw [decide_eq_false_iff_not]; omega) | (simp <;> omega)) | (refine cond_f ?hc ?_; case hc => first | rfl | assumption | (rw [decide_eq_true_eq]; omega) | (rw [decide_eq_false_iff_not]; omega) | (simp <;> omega)) | refine same_i ?_)
          conv => whnf
          rw [eb]
          refine final_h (hp' := []) [] h ?_
          repeat ((conv => whnf); first | (refine pre_i ?hc ?_; case hc => first | exact (show planOK _ _ _ = true from by kernel_rfl) | assumption | omega | (unfold fits; omega) | decide +kernel | (constructor <;> first | assumption | omega) | (simp only [off_addO, tysz, off, offE] <;> omega) | (simp only [lens, off_addO, off, offE] <;> omega) | (simp only [off_addO, tysz, lens, off, offE] <;> omega) | (constructor <;> first | assumption | (simp only [off_addO, tysz, lens, off, offE] <;> omega))) | (refine cond_t ?hc ?_; case hc => first | rfl | assumption | (rw [decide_eq_true_eq]; omega) | (rw [decide_eq_false_iff_not]; omega) | (simp <;> omega)) | (refine cond_f ?hc ?_; case hc => first | rfl | assumption | (rw [decide_eq_true_eq]; omega) | (rw [decide_eq_false_iff_not]; omega) | (simp <;> omega)) | refine same_i ?_)
          exact trivial
    · exact h.elim
end Go.Sym.N

namespace Go.Sym.N
open Go Go.Proofs.Try Go.Sym.Num
open Go.Sym.Num32 (minusSt minusSt_len minus_of mulSt mulSt_len in1 in1_len in2s in2_len mid1 mid1_len mq c0 outL outL_len mul_w mul_z)
set_option maxRecDepth 100000
attribute [local irreducible] Num32.lim Num32.val Num32.mlim md beB beV minusSt mont riOf kR sqL mo toM invL

/-- the orders of the drawn regions of halberdref9.mont -/
def pl75 : List (Nat × List PStep) := [(10, [⟨0, []⟩, ⟨1, []⟩, ⟨2, []⟩, ⟨3, [0, 1, 2]⟩, ⟨4, [0, 1, 2]⟩, ⟨5, [0, 1, 2]⟩, ⟨6, [0, 1, 2]⟩, ⟨7, [0, 1, 2, 3, 4, 5, 6]⟩, ⟨8, [0, 1, 2, 3, 4, 5, 6]⟩, ⟨9, [0, 1, 2, 3, 4, 5, 6]⟩, ⟨10, [0, 1, 2, 3, 4, 5, 6]⟩, ⟨11, [0, 1, 2]⟩, ⟨12, []⟩, ⟨13, [0, 1, 2, 3, 4, 5, 6, 7, 8, 9, 10, 11, 12]⟩, ⟨14, []⟩, ⟨15, []⟩]), (21, [⟨0, []⟩, ⟨1, []⟩, ⟨2, []⟩, ⟨3, [0, 1, 2]⟩, ⟨4, [0, 1, 2, 3]⟩, ⟨5, [0, 1, 2, 3]⟩, ⟨6, [0, 1, 2, 3]⟩, ⟨7, [0, 1, 2, 3]⟩, ⟨8, [0, 1, 2]⟩, ⟨9, []⟩, ⟨10, [0, 1, 2, 3, 4, 5, 6, 7, 8, 9]⟩, ⟨11, []⟩, ⟨12, []⟩])]
/-- the orders of the drawn regions of halberdref9.into -/
def pl70 : List (Nat × List PStep) := [(1, [⟨0, []⟩, ⟨1, [0]⟩, ⟨2, [0, 1]⟩, ⟨3, [0, 1]⟩, ⟨4, []⟩, ⟨5, []⟩])]
/-- the orders of the drawn regions of halberdref9.out -/
def pl78 : List (Nat × List PStep) := []
/-- the orders of the drawn regions of halberdref9.mul -/
def pl47 : List (Nat × List PStep) := [(1, [⟨0, []⟩, ⟨1, [0]⟩, ⟨2, [0, 1]⟩, ⟨4, [0, 1, 2]⟩, ⟨3, [0, 4]⟩, ⟨5, []⟩, ⟨6, []⟩])]
/-- the orders of the drawn regions of halberdref9.power -/
def pl79 : List (Nat × List PStep) := []
/-- the orders of the drawn regions of halberdref9.inv -/
def pl57 : List (Nat × List PStep) := []

def montS : Spec := fun args hp K => match args, hp with
  | [.int w, .arr32 8 x, .arr32 8 y], [] => Pre ((0 ≤ w ∧ w ≤ 2) ∧ x.length = 8 ∧ y.length = 8 ∧ Num32.val x < md w) (K (.arr32 8 (Num32.lim (mont (md w) (riOf (md w)) (Num32.val x) (Num32.val y)))) [])
  | _, _ => False
def rintoS : Spec := fun args hp K => match args, hp with
  | [.int w, .arr32 8 x], [] => Pre ((0 ≤ w ∧ w ≤ 2) ∧ x.length = 8 ∧ Num32.val x < md w) (K (.arr32 8 (Num32.lim (toM (md w) (Num32.val x)))) [])
  | _, _ => False
def routS : Spec := fun args hp K => match args, hp with
  | [.int w, .arr32 8 x], [] => Pre ((0 ≤ w ∧ w ≤ 2) ∧ x.length = 8 ∧ Num32.val x < md w) (K (.arr32 8 (Num32.lim (mont (md w) (riOf (md w)) (Num32.val x) 1))) [])
  | _, _ => False
def rmulS : Spec := fun args hp K => match args, hp with
  | [.int w, .arr32 8 x, .arr32 8 y], [] => Pre ((0 ≤ w ∧ w ≤ 2) ∧ x.length = 8 ∧ y.length = 8 ∧ Num32.val x < md w) (K (.arr32 8 (Num32.lim (Num32.val x * Num32.val y % md w))) [])
  | _, _ => False
def powerS : Spec := fun args hp K => match args, hp with
  | [.int w, .arr32 8 x], [] => Pre ((0 ≤ w ∧ w ≤ 2) ∧ x.length = 8 ∧ Num32.val x < md w) (K (.arr32 8 (Num32.lim (invL (md w) (Num32.val x) (md w - 2) 256))) [])
  | _, _ => False
def rinvS : Spec := fun args hp K => match args, hp with
  | [.int w, .arr32 8 x], [] => Pre ((0 ≤ w ∧ w ≤ 2) ∧ x.length = 8 ∧ Num32.val x < md w) (K (.arr32 8 (Num32.lim (Num32.val x ^ (md w - 2) % md w))) [])
  | _, _ => False
theorem u64gt {x : UInt64} : decide (x > UInt64.ofNat 0) = decide (0 < x.toNat) := by rw [decide_eq_decide, gt_iff_lt, UInt64.lt_iff_toNat_lt]; rfl
theorem mont_s : SoundC prog 75 montS := by
  refine sound_f tys_ok (fnok_cons rmod_s (fnok_cons inverse_s (fnok_cons rless_s (fnok_cons rminus_s fnok_nil)))) rfl func75 rfl call75 (D := pl75) ?_ ?_
  · intro args hp K h
    unfold montS at h
    split at h
    · exact Nat.le_of_ble_eq_true rfl
    · exact h.elim
  · intro args hp K h
    unfold montS at h
    split at h
    · rename_i w x y
      obtain ⟨⟨hw, hx, hy, hlt⟩, h⟩ := pre_e h
      have hm := Num32.mlim_val hw
      have hM := Num32.mlim_len w
      have hk1 := kR_lt hw
      have hk := kR_ok hw
      have hri : (B4 * riOf (md w)) % md w = 1 % md w := by rw [md_ri hw, Nat.mod_eq_of_lt (by have := md_gt hw; omega)]
      rw [← hm] at hlt hri h
      repeat ((conv => whnf); first | (refine pre_i ?hc ?_; case hc => first | exact (show planOK _ _ _ = true from by kernel_rfl) | assumption | omega | (unfold fits; omega) | decide +kernel | (constructor <;> first | assumption | omega) | (simp only [off_addO, tysz, off, offE] <;> omega) | (simp only [lens, off_addO, off, offE] <;> omega) | (simp only [off_addO, tysz, lens, off, offE] <;> omega) | (constructor <;> first | assumption | (simp only [off_addO, tysz, lens, off, offE] <;> omega))) | (refine cond_t ?hc ?_; case hc => first | rfl | assumption | (rw [decide_eq_true_eq]; omega) | (rw [decide_eq_false_iff_not]; omega) | (simp <;> omega)) | (refine cond_f ?hc ?_; case hc => first | rfl | assumption | (rw [decide_eq_true_eq]; omega) | (rw [decide_eq_false_iff_not]; omega) | (simp <;> omega)) | refine same_i ?_)
      conv => whnf
      generalize hMM : Num32.mlim w = M at *
      generalize hkk : kR w = k at *
      generalize riOf (Num32.val M) = ri at *
      refine loop_h (Ix 8) (fun q => ⟨[(4, .ptr 0 0 0 []), (5, .ptr 1 0 0 []), (6, .ptr 2 0 0 []), (7, .ptr 3 0 0 []), (8, .u64 k), (9, .ptr 4 0 0 []), (10, .int q.i)],
        [.mk 72 [.arr32 8 x], .mk 72 [.arr32 8 y], .mk 72 [.arr32 8 [0, 0, 0, 0, 0, 0, 0, 0]], .mk 72 [.arr32 8 M], .mk 108 [.arr64 10 (mulSt x y M k q.i)]]⟩)
        (fun q => 8 - q.i) ⟨0, Nat.zero_le _⟩ [0, 1, 2, 3, 4] ?_ ?_
      · repeat ((conv => whnf); first | (refine pre_i ?hc ?_; case hc => first | exact (show planOK _ _ _ = true from by kernel_rfl) | assumption | omega | (unfold fits; omega) | decide +kernel | (constructor <;> first | assumption | omega) | (simp only [off_addO, tysz, off, offE] <;> omega) | (simp only [lens, off_addO, off, offE] <;> omega) | (simp only [off_addO, tysz, lens, off, offE] <;> omega) | (constructor <;> first | assumption | (simp only [off_addO, tysz, lens, off, offE] <;> omega))) | (refine cond_t ?hc ?_; case hc => first | rfl | assumption | (rw [decide_eq_true_eq]; omega) | (rw [decide_eq_false_iff_not]; omega) | (simp <;> omega)) | (refine cond_f ?hc ?_; case hc => first | rfl | assumption | (rw [decide_eq_true_eq]; omega) | (rw [decide_eq_false_iff_not]; omega) | (simp <;> omega)) | refine same_i ?_)
        exact trivial
      · intro q
        have hi := q.hi
        have hl := mulSt_len x y M k q.i
        have hI : ((q.i : Int)).toNat = q.i := Int.toNat_natCast _
        by_cases h4 : q.i < 8
        · repeat ((conv => whnf); first | (refine pre_i ?hc ?_; case hc => first | exact (show planOK _ _ _ = true from by kernel_rfl) | assumption | omega | (unfold fits; omega) | decide +kernel | (constructor <;> first | assumption | omega) | (simp only [off_addO, tysz, off, offE] <;> omega) | (simp only [lens, off_addO, off, offE] <;> omega) | (simp only [off_addO, tysz, lens, off, offE] <;> omega) | (constructor <;> first | assumption | (simp only [off_addO, tysz, lens, off, offE] <;> omega))) | (refine cond_t ?hc ?_; case hc => first | rfl | assumption | (rw [decide_eq_true_eq]; omega) | (rw [decide_eq_false_iff_not]; omega) | (simp <;> omega)) | (refine cond_f ?hc ?_; case hc => first | rfl | assumption | (rw [decide_eq_true_eq]; omega) | (rw [decide_eq_false_iff_not]; omega) | (simp <;> omega)) | refine same_i ?_)
          conv => whnf
          refine loop_h (Ix 8) (fun r => ⟨[(4, .ptr 0 0 0 []), (5, .ptr 1 0 0 []), (6, .ptr 2 0 0 []), (7, .ptr 3 0 0 []), (8, .u64 k), (9, .ptr 4 0 0 []), (10, .int q.i), (11, .u64 (in1 x (y.getD q.i 0) (mulSt x y M k q.i) r.i).2), (12, .int r.i)],
            [.mk 72 [.arr32 8 x], .mk 72 [.arr32 8 y], .mk 72 [.arr32 8 [0, 0, 0, 0, 0, 0, 0, 0]], .mk 72 [.arr32 8 M], .mk 108 [.arr64 10 (in1 x (y.getD q.i 0) (mulSt x y M k q.i) r.i).1]]⟩)
            (fun r => 8 - r.i) ⟨0, Nat.zero_le _⟩ [0, 1, 2, 3, 4] ?_ ?_
          · repeat ((conv => whnf); first | (refine pre_i ?hc ?_; case hc => first | exact (show planOK _ _ _ = true from by kernel_rfl) | assumption | omega | (unfold fits; omega) | decide +kernel | (constructor <;> first | assumption | omega) | (simp only [off_addO, tysz, off, offE] <;> omega) | (simp only [lens, off_addO, off, offE] <;> omega) | (simp only [off_addO, tysz, lens, off, offE] <;> omega) | (constructor <;> first | assumption | (simp only [off_addO, tysz, lens, off, offE] <;> omega))) | (refine cond_t ?hc ?_; case hc => first | rfl | assumption | (rw [decide_eq_true_eq]; omega) | (rw [decide_eq_false_iff_not]; omega) | (simp <;> omega)) | (refine cond_f ?hc ?_; case hc => first | rfl | assumption | (rw [decide_eq_true_eq]; omega) | (rw [decide_eq_false_iff_not]; omega) | (simp <;> omega)) | refine same_i ?_)
            exact trivial
          · intro r
            have hri := r.hi
            have hl1 := in1_len (a := x) (bi := y.getD q.i 0) hl r.i
            have hI2 : ((r.i : Int)).toNat = r.i := Int.toNat_natCast _
            by_cases h5 : r.i < 8
            · repeat ((conv => whnf); first | (refine pre_i ?hc ?_; case hc => first | exact (show planOK _ _ _ = true from by kernel_rfl) | assumption | omega | (unfold fits; omega) | decide +kernel | (constructor <;> first | assumption | omega) | (simp only [off_addO, tysz, off, offE] <;> omega) | (simp only [lens, off_addO, off, offE] <;> omega) | (simp only [off_addO, tysz, lens, off, offE] <;> omega) | (constructor <;> first | assumption | (simp only [off_addO, tysz, lens, off, offE] <;> omega))) | (refine cond_t ?hc ?_; case hc => first | rfl | assumption | (rw [decide_eq_true_eq]; omega) | (rw [decide_eq_false_iff_not]; omega) | (simp <;> omega)) | (refine cond_f ?hc ?_; case hc => first | rfl | assumption | (rw [decide_eq_true_eq]; omega) | (rw [decide_eq_false_iff_not]; omega) | (simp <;> omega)) | refine same_i ?_)
              conv => whnf
              refine ⟨⟨r.i + 1, h5⟩, [0, 1, 2, 3, 4], ?_, ?_⟩
              · show 8 - (r.i + 1) < 8 - r.i
                omega
              · repeat ((conv => whnf); first | (refine pre_i ?hc ?_; case hc => first | exact (show planOK _ _ _ = true from by kernel_rfl) | assumption | omega | (unfold fits; omega) | decide +kernel | (constructor <;> first | assumption | omega) | (simp only [off_addO, tysz, off, offE] <;> omega) | (simp only [lens, off_addO, off, offE] <;> omega) | (simp only [off_addO, tysz, lens, off, offE] <;> omega) | (constructor <;> first | assumption | (simp only [off_addO, tysz, lens, off, offE] <;> omega))) | (refine cond_t ?hc ?_; case hc => first | rfl | assumption | (rw [decide_eq_true_eq]; omega) | (rw [decide_eq_false_iff_not]; omega) | (simp <;> omega)) | (refine cond_f ?hc ?_; case hc => first | rfl | assumption | (rw [decide_eq_true_eq]; omega) | (rw [decide_eq_false_iff_not]; omega) | (simp <;> omega)) | refine same_i ?_)
                exact trivial
            · have e4 : r.i = 8 := by omega
              have hl2 := mid1_len (a := x) (bi := y.getD q.i 0) hl
              rw [e4] at hl1
              repeat ((conv => whnf); first | (refine pre_i ?hc ?_; case hc => first | exact (show planOK _ _ _ = true from by kernel_rfl) | assumption | omega | (unfold fits; omega) | decide +kernel | (constructor <;> first | assumption | omega) | (simp only [off_addO, tysz, off, offE] <;> omega) | (simp only [lens, off_addO, off, offE] <;> omega) | (simp only [off_addO, tysz, lens, off, offE] <;> omega) | (constructor <;> first | assumption | (simp only [off_addO, tysz, lens, off, offE] <;> omega))) | (refine cond_t ?hc ?_; case hc => first | rfl | assumption | (rw [decide_eq_true_eq]; omega) | (rw [decide_eq_false_iff_not]; omega) | (simp <;> omega)) | (refine cond_f ?hc ?_; case hc => first | rfl | assumption | (rw [decide_eq_true_eq]; omega) | (rw [decide_eq_false_iff_not]; omega) | (simp <;> omega)) | refine same_i ?_)
              conv => whnf
              rw [e4]
              repeat ((conv => whnf); first | (refine pre_i ?hc ?_; case hc => first | exact (show planOK _ _ _ = true from by kernel_rfl) | assumption | omega | (unfold fits; omega) | decide +kernel | (constructor <;> first | assumption | omega) | (simp only [off_addO, tysz, off, offE] <;> omega) | (simp only [lens, off_addO, off, offE] <;> omega) | (simp only [off_addO, tysz, lens, off, offE] <;> omega) | (constructor <;> first | assumption | (simp only [off_addO, tysz, lens, off, offE] <;> omega))) | (refine cond_t ?hc ?_; case hc => first | rfl | assumption | (rw [decide_eq_true_eq]; omega) | (rw [decide_eq_false_iff_not]; omega) | (simp <;> omega)) | (refine cond_f ?hc ?_; case hc => first | rfl | assumption | (rw [decide_eq_true_eq]; omega) | (rw [decide_eq_false_iff_not]; omega) | (simp <;> omega)) | refine same_i ?_)
              conv => whnf
              refine loop_h (Ix 7) (fun u => ⟨[(4, .ptr 0 0 0 []), (5, .ptr 1 0 0 []), (6, .ptr 2 0 0 []), (7, .ptr 3 0 0 []), (8, .u64 k), (9, .ptr 4 0 0 []), (10, .int q.i), (11, .u64 (in2s x (y.getD q.i 0) M k (mulSt x y M k q.i) u.i).2), (15, .u64 (mq x (y.getD q.i 0) k (mulSt x y M k q.i))), (16, .int ((u.i : Int) + 1))],
                [.mk 72 [.arr32 8 x], .mk 72 [.arr32 8 y], .mk 72 [.arr32 8 [0, 0, 0, 0, 0, 0, 0, 0]], .mk 72 [.arr32 8 M], .mk 108 [.arr64 10 (in2s x (y.getD q.i 0) M k (mulSt x y M k q.i) u.i).1]]⟩)
                (fun u => 7 - u.i) ⟨0, Nat.zero_le _⟩ [0, 1, 2, 3, 4] ?_ ?_
              · repeat ((conv => whnf); first | (refine pre_i ?hc ?_; case hc => first | exact (show planOK _ _ _ = true from by kernel_rfl) | assumption | omega | (unfold fits; omega) | decide +kernel | (constructor <;> first | assumption | omega) | (simp only [off_addO, tysz, off, offE] <;> omega) | (simp only [lens, off_addO, off, offE] <;> omega) | (simp only [off_addO, tysz, lens, off, offE] <;> omega) | (constructor <;> first | assumption | (simp only [off_addO, tysz, lens, off, offE] <;> omega))) | (refine cond_t ?hc ?_; case hc => first | rfl | assumption | (rw [decide_eq_true_eq]; omega) | (rw [decide_eq_false_iff_not]; omega) | (simp <;> omega)) | (refine cond_f ?hc ?_; case hc => first | rfl | assumption | (rw [decide_eq_true_eq]; omega) | (rw [decide_eq_false_iff_not]; omega) | (simp <;> omega)) | refine same_i ?_)
                exact trivial
              · intro u
                have hui := u.hi
                have hl3 := in2_len (m := M) (q := mq x (y.getD q.i 0) k (mulSt x y M k q.i)) (c := c0 M (mid1 x (y.getD q.i 0) (mulSt x y M k q.i)) (mq x (y.getD q.i 0) k (mulSt x y M k q.i))) hl2 u.i
                have hl3' : (in2s x (y.getD q.i 0) M k (mulSt x y M k q.i) u.i).1.length = 10 := hl3
                by_cases h6 : u.i < 7
                · repeat ((conv => whnf); first | (refine pre_i ?hc ?_; case hc => first | exact (show planOK _ _ _ = true from by kernel_rfl) | assumption | omega | (unfold fits; omega) | decide +kernel | (constructor <;> first | assumption | omega) | (simp only [off_addO, tysz, off, offE] <;> omega) | (simp only [lens, off_addO, off, offE] <;> omega) | (simp only [off_addO, tysz, lens, off, offE] <;> omega) | (constructor <;> first | assumption | (simp only [off_addO, tysz, lens, off, offE] <;> omega))) | (refine cond_t ?hc ?_; case hc => first | rfl | assumption | (rw [decide_eq_true_eq]; omega) | (rw [decide_eq_false_iff_not]; omega) | (simp <;> omega)) | (refine cond_f ?hc ?_; case hc => first | rfl | assumption | (rw [decide_eq_true_eq]; omega) | (rw [decide_eq_false_iff_not]; omega) | (simp <;> omega)) | refine same_i ?_)
                  conv => whnf
                  refine ⟨⟨u.i + 1, h6⟩, [0, 1, 2, 3, 4], ?_, ?_⟩
                  · show 7 - (u.i + 1) < 7 - u.i
                    omega
                  · repeat ((conv => whnf); first | (refine pre_i ?hc ?_; case hc => first | exact (show planOK _ _ _ = true from by kernel_rfl) | assumption | omega | (unfold fits; omega) | decide +kernel | (constructor <;> first | assumption | omega) | (simp only [off_addO, tysz, off, offE] <;> omega) | (simp only [lens, off_addO, off, offE] <;> omega) | (simp only [off_addO, tysz, lens, off, offE] <;> omega) | (constructor <;> first | assumption | (simp only [off_addO, tysz, lens, off, offE] <;> omega))) | (refine cond_t ?hc ?_; case hc => first | rfl | assumption | (rw [decide_eq_true_eq]; omega) | (rw [decide_eq_false_iff_not]; omega) | (simp <;> omega)) | (refine cond_f ?hc ?_; case hc => first | rfl | assumption | (rw [decide_eq_true_eq]; omega) | (rw [decide_eq_false_iff_not]; omega) | (simp <;> omega)) | refine same_i ?_)
                    exact trivial
                · have e6 : u.i = 7 := by omega
                  repeat ((conv => whnf); first | (refine pre_i ?hc ?_; case hc => first | exact (show planOK _ _ _ = true from by kernel_rfl) | assumption | omega | (unfold fits; omega) | decide +kernel | (constructor <;> first | assumption | omega) | (simp only [off_addO, tysz, off, offE] <;> omega) | (simp only [lens, off_addO, off, offE] <;> omega) | (simp only [off_addO, tysz, lens, off, offE] <;> omega) | (constructor <;> first | assumption | (simp only [off_addO, tysz, lens, off, offE] <;> omega))) | (refine cond_t ?hc ?_; case hc => first | rfl | assumption | (rw [decide_eq_true_eq]; omega) | (rw [decide_eq_false_iff_not]; omega) | (simp <;> omega)) | (refine cond_f ?hc ?_; case hc => first | rfl | assumption | (rw [decide_eq_true_eq]; omega) | (rw [decide_eq_false_iff_not]; omega) | (simp <;> omega)) | refine same_i ?_)
                  conv => whnf
                  rw [e6]
                  refine ⟨⟨q.i + 1, h4⟩, [0, 1, 2, 3, 4], ?_, ?_⟩
                  · show 8 - (q.i + 1) < 8 - q.i
                    omega
                  · repeat ((conv => whnf); first | (refine pre_i ?hc ?_; case hc => first | exact (show planOK _ _ _ = true from by kernel_rfl) | assumption | omega | (unfold fits; omega) | decide +kernel | (constructor <;> first | assumption | omega) | (simp only [off_addO, tysz, off, offE] <;> omega) | (simp only [lens, off_addO, off, offE] <;> omega) | (simp only [off_addO, tysz, lens, off, offE] <;> omega) | (constructor <;> first | assumption | (simp only [off_addO, tysz, lens, off, offE] <;> omega))) | (refine cond_t ?hc ?_; case hc => first | rfl | assumption | (rw [decide_eq_true_eq]; omega) | (rw [decide_eq_false_iff_not]; omega) | (simp <;> omega)) | (refine cond_f ?hc ?_; case hc => first | rfl | assumption | (rw [decide_eq_true_eq]; omega) | (rw [decide_eq_false_iff_not]; omega) | (simp <;> omega)) | refine same_i ?_)
                    exact trivial
        · have e4 : q.i = 8 := by omega
          repeat ((conv => whnf); first | (refine pre_i ?hc ?_; case hc => first | exact (show planOK _ _ _ = true from by kernel_rfl) | assumption | omega | (unfold fits; omega) | decide +kernel | (constructor <;> first | assumption | omega) | (simp only [off_addO, tysz, off, offE] <;> omega) | (simp only [lens, off_addO, off, offE] <;> omega) | (simp only [off_addO, tysz, lens, off, offE] <;> omega) | (constructor <;> first | assumption | (simp only [off_addO, tysz, lens, off, offE] <;> omega))) | (refine cond_t ?hc ?_; case hc => first | rfl | assumption | (rw [decide_eq_true_eq]; omega) | (rw [decide_eq_false_iff_not]; omega) | (simp <;> omega)) | (refine cond_f ?hc ?_; case hc => first | rfl | assumption | (rw [decide_eq_true_eq]; omega) | (rw [decide_eq_false_iff_not]; omega) | (simp <;> omega)) | refine same_i ?_)
          conv => whnf
          rw [e4]
          rw [e4] at hl
          have hw := mul_w hx hy hM hk1 hk hri hlt
          have hzz := mul_z hx hy hM hk1 hk hri hlt
          generalize mulSt x y M k 8 = T at hl hw hzz ⊢
          refine loop_h (Ix 8) (fun r => ⟨[(6, .ptr 2 0 0 []), (7, .ptr 3 0 0 []), (9, .ptr 4 0 0 []), (18, .ptr 5 0 0 []), (19, .int r.i)],
            [.mk 72 [.arr32 8 x], .mk 72 [.arr32 8 y], .mk 72 [.arr32 8 [0, 0, 0, 0, 0, 0, 0, 0]], .mk 72 [.arr32 8 M], .mk 108 [.arr64 10 T], .mk 72 [.arr32 8 (outL T r.i)]]⟩)
            (fun r => 8 - r.i) ⟨0, Nat.zero_le _⟩ [0, 1, 2, 3, 4, 5] ?_ ?_
          · repeat ((conv => whnf); first | (refine pre_i ?hc ?_; case hc => first | exact (show planOK _ _ _ = true from by kernel_rfl) | assumption | omega | (unfold fits; omega) | decide +kernel | (constructor <;> first | assumption | omega) | (simp only [off_addO, tysz, off, offE] <;> omega) | (simp only [lens, off_addO, off, offE] <;> omega) | (simp only [off_addO, tysz, lens, off, offE] <;> omega) | (constructor <;> first | assumption | (simp only [off_addO, tysz, lens, off, offE] <;> omega))) | (refine cond_t ?hc ?_; case hc => first | rfl | assumption | (rw [decide_eq_true_eq]; omega) | (rw [decide_eq_false_iff_not]; omega) | (simp <;> omega)) | (refine cond_f ?hc ?_; case hc => first | rfl | assumption | (rw [decide_eq_true_eq]; omega) | (rw [decide_eq_false_iff_not]; omega) | (simp <;> omega)) | refine same_i ?_)
            exact trivial
          · intro r
            have hri := r.hi
            have hl1 := outL_len T r.i
            have hI2 : ((r.i : Int)).toNat = r.i := Int.toNat_natCast _
            by_cases h5 : r.i < 8
            · repeat ((conv => whnf); first | (refine pre_i ?hc ?_; case hc => first | exact (show planOK _ _ _ = true from by kernel_rfl) | assumption | omega | (unfold fits; omega) | decide +kernel | (constructor <;> first | assumption | omega) | (simp only [off_addO, tysz, off, offE] <;> omega) | (simp only [lens, off_addO, off, offE] <;> omega) | (simp only [off_addO, tysz, lens, off, offE] <;> omega) | (constructor <;> first | assumption | (simp only [off_addO, tysz, lens, off, offE] <;> omega))) | (refine cond_t ?hc ?_; case hc => first | rfl | assumption | (rw [decide_eq_true_eq]; omega) | (rw [decide_eq_false_iff_not]; omega) | (simp <;> omega)) | (refine cond_f ?hc ?_; case hc => first | rfl | assumption | (rw [decide_eq_true_eq]; omega) | (rw [decide_eq_false_iff_not]; omega) | (simp <;> omega)) | refine same_i ?_)
              conv => whnf
              refine ⟨⟨r.i + 1, h5⟩, [0, 1, 2, 3, 4, 5], ?_, ?_⟩
              · show 8 - (r.i + 1) < 8 - r.i
                omega
              · repeat ((conv => whnf); first | (refine pre_i ?hc ?_; case hc => first | exact (show planOK _ _ _ = true from by kernel_rfl) | assumption | omega | (unfold fits; omega) | decide +kernel | (constructor <;> first | assumption | omega) | (simp only [off_addO, tysz, off, offE] <;> omega) | (simp only [lens, off_addO, off, offE] <;> omega) | (simp only [off_addO, tysz, lens, off, offE] <;> omega) | (constructor <;> first | assumption | (simp only [off_addO, tysz, lens, off, offE] <;> omega))) | (refine cond_t ?hc ?_; case hc => first | rfl | assumption | (rw [decide_eq_true_eq]; omega) | (rw [decide_eq_false_iff_not]; omega) | (simp <;> omega)) | (refine cond_f ?hc ?_; case hc => first | rfl | assumption | (rw [decide_eq_true_eq]; omega) | (rw [decide_eq_false_iff_not]; omega) | (simp <;> omega)) | refine same_i ?_)
                exact trivial
            · have e5 : r.i = 8 := by omega
              rw [e5] at hl1
              repeat ((conv => whnf); first | (refine pre_i ?hc ?_; case hc => first | exact (show planOK _ _ _ = true from by kernel_rfl) | assumption | omega | (unfold fits; omega) | decide +kernel | (constructor <;> first | assumption | omega) | (simp only [off_addO, tysz, off, offE] <;> omega) | (simp only [lens, off_addO, off, offE] <;> omega) | (simp only [off_addO, tysz, lens, off, offE] <;> omega) | (constructor <;> first | assumption | (simp only [off_addO, tysz, lens, off, offE] <;> omega))) | (refine cond_t ?hc ?_; case hc => first | rfl | assumption | (rw [decide_eq_true_eq]; omega) | (rw [decide_eq_false_iff_not]; omega) | (simp <;> omega)) | (refine cond_f ?hc ?_; case hc => first | rfl | assumption | (rw [decide_eq_true_eq]; omega) | (rw [decide_eq_false_iff_not]; omega) | (simp <;> omega)) | refine same_i ?_)
              conv => whnf
              rw [e5]
              refine cond_i (fun hc => ?_) (fun hc => ?_)
              · have hc1 : ¬ (0 : UInt64) < T.getD 8 0 := by
                  have : (decide ((0 : UInt64) < T.getD 8 0) == false) = true := hc
                  simpa using this
                have hc2 : ¬ 0 < (T.getD 8 0).toNat := fun hh => hc1 (UInt64.lt_iff_toNat_lt.2 hh)
                have hd : decide (UInt64.ofNat 0 < T.getD (off (addO [] (Int.toNat 8) ty77.sz)) 0) = false := decide_eq_false hc1
                by_cases hb : Num32.val (outL T 8) < Num32.val M
                · have hbd := decide_eq_true hb
                  repeat ((conv => whnf); first | (refine pre_i ?hc ?_; case hc => first | exact (show planOK _ _ _ = true from by kernel_rfl) | assumption | omega | (unfold fits; omega) | decide +kernel | (constructor <;> first | assumption | omega) | (simp only [off_addO, tysz, off, offE] <;> omega) | (simp only [lens, off_addO, off, offE] <;> omega) | (simp only [off_addO, tysz, lens, off, offE] <;> omega) | (constructor <;> first | assumption | (simp only [off_addO, tysz, lens, off, offE] <;> omega))) | (refine cond_t ?hc ?_; case hc => first | rfl | assumption | (rw [decide_eq_true_eq]; omega) | (rw [decide_eq_false_iff_not]; omega) | (simp <;> omega) | exact hbd | (rw [hbd]; rfl) | exact hd | (rw [hd]; rfl)) | (refine cond_f ?hc ?_; case hc => first | rfl | assumption | (rw [decide_eq_true_eq]; omega) | (rw [decide_eq_false_iff_not]; omega) | (simp <;> omega) | exact hbd | (rw [hbd]; rfl) | exact hd | (rw [hd]; rfl)) | refine same_i ?_)
                  conv => whnf
                  rw [hzz hc2 hb]
                  refine final_h (hp' := []) [] h ?_
                  repeat ((conv => whnf); first | (refine pre_i ?hc ?_; case hc => first | exact (show planOK _ _ _ = true from by kernel_rfl) | assumption | omega | (unfold fits; omega) | decide +kernel | (constructor <;> first | assumption | omega) | (simp only [off_addO, tysz, off, offE] <;> omega) | (simp only [lens, off_addO, off, offE] <;> omega) | (simp only [off_addO, tysz, lens, off, offE] <;> omega) | (constructor <;> first | assumption | (simp only [off_addO, tysz, lens, off, offE] <;> omega))) | (refine cond_t ?hc ?_; case hc => first | rfl | assumption | (rw [decide_eq_true_eq]; omega) | (rw [decide_eq_false_iff_not]; omega) | (simp <;> omega)) | (refine cond_f ?hc ?_; case hc => first | rfl | assumption | (rw [decide_eq_true_eq]; omega) | (rw [decide_eq_false_iff_not]; omega) | (simp <;> omega)) | refine same_i ?_)
                  exact trivial
                · have hbd := decide_eq_false hb
                  repeat ((conv => whnf); first | (refine pre_i ?hc ?_; case hc => first | exact (show planOK _ _ _ = true from by kernel_rfl) | assumption | omega | (unfold fits; omega) | decide +kernel | (constructor <;> first | assumption | omega) | (simp only [off_addO, tysz, off, offE] <;> omega) | (simp only [lens, off_addO, off, offE] <;> omega) | (simp only [off_addO, tysz, lens, off, offE] <;> omega) | (constructor <;> first | assumption | (simp only [off_addO, tysz, lens, off, offE] <;> omega))) | (refine cond_t ?hc ?_; case hc => first | rfl | assumption | (rw [decide_eq_true_eq]; omega) | (rw [decide_eq_false_iff_not]; omega) | (simp <;> omega) | exact hbd | (rw [hbd]; rfl) | exact hd | (rw [hd]; rfl)) | (refine cond_f ?hc ?_; case hc => first | rfl | assumption | (rw [decide_eq_true_eq]; omega) | (rw [decide_eq_false_iff_not]; omega) | (simp <;> omega) | exact hbd | (rw [hbd]; rfl) | exact hd | (rw [hd]; rfl)) | refine same_i ?_)
                  conv => whnf
                  rw [hw (.inr hb)]
                  refine final_h (hp' := []) [] h ?_
                  repeat ((conv => whnf); first | (refine pre_i ?hc ?_; case hc => first | exact (show planOK _ _ _ = true from by kernel_rfl) | assumption | omega | (unfold fits; omega) | decide +kernel | (constructor <;> first | assumption | omega) | (simp only [off_addO, tysz, off, offE] <;> omega) | (simp only [lens, off_addO, off, offE] <;> omega) | (simp only [off_addO, tysz, lens, off, offE] <;> omega) | (constructor <;> first | assumption | (simp only [off_addO, tysz, lens, off, offE] <;> omega))) | (refine cond_t ?hc ?_; case hc => first | rfl | assumption | (rw [decide_eq_true_eq]; omega) | (rw [decide_eq_false_iff_not]; omega) | (simp <;> omega)) | (refine cond_f ?hc ?_; case hc => first | rfl | assumption | (rw [decide_eq_true_eq]; omega) | (rw [decide_eq_false_iff_not]; omega) | (simp <;> omega)) | refine same_i ?_)
                  exact trivial
              · have hc1 : (0 : UInt64) < T.getD 8 0 := by
                  have : (decide ((0 : UInt64) < T.getD 8 0) == false) = false := hc
                  simpa using this
                have hc2 : 0 < (T.getD 8 0).toNat := UInt64.lt_iff_toNat_lt.1 hc1
                have hd : decide (UInt64.ofNat 0 < T.getD (off (addO [] (Int.toNat 8) ty77.sz)) 0) = true := decide_eq_true hc1
                repeat ((conv => whnf); first | (refine pre_i ?hc ?_; case hc => first | exact (show planOK _ _ _ = true from by kernel_rfl) | assumption | omega | (unfold fits; omega) | decide +kernel | (constructor <;> first | assumption | omega) | (simp only [off_addO, tysz, off, offE] <;> omega) | (simp only [lens, off_addO, off, offE] <;> omega) | (simp only [off_addO, tysz, lens, off, offE] <;> omega) | (constructor <;> first | assumption | (simp only [off_addO, tysz, lens, off, offE] <;> omega))) | (refine cond_t ?hc ?_; case hc => first | rfl | assumption | (rw [decide_eq_true_eq]; omega) | (rw [decide_eq_false_iff_not]; omega) | (simp <;> omega) | exact hd | (rw [hd]; rfl)) | (refine cond_f ?hc ?_; case hc => first | rfl | assumption | (rw [decide_eq_true_eq]; omega) | (rw [decide_eq_false_iff_not]; omega) | (simp <;> omega) | exact hd | (rw [hd]; rfl)) | refine same_i ?_)
                conv => whnf
                rw [hw (.inl hc2)]
                refine final_h (hp' := []) [] h ?_
                repeat ((conv => whnf); first | (refine pre_i ?hc ?_; case hc => first | exact (show planOK _ _ _ = true from by kernel_rfl) | assumption | omega | (unfold fits; omega) | decide +kernel | (constructor <;> first | assumption | omega) | (simp only [off_addO, tysz, off, offE] <;> omega) | (simp only [lens, off_addO, off, offE] <;> omega) | (simp only [off_addO, tysz, lens, off, offE] <;> omega) | (constructor <;> first | assumption | (simp only [off_addO, tysz, lens, off, offE] <;> omega))) | (refine cond_t ?hc ?_; case hc => first | rfl | assumption | (rw [decide_eq_true_eq]; omega) | (rw [decide_eq_false_iff_not]; omega) | (simp <;> omega)) | (refine cond_f ?hc ?_; case hc => first | rfl | assumption | (rw [decide_eq_true_eq]; omega) | (rw [decide_eq_false_iff_not]; omega) | (simp <;> omega)) | refine same_i ?_)
                exact trivial
    · exact h.elim
theorem one1 : [0, 0, 0, 0, 0, 0, 0, 0].set (off [(0, ty70.sz)]) (UInt32.ofNat 1) = Num32.lim 1 := by unfold Num32.lim; rfl
theorem two1 : [0, 0, 0, 0, 0, 0, 0, 0].set (off [(0, ty70.sz)]) (UInt32.ofNat 2) = Num32.lim 2 := by unfold Num32.lim; rfl
theorem mont_mo (m a b : Nat) : mont m (riOf m) a b = mo m a b := by unfold mo; rfl
theorem minus_two {n : Nat} (h : 2 < n) (hn : n < B4) {m : List UInt32} (hm : m.length = 8) (he : Num32.val m = n) : (minusSt m (Num32.lim 2) 8).1 = Num32.lim (n - 2) := by
  rw [minus_of hm (Num32.lim_len 2), he, Num32.val_lim (by unfold B4; decide)]
  have e : (n + (B4 - 2)) % B4 = n - 2 := by
    have : 2 < B4 := by unfold B4; decide
    rw [show n + (B4 - 2) = n - 2 + B4 by omega, Nat.add_mod_right, Nat.mod_eq_of_lt (by omega)]
  rw [e]
/-- a bit of a number's words -/
theorem rbit {e i : Nat} (hi : i < 256) : (((Num32.lim e).getD (i / 32) 0 >>> UInt32.ofNat (i % 32)) &&& UInt32.ofNat 1 = UInt32.ofNat 1) ↔ e / 2 ^ i % 2 = 1 := by
  have hq : i / 32 = 0 ∨ i / 32 = 1 ∨ i / 32 = 2 ∨ i / 32 = 3 ∨ i / 32 = 4 ∨ i / 32 = 5 ∨ i / 32 = 6 ∨ i / 32 = 7 := by omega
  have key : ∀ (a r : Nat), r < 32 → ((UInt32.ofNat a >>> UInt32.ofNat r) &&& UInt32.ofNat 1 = UInt32.ofNat 1 ↔ a / 2 ^ r % 2 = 1) := by
    intro a r hr
    rw [← UInt32.toNat_inj, UInt32.toNat_and, UInt32.toNat_shiftRight, Num32.ofNat_lt (n := r) (by omega), Num32.ofNat_lt (n := 1) (by decide), Num32.ofNat_mod, Nat.mod_eq_of_lt hr, Nat.shiftRight_eq_div_pow, Nat.and_one_is_mod]
    have e32 : (4294967296 : Nat) = 2 ^ r * (2 * 2 ^ (31 - r)) := by
      have : (4294967296 : Nat) = 2 ^ 32 := by decide
      rw [this, ← Nat.pow_succ', ← Nat.pow_add]; congr 1; omega
    rw [e32, Nat.mod_mul_right_div_self, Nat.mod_mul_right_mod]
  have hr : i % 32 < 32 := Nat.mod_lt _ (by decide)
  have hi2 : i = 32 * (i / 32) + i % 32 := by omega
  have hp : e / 2 ^ i = e / 2 ^ (32 * (i / 32)) / 2 ^ (i % 32) := by rw [Nat.div_div_eq_div_mul, ← Nat.pow_add, ← hi2]
  rw [hp]
  unfold Num32.lim
  rcases hq with h | h | h | h | h | h | h | h <;> rw [h]
  · rw [List.getD_cons_zero, key _ _ hr]; simp
  · rw [List.getD_cons_succ, List.getD_cons_zero, key _ _ hr]
  · rw [List.getD_cons_succ, List.getD_cons_succ, List.getD_cons_zero, key _ _ hr]
  · rw [List.getD_cons_succ, List.getD_cons_succ, List.getD_cons_succ, List.getD_cons_zero, key _ _ hr]
  · rw [List.getD_cons_succ, List.getD_cons_succ, List.getD_cons_succ, List.getD_cons_succ, List.getD_cons_zero, key _ _ hr]
  · rw [List.getD_cons_succ, List.getD_cons_succ, List.getD_cons_succ, List.getD_cons_succ, List.getD_cons_succ, List.getD_cons_zero, key _ _ hr]
  · rw [List.getD_cons_succ, List.getD_cons_succ, List.getD_cons_succ, List.getD_cons_succ, List.getD_cons_succ, List.getD_cons_succ, List.getD_cons_zero, key _ _ hr]
  · rw [List.getD_cons_succ, List.getD_cons_succ, List.getD_cons_succ, List.getD_cons_succ, List.getD_cons_succ, List.getD_cons_succ, List.getD_cons_succ, List.getD_cons_zero, key _ _ hr]
theorem rinto_s : SoundC prog 70 rintoS := by
  refine sound_f tys_ok (fnok_cons mont_s (fnok_cons square_s fnok_nil)) rfl func70 rfl call70 (D := pl70) ?_ ?_
  · intro args hp K h
    unfold rintoS at h
    split at h
    · exact Nat.le_of_ble_eq_true rfl
    · exact h.elim
  · intro args hp K h
    unfold rintoS at h
    split at h
    · rename_i w x
      obtain ⟨⟨hw, hx, hlt⟩, h⟩ := pre_e h
      have hs := sqL_eq hw
      have hsl : (sqL w).length = 8 := by rw [hs]; exact Num32.lim_len _
      have hv : Num32.val (sqL w) = B4 * B4 % md w := by rw [hs]; exact Num32.val_lim (Nat.lt_trans (Nat.mod_lt _ (by have := md_gt hw; omega)) (md_lt hw))
      repeat ((conv => whnf); first | (refine pre_i ?hc ?_; case hc => first | exact (show planOK _ _ _ = true from by kernel_rfl) | assumption | omega | (unfold fits; omega) | decide +kernel | (constructor <;> first | assumption | omega) | (simp only [off_addO, tysz, off, offE] <;> omega) | (simp only [lens, off_addO, off, offE] <;> omega) | (simp only [off_addO, tysz, lens, off, offE] <;> omega) | (constructor <;> first | assumption | (simp only [off_addO, tysz, lens, off, offE] <;> omega))) | (refine cond_t ?hc ?_; case hc => first | rfl | assumption | (rw [decide_eq_true_eq]; omega) | (rw [decide_eq_false_iff_not]; omega) | (simp <;> omega)) | (refine cond_f ?hc ?_; case hc => first | rfl | assumption | (rw [decide_eq_true_eq]; omega) | (rw [decide_eq_false_iff_not]; omega) | (simp <;> omega)) | refine same_i ?_)
      conv => whnf
      rw [hv, mont_mo, mo_in (md_ri hw)]
      refine final_h (hp' := []) [] h ?_
      repeat ((conv => whnf); first | (refine pre_i ?hc ?_; case hc => first | exact (show planOK _ _ _ = true from by kernel_rfl) | assumption | omega | (unfold fits; omega) | decide +kernel | (constructor <;> first | assumption | omega) | (simp only [off_addO, tysz, off, offE] <;> omega) | (simp only [lens, off_addO, off, offE] <;> omega) | (simp only [off_addO, tysz, lens, off, offE] <;> omega) | (constructor <;> first | assumption | (simp only [off_addO, tysz, lens, off, offE] <;> omega))) | (refine cond_t ?hc ?_; case hc => first | rfl | assumption | (rw [decide_eq_true_eq]; omega) | (rw [decide_eq_false_iff_not]; omega) | (simp <;> omega)) | (refine cond_f ?hc ?_; case hc => first | rfl | assumption | (rw [decide_eq_true_eq]; omega) | (rw [decide_eq_false_iff_not]; omega) | (simp <;> omega)) | refine same_i ?_)
      exact trivial
    · exact h.elim
theorem rout_s : SoundC prog 78 routS := by
  refine sound_f tys_ok (fnok_cons mont_s fnok_nil) rfl func78 rfl call78 (D := pl78) ?_ ?_
  · intro args hp K h
    unfold routS at h
    split at h
    · exact Nat.le_of_ble_eq_true rfl
    · exact h.elim
  · intro args hp K h
    unfold routS at h
    split at h
    · rename_i w x
      obtain ⟨⟨hw, hx, hlt⟩, h⟩ := pre_e h
      have hsl : (Num32.lim 1).length = 8 := Num32.lim_len _
      have hv : Num32.val (Num32.lim 1) = 1 := Num32.val_lim (by unfold B4; decide)
      repeat ((conv => whnf); first | (refine pre_i ?hc ?_; case hc => first | exact (show planOK _ _ _ = true from by kernel_rfl) | assumption | omega | (unfold fits; omega) | decide +kernel | (constructor <;> first | assumption | omega) | (simp only [off_addO, tysz, off, offE] <;> omega) | (simp only [lens, off_addO, off, offE] <;> omega) | (simp only [off_addO, tysz, lens, off, offE] <;> omega) | (constructor <;> first | assumption | (simp only [off_addO, tysz, lens, off, offE] <;> omega))) | (refine cond_t ?hc ?_; case hc => first | rfl | assumption | (rw [decide_eq_true_eq]; omega) | (rw [decide_eq_false_iff_not]; omega) | (simp <;> omega)) | (refine cond_f ?hc ?_; case hc => first | rfl | assumption | (rw [decide_eq_true_eq]; omega) | (rw [decide_eq_false_iff_not]; omega) | (simp <;> omega)) | refine same_i ?_)
      conv => whnf
      rw [one1]
      repeat ((conv => whnf); first | (refine pre_i ?hc ?_; case hc => first | exact (show planOK _ _ _ = true from by kernel_rfl) | assumption | omega | (unfold fits; omega) | decide +kernel | (constructor <;> first | assumption | omega) | (simp only [off_addO, tysz, off, offE] <;> omega) | (simp only [lens, off_addO, off, offE] <;> omega) | (simp only [off_addO, tysz, lens, off, offE] <;> omega) | (constructor <;> first | assumption | (simp only [off_addO, tysz, lens, off, offE] <;> omega))) | (refine cond_t ?hc ?_; case hc => first | rfl | assumption | (rw [decide_eq_true_eq]; omega) | (rw [decide_eq_false_iff_not]; omega) | (simp <;> omega)) | (refine cond_f ?hc ?_; case hc => first | rfl | assumption | (rw [decide_eq_true_eq]; omega) | (rw [decide_eq_false_iff_not]; omega) | (simp <;> omega)) | refine same_i ?_)
      conv => whnf
      rw [hv]
      refine final_h (hp' := []) [] h ?_
      repeat ((conv => whnf); first | (refine pre_i ?hc ?_; case hc => first | exact (show planOK _ _ _ = true from by kernel_rfl) | assumption | omega | (unfold fits; omega) | decide +kernel | (constructor <;> first | assumption | omega) | (simp only [off_addO, tysz, off, offE] <;> omega) | (simp only [lens, off_addO, off, offE] <;> omega) | (simp only [off_addO, tysz, lens, off, offE] <;> omega) | (constructor <;> first | assumption | (simp only [off_addO, tysz, lens, off, offE] <;> omega))) | (refine cond_t ?hc ?_; case hc => first | rfl | assumption | (rw [decide_eq_true_eq]; omega) | (rw [decide_eq_false_iff_not]; omega) | (simp <;> omega)) | (refine cond_f ?hc ?_; case hc => first | rfl | assumption | (rw [decide_eq_true_eq]; omega) | (rw [decide_eq_false_iff_not]; omega) | (simp <;> omega)) | refine same_i ?_)
      exact trivial
    · exact h.elim
theorem rmul_s : SoundC prog 47 rmulS := by
  refine sound_f tys_ok (fnok_cons rinto_s (fnok_cons mont_s fnok_nil)) rfl func47 rfl call47 (D := pl47) ?_ ?_
  · intro args hp K h
    unfold rmulS at h
    split at h
    · exact Nat.le_of_ble_eq_true rfl
    · exact h.elim
  · intro args hp K h
    unfold rmulS at h
    split at h
    · rename_i w x y
      obtain ⟨⟨hw, hx, hy, hlt⟩, h⟩ := pre_e h
      have hpos : 0 < md w := by have := md_gt hw; omega
      have ht : toM (md w) (Num32.val x) < md w := by unfold toM; exact Nat.mod_lt _ hpos
      have hsl : (Num32.lim (toM (md w) (Num32.val x))).length = 8 := Num32.lim_len _
      have hv : Num32.val (Num32.lim (toM (md w) (Num32.val x))) = toM (md w) (Num32.val x) := Num32.val_lim (by have := md_lt hw; omega)
      have hlt2 : Num32.val (Num32.lim (toM (md w) (Num32.val x))) < md w := by rw [hv]; exact ht
      repeat ((conv => whnf); first | (refine pre_i ?hc ?_; case hc => first | exact (show planOK _ _ _ = true from by kernel_rfl) | assumption | omega | (unfold fits; omega) | decide +kernel | (constructor <;> first | assumption | omega) | (simp only [off_addO, tysz, off, offE] <;> omega) | (simp only [lens, off_addO, off, offE] <;> omega) | (simp only [off_addO, tysz, lens, off, offE] <;> omega) | (constructor <;> first | assumption | (simp only [off_addO, tysz, lens, off, offE] <;> omega))) | (refine cond_t ?hc ?_; case hc => first | rfl | assumption | (rw [decide_eq_true_eq]; omega) | (rw [decide_eq_false_iff_not]; omega) | (simp <;> omega)) | (refine cond_f ?hc ?_; case hc => first | rfl | assumption | (rw [decide_eq_true_eq]; omega) | (rw [decide_eq_false_iff_not]; omega) | (simp <;> omega)) | refine same_i ?_)
      conv => whnf
      rw [hv, mont_mo, mo_l (md_ri hw)]
      refine final_h (hp' := []) [] h ?_
      repeat ((conv => whnf); first | (refine pre_i ?hc ?_; case hc => first | exact (show planOK _ _ _ = true from by kernel_rfl) | assumption | omega | (unfold fits; omega) | decide +kernel | (constructor <;> first | assumption | omega) | (simp only [off_addO, tysz, off, offE] <;> omega) | (simp only [lens, off_addO, off, offE] <;> omega) | (simp only [off_addO, tysz, lens, off, offE] <;> omega) | (constructor <;> first | assumption | (simp only [off_addO, tysz, lens, off, offE] <;> omega))) | (refine cond_t ?hc ?_; case hc => first | rfl | assumption | (rw [decide_eq_true_eq]; omega) | (rw [decide_eq_false_iff_not]; omega) | (simp <;> omega)) | (refine cond_f ?hc ?_; case hc => first | rfl | assumption | (rw [decide_eq_true_eq]; omega) | (rw [decide_eq_false_iff_not]; omega) | (simp <;> omega)) | refine same_i ?_)
      exact trivial
    · exact h.elim
theorem power_s : SoundC prog 79 powerS := by
  refine sound_f tys_ok (fnok_cons rmod_s (fnok_cons rminus_s (fnok_cons rinto_s (fnok_cons mont_s fnok_nil)))) rfl func79 rfl call79 (D := pl79) ?_ ?_
  · intro args hp K h
    unfold powerS at h
    split at h
    · exact Nat.le_of_ble_eq_true rfl
    · exact h.elim
  · intro args hp K h
    unfold powerS at h
    split at h
    · rename_i w x
      obtain ⟨⟨hw, hx, hlt⟩, h⟩ := pre_e h
      have hm := Num32.mlim_val hw
      have hM := Num32.mlim_len w
      have hgt := md_gt hw
      have hbig := md_lt hw
      have hpos : 0 < md w := by omega
      have l2 := Num32.lim_len 2
      have l1 := Num32.lim_len 1
      have hv1 : Num32.val (Num32.lim 1) = 1 := Num32.val_lim (by unfold B4; decide)
      have hv1' : Num32.val (Num32.lim 1) < md w := by rw [hv1]; omega
      have he1 : toM (md w) 1 = invL (md w) (Num32.val x) (md w - 2) 0 := by rw [invL_zero]; unfold toM; rw [Nat.one_mul]
      have hmo : ∀ a b, mont (md w) (riOf (md w)) a b = mo (md w) a b := fun a b => mont_mo _ _ _
      repeat ((conv => whnf); first | (refine pre_i ?hc ?_; case hc => first | exact (show planOK _ _ _ = true from by kernel_rfl) | assumption | omega | (unfold fits; omega) | decide +kernel | (constructor <;> first | assumption | omega) | (simp only [off_addO, tysz, off, offE] <;> omega) | (simp only [lens, off_addO, off, offE] <;> omega) | (simp only [off_addO, tysz, lens, off, offE] <;> omega) | (constructor <;> first | assumption | (simp only [off_addO, tysz, lens, off, offE] <;> omega))) | (refine cond_t ?hc ?_; case hc => first | rfl | assumption | (rw [decide_eq_true_eq]; omega) | (rw [decide_eq_false_iff_not]; omega) | (simp <;> omega)) | (refine cond_f ?hc ?_; case hc => first | rfl | assumption | (rw [decide_eq_true_eq]; omega) | (rw [decide_eq_false_iff_not]; omega) | (simp <;> omega)) | refine same_i ?_)
      conv => whnf
      rw [two1]
      repeat ((conv => whnf); first | (refine pre_i ?hc ?_; case hc => first | exact (show planOK _ _ _ = true from by kernel_rfl) | assumption | omega | (unfold fits; omega) | decide +kernel | (constructor <;> first | assumption | omega) | (simp only [off_addO, tysz, off, offE] <;> omega) | (simp only [lens, off_addO, off, offE] <;> omega) | (simp only [off_addO, tysz, lens, off, offE] <;> omega) | (constructor <;> first | assumption | (simp only [off_addO, tysz, lens, off, offE] <;> omega))) | (refine cond_t ?hc ?_; case hc => first | rfl | assumption | (rw [decide_eq_true_eq]; omega) | (rw [decide_eq_false_iff_not]; omega) | (simp <;> omega)) | (refine cond_f ?hc ?_; case hc => first | rfl | assumption | (rw [decide_eq_true_eq]; omega) | (rw [decide_eq_false_iff_not]; omega) | (simp <;> omega)) | refine same_i ?_)
      conv => whnf
      rw [minus_two (by omega) hbig hM hm]
      repeat ((conv => whnf); first | (refine pre_i ?hc ?_; case hc => first | exact (show planOK _ _ _ = true from by kernel_rfl) | assumption | omega | (unfold fits; omega) | decide +kernel | (constructor <;> first | assumption | omega) | (simp only [off_addO, tysz, off, offE] <;> omega) | (simp only [lens, off_addO, off, offE] <;> omega) | (simp only [off_addO, tysz, lens, off, offE] <;> omega) | (constructor <;> first | assumption | (simp only [off_addO, tysz, lens, off, offE] <;> omega))) | (refine cond_t ?hc ?_; case hc => first | rfl | assumption | (rw [decide_eq_true_eq]; omega) | (rw [decide_eq_false_iff_not]; omega) | (simp <;> omega)) | (refine cond_f ?hc ?_; case hc => first | rfl | assumption | (rw [decide_eq_true_eq]; omega) | (rw [decide_eq_false_iff_not]; omega) | (simp <;> omega)) | refine same_i ?_)
      conv => whnf
      rw [one1]
      repeat ((conv => whnf); first | (refine pre_i ?hc ?_; case hc => first | exact (show planOK _ _ _ = true from by kernel_rfl) | assumption | omega | (unfold fits; omega) | decide +kernel | (constructor <;> first | assumption | omega) | (simp only [off_addO, tysz, off, offE] <;> omega) | (simp only [lens, off_addO, off, offE] <;> omega) | (simp only [off_addO, tysz, lens, off, offE] <;> omega) | (constructor <;> first | assumption | (simp only [off_addO, tysz, lens, off, offE] <;> omega))) | (refine cond_t ?hc ?_; case hc => first | rfl | assumption | (rw [decide_eq_true_eq]; omega) | (rw [decide_eq_false_iff_not]; omega) | (simp <;> omega)) | (refine cond_f ?hc ?_; case hc => first | rfl | assumption | (rw [decide_eq_true_eq]; omega) | (rw [decide_eq_false_iff_not]; omega) | (simp <;> omega)) | refine same_i ?_)
      conv => whnf
      rw [hv1, he1]
      generalize hMM : md w = m at *
      refine loop_h (Ix 256) (fun q => ⟨[(0, .int w), (3, .ptr 0 0 0 []), (4, .ptr 1 0 0 []), (5, .ptr 2 0 0 []), (6, .ptr 3 0 0 []), (7, .int (255 - (q.i : Int)))],
        [.mk 72 [.arr32 8 x], .mk 72 [.arr32 8 [0, 0, 0, 0, 0, 0, 0, 0]], .mk 72 [.arr32 8 (Num32.lim (m - 2))], .mk 72 [.arr32 8 (Num32.lim (invL m (Num32.val x) (m - 2) q.i))]]⟩)
        (fun q => 256 - q.i) ⟨0, Nat.zero_le _⟩ [0, 1, 2, 3] ?_ ?_
      · repeat ((conv => whnf); first | (refine pre_i ?hc ?_; case hc => first | exact (show planOK _ _ _ = true from by kernel_rfl) | assumption | omega | (unfold fits; omega) | decide +kernel | (constructor <;> first | assumption | omega) | (simp only [off_addO, tysz, off, offE] <;> omega) | (simp only [lens, off_addO, off, offE] <;> omega) | (simp only [off_addO, tysz, lens, off, offE] <;> omega) | (constructor <;> first | assumption | (simp only [off_addO, tysz, lens, off, offE] <;> omega))) | (refine cond_t ?hc ?_; case hc => first | rfl | assumption | (rw [decide_eq_true_eq]; omega) | (rw [decide_eq_false_iff_not]; omega) | (simp <;> omega)) | (refine cond_f ?hc ?_; case hc => first | rfl | assumption | (rw [decide_eq_true_eq]; omega) | (rw [decide_eq_false_iff_not]; omega) | (simp <;> omega)) | refine same_i ?_)
        exact trivial
      · intro q
        have hi := q.hi
        have lt1 := invL_lt hpos (Num32.val x) (m - 2) q.i
        generalize hV : invL m (Num32.val x) (m - 2) q.i = V at *
        have v1 : Num32.val (Num32.lim V) = V := Num32.val_lim (by omega)
        have lt2 := mo_lt hpos V V
        have v2 : Num32.val (Num32.lim (mo m V V)) = mo m V V := Num32.val_lim (by omega)
        have hpre : (0 ≤ w ∧ w ≤ 2) ∧ (Num32.lim V).length = 8 ∧ (Num32.lim V).length = 8 ∧ Num32.val (Num32.lim V) < md w := by
          rw [v1, hMM]; exact ⟨hw, Num32.lim_len _, Num32.lim_len _, lt1⟩
        by_cases h4 : q.i < 256
        · have hq0 : 0 ≤ (255 - (q.i : Int)).tdiv 32 := Int.tdiv_nonneg (by omega) (by omega)
          have hq1 : ((255 - (q.i : Int)).tdiv 32).toNat = (255 - q.i) / 32 := by rw [Int.tdiv_eq_ediv_of_nonneg (by omega)]; omega
          have hq2 : (255 - (q.i : Int)).tdiv 32 ≤ 7 := by rw [Int.tdiv_eq_ediv_of_nonneg (by omega)]; omega
          have hr0 : 0 ≤ (255 - (q.i : Int)).tmod 32 := Int.tmod_nonneg _ (by omega)
          have hr1 : (255 - (q.i : Int)).tmod 32 < 32 := Int.tmod_lt_of_pos _ (by omega)
          have hr2 : ((255 - (q.i : Int)).tmod 32).toNat = (255 - q.i) % 32 := by rw [Int.tmod_eq_emod_of_nonneg (by omega)]; omega
          have hll := Num32.lim_len (m - 2)
          repeat ((conv => whnf); first | (refine pre_i ?hc ?_; case hc => first | exact (show planOK _ _ _ = true from by kernel_rfl) | assumption | omega | (unfold fits; omega) | decide +kernel | (constructor <;> first | assumption | omega) | (simp only [off_addO, tysz, off, offE] <;> omega) | (simp only [lens, off_addO, off, offE] <;> omega) | (simp only [off_addO, tysz, lens, off, offE] <;> omega) | (constructor <;> first | assumption | (simp only [off_addO, tysz, lens, off, offE] <;> omega))) | (refine cond_t ?hc ?_; case hc => first | rfl | assumption | (rw [decide_eq_true_eq]; omega) | (rw [decide_eq_false_iff_not]; omega) | (simp <;> omega)) | (refine cond_f ?hc ?_; case hc => first | rfl | assumption | (rw [decide_eq_true_eq]; omega) | (rw [decide_eq_false_iff_not]; omega) | (simp <;> omega)) | refine same_i ?_)
          conv => whnf
          rw [v1, hMM, hmo]
          have hbit := rbit (e := m - 2) (i := 255 - q.i) (by omega)
          rw [← hq1, ← hr2] at hbit
          have hoff : off (addO [] ((255 - (q.i : Int)).tdiv 32).toNat ty70.sz) = ((255 - (q.i : Int)).tdiv 32).toNat := rfl
          have hpre2 : (0 ≤ w ∧ w ≤ 2) ∧ (Num32.lim (mo m V V)).length = 8 ∧ x.length = 8 ∧ Num32.val (Num32.lim (mo m V V)) < md w := by
            rw [v2, hMM]; exact ⟨hw, Num32.lim_len _, hx, lt2⟩
          by_cases hb : (m - 2) / 2 ^ (255 - q.i) % 2 = 1
          · have hd := decide_eq_true (hbit.2 hb)
            rw [← hoff] at hd
            repeat ((conv => whnf); first | (refine pre_i ?hc ?_; case hc => first | exact (show planOK _ _ _ = true from by kernel_rfl) | assumption | omega | (unfold fits; omega) | decide +kernel | (constructor <;> first | assumption | omega) | (simp only [off_addO, tysz, off, offE] <;> omega) | (simp only [lens, off_addO, off, offE] <;> omega) | (simp only [off_addO, tysz, lens, off, offE] <;> omega) | (constructor <;> first | assumption | (simp only [off_addO, tysz, lens, off, offE] <;> omega))) | (refine cond_t ?hc ?_; case hc => first | rfl | assumption | (rw [decide_eq_true_eq]; omega) | (rw [decide_eq_false_iff_not]; omega) | (simp <;> omega) | exact hd | (rw [hd]; rfl)) | (refine cond_f ?hc ?_; case hc => first | rfl | assumption | (rw [decide_eq_true_eq]; omega) | (rw [decide_eq_false_iff_not]; omega) | (simp <;> omega) | exact hd | (rw [hd]; rfl)) | refine same_i ?_)
            conv => whnf
            refine ⟨⟨q.i + 1, h4⟩, [0, 1, 2, 3], ?_, ?_⟩
            · show 256 - (q.i + 1) < 256 - q.i
              omega
            · repeat ((conv => whnf); first | (refine pre_i ?hc ?_; case hc => first | exact (show planOK _ _ _ = true from by kernel_rfl) | assumption | omega | (unfold fits; omega) | decide +kernel | (constructor <;> first | assumption | omega) | (simp only [off_addO, tysz, off, offE] <;> omega) | (simp only [lens, off_addO, off, offE] <;> omega) | (simp only [off_addO, tysz, lens, off, offE] <;> omega) | (constructor <;> first | assumption | (simp only [off_addO, tysz, lens, off, offE] <;> omega))) | (refine cond_t ?hc ?_; case hc => first | rfl | assumption | (rw [decide_eq_true_eq]; omega) | (rw [decide_eq_false_iff_not]; omega) | (simp <;> omega)) | (refine cond_f ?hc ?_; case hc => first | rfl | assumption | (rw [decide_eq_true_eq]; omega) | (rw [decide_eq_false_iff_not]; omega) | (simp <;> omega)) | refine same_i ?_)
              conv => whnf
              refine same_q (by rw [invL_t hb, hV, v2, hMM, hmo]; rfl) ?_
              repeat ((conv => whnf); first | (refine pre_i ?hc ?_; case hc => first | exact (show planOK _ _ _ = true from by kernel_rfl) | assumption | omega | (unfold fits; omega) | decide +kernel | (constructor <;> first | assumption | omega) | (simp only [off_addO, tysz, off, offE] <;> omega) | (simp only [lens, off_addO, off, offE] <;> omega) | (simp only [off_addO, tysz, lens, off, offE] <;> omega) | (constructor <;> first | assumption | (simp only [off_addO, tysz, lens, off, offE] <;> omega))) | (refine cond_t ?hc ?_; case hc => first | rfl | assumption | (rw [decide_eq_true_eq]; omega) | (rw [decide_eq_false_iff_not]; omega) | (simp <;> omega)) | (refine cond_f ?hc ?_; case hc => first | rfl | assumption | (rw [decide_eq_true_eq]; omega) | (rw [decide_eq_false_iff_not]; omega) | (simp <;> omega)) | refine same_i ?_)
              conv => whnf
              refine same_q (congrArg SV.int (by show (255 - (q.i : Int) - 1) = 255 - ((q.i + 1 : Nat) : Int); omega)) ?_
              exact trivial
          · have hd := decide_eq_false (fun hh => hb (hbit.1 hh))
            rw [← hoff] at hd
            repeat ((conv => whnf); first | (refine pre_i ?hc ?_; case hc => first | exact (show planOK _ _ _ = true from by kernel_rfl) | assumption | omega | (unfold fits; omega) | decide +kernel | (constructor <;> first | assumption | omega) | (simp only [off_addO, tysz, off, offE] <;> omega) | (simp only [lens, off_addO, off, offE] <;> omega) | (simp only [off_addO, tysz, lens, off, offE] <;> omega) | (constructor <;> first | assumption | (simp only [off_addO, tysz, lens, off, offE] <;> omega))) | (refine cond_t ?hc ?_; case hc => first | rfl | assumption | (rw [decide_eq_true_eq]; omega) | (rw [decide_eq_false_iff_not]; omega) | (simp <;> omega) | exact hd | (rw [hd]; rfl)) | (refine cond_f ?hc ?_; case hc => first | rfl | assumption | (rw [decide_eq_true_eq]; omega) | (rw [decide_eq_false_iff_not]; omega) | (simp <;> omega) | exact hd | (rw [hd]; rfl)) | refine same_i ?_)
            conv => whnf
            refine ⟨⟨q.i + 1, h4⟩, [0, 1, 2, 3], ?_, ?_⟩
            · show 256 - (q.i + 1) < 256 - q.i
              omega
            · repeat ((conv => whnf); first | (refine pre_i ?hc ?_; case hc => first | exact (show planOK _ _ _ = true from by kernel_rfl) | assumption | omega | (unfold fits; omega) | decide +kernel | (constructor <;> first | assumption | omega) | (simp only [off_addO, tysz, off, offE] <;> omega) | (simp only [lens, off_addO, off, offE] <;> omega) | (simp only [off_addO, tysz, lens, off, offE] <;> omega) | (constructor <;> first | assumption | (simp only [off_addO, tysz, lens, off, offE] <;> omega))) | (refine cond_t ?hc ?_; case hc => first | rfl | assumption | (rw [decide_eq_true_eq]; omega) | (rw [decide_eq_false_iff_not]; omega) | (simp <;> omega)) | (refine cond_f ?hc ?_; case hc => first | rfl | assumption | (rw [decide_eq_true_eq]; omega) | (rw [decide_eq_false_iff_not]; omega) | (simp <;> omega)) | refine same_i ?_)
              conv => whnf
              refine same_q (by rw [invL_f hb, hV]; rfl) ?_
              repeat ((conv => whnf); first | (refine pre_i ?hc ?_; case hc => first | exact (show planOK _ _ _ = true from by kernel_rfl) | assumption | omega | (unfold fits; omega) | decide +kernel | (constructor <;> first | assumption | omega) | (simp only [off_addO, tysz, off, offE] <;> omega) | (simp only [lens, off_addO, off, offE] <;> omega) | (simp only [off_addO, tysz, lens, off, offE] <;> omega) | (constructor <;> first | assumption | (simp only [off_addO, tysz, lens, off, offE] <;> omega))) | (refine cond_t ?hc ?_; case hc => first | rfl | assumption | (rw [decide_eq_true_eq]; omega) | (rw [decide_eq_false_iff_not]; omega) | (simp <;> omega)) | (refine cond_f ?hc ?_; case hc => first | rfl | assumption | (rw [decide_eq_true_eq]; omega) | (rw [decide_eq_false_iff_not]; omega) | (simp <;> omega)) | refine same_i ?_)
              conv => whnf
              refine same_q (congrArg SV.int (by show (255 - (q.i : Int) - 1) = 255 - ((q.i + 1 : Nat) : Int); omega)) ?_
              exact trivial
        · have e4 : q.i = 256 := by omega
          rw [e4] at hV
          rw [hV] at h
          repeat ((conv => whnf); first | (refine pre_i ?hc ?_; case hc => first | exact (show planOK _ _ _ = true from by kernel_rfl) | assumption | omega | (unfold fits; omega) | decide +kernel | (constructor <;> first | assumption | omega) | (simp only [off_addO, tysz, off, offE] <;> omega) | (simp only [lens, off_addO, off, offE] <;> omega) | (simp only [off_addO, tysz, lens, off, offE] <;> omega) | (constructor <;> first | assumption | (simp only [off_addO, tysz, lens, off, offE] <;> omega))) | (refine cond_t ?hc ?_; case hc => first | rfl | assumption | (rw [decide_eq_true_eq]; omega) | (rw [decide_eq_false_iff_not]; omega) | (simp <;> omega)) | (refine cond_f ?hc ?_; case hc => first | rfl | assumption | (rw [decide_eq_true_eq]; omega) | (rw [decide_eq_false_iff_not]; omega) | (simp <;> omega)) | refine same_i ?_)
          conv => whnf
          refine final_h (hp' := []) [] h ?_
          repeat ((conv => whnf); first | (refine pre_i ?hc ?_; case hc => first | exact (show planOK _ _ _ = true from by kernel_rfl) | assumption | omega | (unfold fits; omega) | decide +kernel | (constructor <;> first | assumption | omega) | (simp only [off_addO, tysz, off, offE] <;> omega) | (simp only [lens, off_addO, off, offE] <;> omega) | (simp only [off_addO, tysz, lens, off, offE] <;> omega) | (constructor <;> first | assumption | (simp only [off_addO, tysz, lens, off, offE] <;> omega))) | (refine cond_t ?hc ?_; case hc => first | rfl | assumption | (rw [decide_eq_true_eq]; omega) | (rw [decide_eq_false_iff_not]; omega) | (simp <;> omega)) | (refine cond_f ?hc ?_; case hc => first | rfl | assumption | (rw [decide_eq_true_eq]; omega) | (rw [decide_eq_false_iff_not]; omega) | (simp <;> omega)) | refine same_i ?_)
          exact trivial
    · exact h.elim
theorem rinv_s : SoundC prog 57 rinvS := by
  refine sound_f tys_ok (fnok_cons rinto_s (fnok_cons power_s (fnok_cons rout_s fnok_nil))) rfl func57 rfl call57 (D := pl57) ?_ ?_
  · intro args hp K h
    unfold rinvS at h
    split at h
    · exact Nat.le_of_ble_eq_true rfl
    · exact h.elim
  · intro args hp K h
    unfold rinvS at h
    split at h
    · rename_i w x
      obtain ⟨⟨hw, hx, hlt⟩, h⟩ := pre_e h
      have hgt := md_gt hw
      have hbig := md_lt hw
      have hpos : 0 < md w := by omega
      have ht : toM (md w) (Num32.val x) < md w := by unfold toM; exact Nat.mod_lt _ hpos
      have hsl : (Num32.lim (toM (md w) (Num32.val x))).length = 8 := Num32.lim_len _
      have hv : Num32.val (Num32.lim (toM (md w) (Num32.val x))) = toM (md w) (Num32.val x) := Num32.val_lim (by omega)
      have hlt2 : Num32.val (Num32.lim (toM (md w) (Num32.val x))) < md w := by rw [hv]; exact ht
      have hp : invL (md w) (toM (md w) (Num32.val x)) (md w - 2) 256 = toM (md w) (Num32.val x ^ (md w - 2)) := by
        rw [invL_pow (md_ri hw) (Num32.val x) (by omega) 256 (Nat.le_refl _)]; simp
      have ht3 : toM (md w) (Num32.val x ^ (md w - 2)) < md w := by unfold toM; exact Nat.mod_lt _ hpos
      have hsl3 : (Num32.lim (toM (md w) (Num32.val x ^ (md w - 2)))).length = 8 := Num32.lim_len _
      have hv3 : Num32.val (Num32.lim (toM (md w) (Num32.val x ^ (md w - 2)))) = toM (md w) (Num32.val x ^ (md w - 2)) := Num32.val_lim (by omega)
      have hlt3 : Num32.val (Num32.lim (toM (md w) (Num32.val x ^ (md w - 2)))) < md w := by rw [hv3]; exact ht3
      repeat ((conv => whnf); first | (refine pre_i ?hc ?_; case hc => first | exact (show planOK _ _ _ = true from by kernel_rfl) | assumption | omega | (unfold fits; omega) | decide +kernel | (constructor <;> first | assumption | omega) | (simp only [off_addO, tysz, off, offE] <;> omega) | (simp only [lens, off_addO, off, offE] <;> omega) | (simp only [off_addO, tysz, lens, off, offE] <;> omega) | (constructor <;> first | assumption | (simp only [off_addO, tysz, lens, off, offE] <;> omega))) | (refine cond_t ?hc ?_; case hc => first | rfl | assumption | (rw [decide_eq_true_eq]; omega) | (rw [decide_eq_false_iff_not]; omega) | (simp <;> omega)) | (refine cond_f ?hc ?_; case hc => first | rfl | assumption | (rw [decide_eq_true_eq]; omega) | (rw [decide_eq_false_iff_not]; omega) | (simp <;> omega)) | refine same_i ?_)
      conv => whnf
      rw [hv, hp]
      repeat ((conv => whnf); first | (refine pre_i ?hc ?_; case hc => first | exact (show planOK _ _ _ = true from by kernel_rfl) | assumption | omega | (unfold fits; omega) | decide +kernel | (constructor <;> first | assumption | omega) | (simp only [off_addO, tysz, off, offE] <;> omega) | (simp only [lens, off_addO, off, offE] <;> omega) | (simp only [off_addO, tysz, lens, off, offE] <;> omega) | (constructor <;> first | assumption | (simp only [off_addO, tysz, lens, off, offE] <;> omega))) | (refine cond_t ?hc ?_; case hc => first | rfl | assumption | (rw [decide_eq_true_eq]; omega) | (rw [decide_eq_false_iff_not]; omega) | (simp <;> omega)) | (refine cond_f ?hc ?_; case hc => first | rfl | assumption | (rw [decide_eq_true_eq]; omega) | (rw [decide_eq_false_iff_not]; omega) | (simp <;> omega)) | refine same_i ?_)
      conv => whnf
      rw [hv3, mont_mo, mo_l (md_ri hw), Nat.mul_one]
      refine final_h (hp' := []) [] h ?_
      repeat ((conv => whnf); first | (refine pre_i ?hc ?_; case hc => first | exact (show planOK _ _ _ = true from by kernel_rfl) | assumption | omega | (unfold fits; omega) | decide +kernel | (constructor <;> first | assumption | omega) | (simp only [off_addO, tysz, off, offE] <;> omega) | (simp only [lens, off_addO, off, offE] <;> omega) | (simp only [off_addO, tysz, lens, off, offE] <;> omega) | (constructor <;> first | assumption | (simp only [off_addO, tysz, lens, off, offE] <;> omega))) | (refine cond_t ?hc ?_; case hc => first | rfl | assumption | (rw [decide_eq_true_eq]; omega) | (rw [decide_eq_false_iff_not]; omega) | (simp <;> omega)) | (refine cond_f ?hc ?_; case hc => first | rfl | assumption | (rw [decide_eq_true_eq]; omega) | (rw [decide_eq_false_iff_not]; omega) | (simp <;> omega)) | refine same_i ?_)
      exact trivial
    · exact h.elim
end Go.Sym.N

namespace Go.Sym.N
open Go Go.Proofs.Try Go.Sym.Num
open Go.Sym.X
set_option maxRecDepth 100000
attribute [local irreducible] Num32.lim Num32.val Num32.mlim md beB beV mont riOf mo toM invL fa fs

theorem w2 : (0 : Int) ≤ 2 ∧ (2 : Int) ≤ 2 := by decide
theorem r2 {a : Nat} (h : a < md 2) : Num32.val (Num32.lim a) = a := Num32.val_lim (by have := md2_lt; omega)
def raddN : Spec := fun args hp K => match args, hp with
  | [.int w, .arr32 8 x, .arr32 8 y], [] => ∃ a b, (w = 2 ∧ x = Num32.lim a ∧ y = Num32.lim b ∧ a < md 2 ∧ b < md 2) ∧ K (.arr32 8 (Num32.lim (fa (md 2) a b))) []
  | _, _ => False
theorem raddN_s : SoundC prog 45 raddN := by
  refine weaken radd_s fun args hp K h => ?_
  unfold raddN at h
  split at h
  · obtain ⟨a, b, ⟨rfl, rfl, rfl, ha, hb⟩, h⟩ := h
    unfold raddS
    refine pre_i ?_ ?_
    · rw [r2 ha, r2 hb]; exact ⟨w2, Num32.lim_len _, Num32.lim_len _, ha, hb⟩
    · rw [r2 ha, r2 hb]; unfold fa at h; exact h
  · exact h.elim
def rsubN : Spec := fun args hp K => match args, hp with
  | [.int w, .arr32 8 x, .arr32 8 y], [] => ∃ a b, (w = 2 ∧ x = Num32.lim a ∧ y = Num32.lim b ∧ a < md 2 ∧ b < md 2) ∧ K (.arr32 8 (Num32.lim (fs (md 2) a b))) []
  | _, _ => False
theorem rsubN_s : SoundC prog 46 rsubN := by
  refine weaken rsub_s fun args hp K h => ?_
  unfold rsubN at h
  split at h
  · obtain ⟨a, b, ⟨rfl, rfl, rfl, ha, hb⟩, h⟩ := h
    unfold rsubS
    refine pre_i ?_ ?_
    · rw [r2 ha, r2 hb]; exact ⟨w2, Num32.lim_len _, Num32.lim_len _, ha, hb⟩
    · rw [r2 ha, r2 hb]; unfold fs at h; exact h
  · exact h.elim
def rmontN : Spec := fun args hp K => match args, hp with
  | [.int w, .arr32 8 x, .arr32 8 y], [] => ∃ a b, (w = 2 ∧ x = Num32.lim a ∧ y = Num32.lim b ∧ a < md 2 ∧ b < md 2) ∧ K (.arr32 8 (Num32.lim (mo (md 2) a b))) []
  | _, _ => False
theorem rmontN_s : SoundC prog 75 rmontN := by
  refine weaken mont_s fun args hp K h => ?_
  unfold rmontN at h
  split at h
  · obtain ⟨a, b, ⟨rfl, rfl, rfl, ha, hb⟩, h⟩ := h
    unfold montS
    refine pre_i ?_ ?_
    · rw [r2 ha]; exact ⟨w2, Num32.lim_len _, Num32.lim_len _, ha⟩
    · rw [r2 ha, r2 hb, mont_mo]; exact h
  · exact h.elim
def rintoN : Spec := fun args hp K => match args, hp with
  | [.int w, .arr32 8 x], [] => ∃ a, (w = 2 ∧ x = Num32.lim a ∧ a < md 2) ∧ K (.arr32 8 (Num32.lim (toM (md 2) a))) []
  | _, _ => False
theorem rintoN_s : SoundC prog 70 rintoN := by
  refine weaken rinto_s fun args hp K h => ?_
  unfold rintoN at h
  split at h
  · obtain ⟨a, ⟨rfl, rfl, ha⟩, h⟩ := h
    unfold rintoS
    refine pre_i ?_ ?_
    · rw [r2 ha]; exact ⟨w2, Num32.lim_len _, ha⟩
    · rw [r2 ha]; exact h
  · exact h.elim
def routN : Spec := fun args hp K => match args, hp with
  | [.int w, .arr32 8 x], [] => ∃ a, (w = 2 ∧ x = Num32.lim a ∧ a < md 2) ∧ K (.arr32 8 (Num32.lim (mo (md 2) a 1))) []
  | _, _ => False
theorem routN_s : SoundC prog 78 routN := by
  refine weaken rout_s fun args hp K h => ?_
  unfold routN at h
  split at h
  · obtain ⟨a, ⟨rfl, rfl, ha⟩, h⟩ := h
    unfold routS
    refine pre_i ?_ ?_
    · rw [r2 ha]; exact ⟨w2, Num32.lim_len _, ha⟩
    · rw [r2 ha, mont_mo]; exact h
  · exact h.elim
def powerN : Spec := fun args hp K => match args, hp with
  | [.int w, .arr32 8 x], [] => ∃ a, (w = 2 ∧ x = Num32.lim a ∧ a < md 2) ∧ K (.arr32 8 (Num32.lim (invL (md 2) a (md 2 - 2) 256))) []
  | _, _ => False
theorem powerN_s : SoundC prog 79 powerN := by
  refine weaken power_s fun args hp K h => ?_
  unfold powerN at h
  split at h
  · obtain ⟨a, ⟨rfl, rfl, ha⟩, h⟩ := h
    unfold powerS
    refine pre_i ?_ ?_
    · rw [r2 ha]; exact ⟨w2, Num32.lim_len _, ha⟩
    · rw [r2 ha]; exact h
  · exact h.elim
end Go.Sym.N

namespace Go.Sym.N
open Go Go.Proofs.Try Go.Sym.Num
open Go.Sym.X
set_option maxRecDepth 100000
attribute [local irreducible] Num32.lim Num32.val Num32.mlim md beB beV mont riOf mo toM invL clampV fa fs ladQ bitn

/-- the orders of the drawn regions of halberdref9.ladder -/
def pl69 : List (Nat × List PStep) := [(4, [⟨0, []⟩, ⟨1, [0]⟩, ⟨2, [0, 1]⟩, ⟨3, [0, 1, 2]⟩, ⟨4, [0, 1, 2, 3]⟩, ⟨5, [0, 1, 2, 3, 4]⟩, ⟨6, [0, 1, 2, 3, 4, 5]⟩, ⟨7, [0, 1, 2, 3, 4, 5, 6]⟩, ⟨8, [1, 2, 3]⟩, ⟨9, [2, 3]⟩, ⟨10, [3]⟩, ⟨11, []⟩]), (14, [⟨0, []⟩, ⟨1, [0]⟩, ⟨2, [0, 1]⟩, ⟨4, [0, 1, 2]⟩, ⟨5, [0, 1, 2, 4]⟩, ⟨6, [0, 1, 2, 4, 5]⟩, ⟨8, [0, 1, 2, 4, 5, 6]⟩, ⟨9, [0, 1, 2, 4, 5, 6, 8]⟩, ⟨3, [4, 5, 6, 8, 9]⟩, ⟨7, [8, 9]⟩, ⟨10, []⟩, ⟨11, []⟩]), (15, [⟨0, []⟩, ⟨1, [0]⟩, ⟨2, [0, 1]⟩, ⟨4, [0, 1, 2]⟩, ⟨5, [0, 1, 2, 4]⟩, ⟨6, [0, 1, 2, 4, 5]⟩, ⟨8, [0, 1, 2, 4, 5, 6]⟩, ⟨9, [0, 1, 2, 4, 5, 6, 8]⟩, ⟨3, [4, 5, 6, 8, 9]⟩, ⟨7, [8, 9]⟩, ⟨10, []⟩, ⟨11, []⟩]), (17, [⟨0, []⟩, ⟨1, [0]⟩, ⟨2, [0, 1]⟩, ⟨3, [0, 1, 2]⟩, ⟨5, [0, 1, 2, 3]⟩, ⟨7, [0, 1, 2, 3, 5]⟩, ⟨8, [0, 1, 2, 3, 5, 7]⟩, ⟨9, [0, 1, 2, 3, 5, 7, 8]⟩, ⟨10, [0, 1, 2, 3, 5, 7, 8, 9]⟩, ⟨12, [0, 1, 2, 3, 5, 7, 8, 9, 10]⟩, ⟨14, [0, 1, 2, 3, 5, 7, 8, 9, 10, 12]⟩, ⟨15, [0, 1, 2, 3, 5, 7, 8, 9, 10, 12, 14]⟩, ⟨4, [0, 5, 7, 8, 9, 10, 12, 14, 15]⟩, ⟨6, [7, 8, 9, 10, 12, 14, 15]⟩, ⟨11, [7, 12, 14, 15]⟩, ⟨13, [14, 15]⟩, ⟨16, []⟩, ⟨17, []⟩]), (18, [⟨0, []⟩, ⟨1, [0]⟩, ⟨2, [0, 1]⟩, ⟨4, [0, 1, 2]⟩, ⟨5, [0, 1, 2, 4]⟩, ⟨6, [0, 1, 2, 4, 5]⟩, ⟨8, [0, 1, 2, 4, 5, 6]⟩, ⟨9, [0, 1, 2, 4, 5, 6, 8]⟩, ⟨3, [4, 5, 6, 8, 9]⟩, ⟨7, [8, 9]⟩, ⟨10, []⟩, ⟨11, []⟩]), (20, [⟨0, []⟩, ⟨1, [0]⟩, ⟨2, [0, 1]⟩, ⟨3, [0, 1, 2]⟩, ⟨4, [0, 1, 2, 3]⟩, ⟨5, [0, 1]⟩, ⟨6, []⟩, ⟨7, []⟩]), (22, [⟨0, []⟩, ⟨1, [0]⟩, ⟨2, [0, 1]⟩, ⟨3, [0, 1, 2]⟩, ⟨4, [0, 1, 2, 3]⟩, ⟨5, [0, 1, 2, 3, 4]⟩, ⟨6, [0, 1, 2, 3, 4, 5]⟩, ⟨7, [0, 1, 2, 3]⟩, ⟨8, [0, 1]⟩, ⟨9, []⟩, ⟨10, []⟩]), (24, [⟨0, []⟩, ⟨1, [0]⟩, ⟨2, [1]⟩, ⟨3, []⟩]), (25, [⟨0, []⟩, ⟨1, [0]⟩, ⟨2, [0, 1]⟩, ⟨3, [0, 1, 2]⟩, ⟨4, [0, 1, 2, 3]⟩, ⟨5, [0, 1, 2]⟩, ⟨6, [0]⟩, ⟨7, []⟩, ⟨8, []⟩])]

def rladderS : Spec := fun args hp K => match args, hp with
  | [.arr32 8 k, .arr32 8 x], [] => ∃ e x1, (k = Num32.lim e ∧ x = Num32.lim x1 ∧ e < 57896044618658097711785492504343953926634992332820282019728792003956564819968 ∧ e % 2 = 0 ∧ x1 < md 2) ∧ K (.arr32 8 (Num32.lim (ladM e x1))) []
  | _, _ => False
theorem oneA : [0, 0, 0, 0, 0, 0, 0, 0].set (off [(0, ty70.sz)]) (UInt32.ofNat 121665) = Num32.lim 121665 := by unfold Num32.lim; rfl
theorem rlim0 : Num32.lim 0 = [0, 0, 0, 0, 0, 0, 0, 0] := by unfold Num32.lim; rfl
theorem toM1 : toM (md 2) 1 = B4 % md 2 := by unfold toM; rw [Nat.one_mul]
theorem rladder_s : SoundC prog 69 rladderS := by
  refine sound_f tys_ok (fnok_cons rintoN_s (fnok_cons raddN_s (fnok_cons rsubN_s (fnok_cons rmontN_s (fnok_cons powerN_s (fnok_cons routN_s fnok_nil)))))) rfl func69 rfl call69 (D := pl69) ?_ ?_
  · intro args hp K h
    unfold rladderS at h
    split at h
    · exact Nat.le_of_ble_eq_true rfl
    · exact h.elim
  · intro args hp K h
    unfold rladderS at h
    split at h
    · rename_i k u
      obtain ⟨e, x1, ⟨rfl, rfl, he, he2, lx⟩, h⟩ := h
      have hA : 121665 < md 2 := by have := md2_pos; unfold md mX; decide
      have h1 : 1 < md 2 := by unfold md mX; decide
      repeat ((conv => whnf); first | (refine pre_i ?hc ?_; case hc => first | exact (show planOK _ _ _ = true from by kernel_rfl) | assumption | omega | (unfold fits; omega) | decide +kernel | (constructor <;> first | assumption | omega) | (simp only [off_addO, tysz, off, offE] <;> omega) | (simp only [lens, off_addO, off, offE] <;> omega) | (simp only [off_addO, tysz, lens, off, offE] <;> omega) | (constructor <;> first | assumption | (simp only [off_addO, tysz, lens, off, offE] <;> omega))) | (refine cond_t ?hc ?_; case hc => first | rfl | assumption | (rw [decide_eq_true_eq]; omega) | (rw [decide_eq_false_iff_not]; omega) | (simp <;> omega)) | (refine cond_f ?hc ?_; case hc => first | rfl | assumption | (rw [decide_eq_true_eq]; omega) | (rw [decide_eq_false_iff_not]; omega) | (simp <;> omega)) | refine same_i ?_)
      conv => whnf
      rw [one1]
      refine ⟨_, ⟨rfl, rfl, h1⟩, ?_⟩
      repeat ((conv => whnf); first | (refine pre_i ?hc ?_; case hc => first | exact (show planOK _ _ _ = true from by kernel_rfl) | assumption | omega | (unfold fits; omega) | decide +kernel | (constructor <;> first | assumption | omega) | (simp only [off_addO, tysz, off, offE] <;> omega) | (simp only [lens, off_addO, off, offE] <;> omega) | (simp only [off_addO, tysz, lens, off, offE] <;> omega) | (constructor <;> first | assumption | (simp only [off_addO, tysz, lens, off, offE] <;> omega))) | (refine cond_t ?hc ?_; case hc => first | rfl | assumption | (rw [decide_eq_true_eq]; omega) | (rw [decide_eq_false_iff_not]; omega) | (simp <;> omega)) | (refine cond_f ?hc ?_; case hc => first | rfl | assumption | (rw [decide_eq_true_eq]; omega) | (rw [decide_eq_false_iff_not]; omega) | (simp <;> omega)) | refine same_i ?_)
      conv => whnf
      rw [oneA]
      refine ⟨_, ⟨rfl, rfl, hA⟩, ?_⟩
      repeat ((conv => whnf); first | (refine pre_i ?hc ?_; case hc => first | exact (show planOK _ _ _ = true from by kernel_rfl) | assumption | omega | (unfold fits; omega) | decide +kernel | (constructor <;> first | assumption | omega) | (simp only [off_addO, tysz, off, offE] <;> omega) | (simp only [lens, off_addO, off, offE] <;> omega) | (simp only [off_addO, tysz, lens, off, offE] <;> omega) | (constructor <;> first | assumption | (simp only [off_addO, tysz, lens, off, offE] <;> omega))) | (refine cond_t ?hc ?_; case hc => first | rfl | assumption | (rw [decide_eq_true_eq]; omega) | (rw [decide_eq_false_iff_not]; omega) | (simp <;> omega)) | (refine cond_f ?hc ?_; case hc => first | rfl | assumption | (rw [decide_eq_true_eq]; omega) | (rw [decide_eq_false_iff_not]; omega) | (simp <;> omega)) | refine same_i ?_)
      conv => whnf
      obtain ⟨y, hy⟩ : ∃ x, x = toM (md 2) 121665 := ⟨_, rfl⟩
      have ly : y < md 2 := by rw [hy]; exact toM2_lt _
      have hL : ladM e x1 = mo (md 2) (mo (md 2) (ladQ (md 2) x1 y e 255).x2 (invL (md 2) (ladQ (md 2) x1 y e 255).z2 (md 2 - 2) 256)) 1 := by rw [hy]; rfl
      rw [hL] at h
      rw [← hy, toM1]
      have b0 : bitn e 255 = 0 := by
        have e0 : (2 ^ 255 : Nat) = 57896044618658097711785492504343953926634992332820282019728792003956564819968 := by decide
        unfold bitn; rw [e0, Nat.div_eq_of_lt he]
      refine loop_h (Ix 255) (fun q => ⟨[(2, .ptr 0 0 0 []), (3, .ptr 1 0 0 []), (4, .ptr 2 0 0 []), (5, .int 2), (6, .ptr 3 0 0 []), (7, .ptr 4 0 0 []), (8, .ptr 5 0 0 []), (9, .ptr 6 0 0 []), (10, .ptr 7 0 0 []), (11, .ptr 8 0 0 []), (12, .u32 (UInt32.ofNat (bitn e (255 - q.i)))), (13, .int (254 - (q.i : Int)))],
        [.mk 72 [.arr32 8 (Num32.lim e)], .mk 72 [.arr32 8 (Num32.lim x1)], .mk 72 [.arr32 8 [0, 0, 0, 0, 0, 0, 0, 0]], .mk 72 [.arr32 8 (Num32.lim (B4 % md 2))], .mk 72 [.arr32 8 (Num32.lim y)],
         .mk 72 [.arr32 8 (Num32.lim (ladQ (md 2) x1 y e q.i).x2)], .mk 72 [.arr32 8 (Num32.lim (ladQ (md 2) x1 y e q.i).z2)], .mk 72 [.arr32 8 (Num32.lim (ladQ (md 2) x1 y e q.i).x3)], .mk 72 [.arr32 8 (Num32.lim (ladQ (md 2) x1 y e q.i).z3)]]⟩)
        (fun q => 255 - q.i) ⟨0, Nat.zero_le _⟩ [0, 1, 2, 3, 4, 5, 6, 7, 8] ?_ ?_
      · repeat ((conv => whnf); first | (refine pre_i ?hc ?_; case hc => first | exact (show planOK _ _ _ = true from by kernel_rfl) | assumption | omega | (unfold fits; omega) | decide +kernel | (constructor <;> first | assumption | omega) | (simp only [off_addO, tysz, off, offE] <;> omega) | (simp only [lens, off_addO, off, offE] <;> omega) | (simp only [off_addO, tysz, lens, off, offE] <;> omega) | (constructor <;> first | assumption | (simp only [off_addO, tysz, lens, off, offE] <;> omega))) | (refine cond_t ?hc ?_; case hc => first | rfl | assumption | (rw [decide_eq_true_eq]; omega) | (rw [decide_eq_false_iff_not]; omega) | (simp <;> omega)) | (refine cond_f ?hc ?_; case hc => first | rfl | assumption | (rw [decide_eq_true_eq]; omega) | (rw [decide_eq_false_iff_not]; omega) | (simp <;> omega)) | refine same_i ?_)
        conv => whnf
        refine same_q (by rw [ladQ_zero]; rfl) ?_
        repeat ((conv => whnf); first | (refine pre_i ?hc ?_; case hc => first | exact (show planOK _ _ _ = true from by kernel_rfl) | assumption | omega | (unfold fits; omega) | decide +kernel | (constructor <;> first | assumption | omega) | (simp only [off_addO, tysz, off, offE] <;> omega) | (simp only [lens, off_addO, off, offE] <;> omega) | (simp only [off_addO, tysz, lens, off, offE] <;> omega) | (constructor <;> first | assumption | (simp only [off_addO, tysz, lens, off, offE] <;> omega))) | (refine cond_t ?hc ?_; case hc => first | rfl | assumption | (rw [decide_eq_true_eq]; omega) | (rw [decide_eq_false_iff_not]; omega) | (simp <;> omega)) | (refine cond_f ?hc ?_; case hc => first | rfl | assumption | (rw [decide_eq_true_eq]; omega) | (rw [decide_eq_false_iff_not]; omega) | (simp <;> omega)) | refine same_i ?_)
        conv => whnf
        refine same_q (by rw [ladQ_zero]; show SV.agg [SV.arr32 8 [0, 0, 0, 0, 0, 0, 0, 0]] = SV.agg [SV.arr32 8 (Num32.lim 0)]; rw [rlim0]) ?_
        repeat ((conv => whnf); first | (refine pre_i ?hc ?_; case hc => first | exact (show planOK _ _ _ = true from by kernel_rfl) | assumption | omega | (unfold fits; omega) | decide +kernel | (constructor <;> first | assumption | omega) | (simp only [off_addO, tysz, off, offE] <;> omega) | (simp only [lens, off_addO, off, offE] <;> omega) | (simp only [off_addO, tysz, lens, off, offE] <;> omega) | (constructor <;> first | assumption | (simp only [off_addO, tysz, lens, off, offE] <;> omega))) | (refine cond_t ?hc ?_; case hc => first | rfl | assumption | (rw [decide_eq_true_eq]; omega) | (rw [decide_eq_false_iff_not]; omega) | (simp <;> omega)) | (refine cond_f ?hc ?_; case hc => first | rfl | assumption | (rw [decide_eq_true_eq]; omega) | (rw [decide_eq_false_iff_not]; omega) | (simp <;> omega)) | refine same_i ?_)
        conv => whnf
        refine same_q (by rw [ladQ_zero]; rfl) ?_
        repeat ((conv => whnf); first | (refine pre_i ?hc ?_; case hc => first | exact (show planOK _ _ _ = true from by kernel_rfl) | assumption | omega | (unfold fits; omega) | decide +kernel | (constructor <;> first | assumption | omega) | (simp only [off_addO, tysz, off, offE] <;> omega) | (simp only [lens, off_addO, off, offE] <;> omega) | (simp only [off_addO, tysz, lens, off, offE] <;> omega) | (constructor <;> first | assumption | (simp only [off_addO, tysz, lens, off, offE] <;> omega))) | (refine cond_t ?hc ?_; case hc => first | rfl | assumption | (rw [decide_eq_true_eq]; omega) | (rw [decide_eq_false_iff_not]; omega) | (simp <;> omega)) | (refine cond_f ?hc ?_; case hc => first | rfl | assumption | (rw [decide_eq_true_eq]; omega) | (rw [decide_eq_false_iff_not]; omega) | (simp <;> omega)) | refine same_i ?_)
        conv => whnf
        refine same_q (by rw [ladQ_zero]; rfl) ?_
        repeat ((conv => whnf); first | (refine pre_i ?hc ?_; case hc => first | exact (show planOK _ _ _ = true from by kernel_rfl) | assumption | omega | (unfold fits; omega) | decide +kernel | (constructor <;> first | assumption | omega) | (simp only [off_addO, tysz, off, offE] <;> omega) | (simp only [lens, off_addO, off, offE] <;> omega) | (simp only [off_addO, tysz, lens, off, offE] <;> omega) | (constructor <;> first | assumption | (simp only [off_addO, tysz, lens, off, offE] <;> omega))) | (refine cond_t ?hc ?_; case hc => first | rfl | assumption | (rw [decide_eq_true_eq]; omega) | (rw [decide_eq_false_iff_not]; omega) | (simp <;> omega)) | (refine cond_f ?hc ?_; case hc => first | rfl | assumption | (rw [decide_eq_true_eq]; omega) | (rw [decide_eq_false_iff_not]; omega) | (simp <;> omega)) | refine same_i ?_)
        conv => whnf
        refine same_q (congrArg SV.u32 (by show UInt32.ofNat 0 = UInt32.ofNat (bitn e (255 - 0)); rw [Nat.sub_zero, b0])) ?_
        repeat ((conv => whnf); first | (refine pre_i ?hc ?_; case hc => first | exact (show planOK _ _ _ = true from by kernel_rfl) | assumption | omega | (unfold fits; omega) | decide +kernel | (constructor <;> first | assumption | omega) | (simp only [off_addO, tysz, off, offE] <;> omega) | (simp only [lens, off_addO, off, offE] <;> omega) | (simp only [off_addO, tysz, lens, off, offE] <;> omega) | (constructor <;> first | assumption | (simp only [off_addO, tysz, lens, off, offE] <;> omega))) | (refine cond_t ?hc ?_; case hc => first | rfl | assumption | (rw [decide_eq_true_eq]; omega) | (rw [decide_eq_false_iff_not]; omega) | (simp <;> omega)) | (refine cond_f ?hc ?_; case hc => first | rfl | assumption | (rw [decide_eq_true_eq]; omega) | (rw [decide_eq_false_iff_not]; omega) | (simp <;> omega)) | refine same_i ?_)
        exact trivial
      · intro q
        have hi := q.hi
        obtain ⟨l2, l3, l4, l5⟩ := ladQ_ok md2_pos lx y e q.i
        by_cases h4 : q.i < 255
        · have hq0 : 0 ≤ (254 - (q.i : Int)).tdiv 32 := Int.tdiv_nonneg (by omega) (by omega)
          have hq1 : ((254 - (q.i : Int)).tdiv 32).toNat = (254 - q.i) / 32 := by rw [Int.tdiv_eq_ediv_of_nonneg (by omega)]; omega
          have hq2 : (254 - (q.i : Int)).tdiv 32 ≤ 7 := by rw [Int.tdiv_eq_ediv_of_nonneg (by omega)]; omega
          have hr0 : 0 ≤ (254 - (q.i : Int)).tmod 32 := Int.tmod_nonneg _ (by omega)
          have hr1 : (254 - (q.i : Int)).tmod 32 < 32 := Int.tmod_lt_of_pos _ (by omega)
          have hr2 : ((254 - (q.i : Int)).tmod 32).toNat = (254 - q.i) % 32 := by rw [Int.tmod_eq_emod_of_nonneg (by omega)]; omega
          have hll := Num32.lim_len e
          have hbit := bit32 (e := e) (i := 254 - q.i) (by omega)
          rw [← hq1, ← hr2] at hbit
          have hoff : off (addO [] ((254 - (q.i : Int)).tdiv 32).toNat ty70.sz) = ((254 - (q.i : Int)).tdiv 32).toNat := rfl
          rw [← hoff] at hbit
          have hb1 := bitn_lt e (255 - q.i)
          have hb2 := bitn_lt e (254 - q.i)
          by_cases hb : bitn e (255 - q.i) = bitn e (254 - q.i)
          · have hd : decide (UInt32.ofNat (bitn e (254 - q.i)) = UInt32.ofNat (bitn e (255 - q.i))) = true := decide_eq_true (by rw [hb])
            rw [← hbit] at hd
            have hQ := ladQ_same (m := md 2) (x1 := x1) (y := y) hb
            generalize ladQ (md 2) x1 y e q.i = Q at *
            obtain ⟨x2, z2, x3, z3⟩ := Q
            replace l2 : x2 < md 2 := l2
            replace l3 : z2 < md 2 := l3
            replace l4 : x3 < md 2 := l4
            replace l5 : z3 < md 2 := l5
            repeat ((conv => whnf); first | (refine pre_i ?hc ?_; case hc => first | exact (show planOK _ _ _ = true from by kernel_rfl) | assumption | omega | (unfold fits; omega) | decide +kernel | (constructor <;> first | assumption | omega) | (simp only [off_addO, tysz, off, offE] <;> omega) | (simp only [lens, off_addO, off, offE] <;> omega) | (simp only [off_addO, tysz, lens, off, offE] <;> omega) | (constructor <;> first | assumption | (simp only [off_addO, tysz, lens, off, offE] <;> omega))) | (refine cond_t ?hc ?_; case hc => first | rfl | assumption | (rw [decide_eq_true_eq]; omega) | (rw [decide_eq_false_iff_not]; omega) | (simp <;> omega) | exact hd | (rw [hd]; rfl)) | (refine cond_f ?hc ?_; case hc => first | rfl | assumption | (rw [decide_eq_true_eq]; omega) | (rw [decide_eq_false_iff_not]; omega) | (simp <;> omega) | exact hd | (rw [hd]; rfl)) | refine same_i ?_)
            iterate 18
              conv => whnf
              refine ⟨_, _, ⟨rfl, rfl, rfl, by with_reducible first | assumption | exact fa_lt _ _ | exact fs_lt _ _ | exact mo2_lt _ _, by with_reducible first | assumption | exact fa_lt _ _ | exact fs_lt _ _ | exact mo2_lt _ _⟩, ?_⟩
              repeat ((conv => whnf); first | (refine pre_i ?hc ?_; case hc => first | exact (show planOK _ _ _ = true from by kernel_rfl) | assumption | omega | (unfold fits; omega) | decide +kernel | (constructor <;> first | assumption | omega) | (simp only [off_addO, tysz, off, offE] <;> omega) | (simp only [lens, off_addO, off, offE] <;> omega) | (simp only [off_addO, tysz, lens, off, offE] <;> omega) | (constructor <;> first | assumption | (simp only [off_addO, tysz, lens, off, offE] <;> omega))) | (refine cond_t ?hc ?_; case hc => first | rfl | assumption | (rw [decide_eq_true_eq]; omega) | (rw [decide_eq_false_iff_not]; omega) | (simp <;> omega)) | (refine cond_f ?hc ?_; case hc => first | rfl | assumption | (rw [decide_eq_true_eq]; omega) | (rw [decide_eq_false_iff_not]; omega) | (simp <;> omega)) | refine same_i ?_)
            conv => whnf
            refine ⟨⟨q.i + 1, h4⟩, [0, 1, 2, 3, 4, 5, 6, 7, 8], ?_, ?_⟩
            · show 255 - (q.i + 1) < 255 - q.i
              omega
            · repeat ((conv => whnf); first | (refine pre_i ?hc ?_; case hc => first | exact (show planOK _ _ _ = true from by kernel_rfl) | assumption | omega | (unfold fits; omega) | decide +kernel | (constructor <;> first | assumption | omega) | (simp only [off_addO, tysz, off, offE] <;> omega) | (simp only [lens, off_addO, off, offE] <;> omega) | (simp only [off_addO, tysz, lens, off, offE] <;> omega) | (constructor <;> first | assumption | (simp only [off_addO, tysz, lens, off, offE] <;> omega))) | (refine cond_t ?hc ?_; case hc => first | rfl | assumption | (rw [decide_eq_true_eq]; omega) | (rw [decide_eq_false_iff_not]; omega) | (simp <;> omega)) | (refine cond_f ?hc ?_; case hc => first | rfl | assumption | (rw [decide_eq_true_eq]; omega) | (rw [decide_eq_false_iff_not]; omega) | (simp <;> omega)) | refine same_i ?_)
              conv => whnf
              refine same_q (by rw [hQ]; rfl) ?_
              repeat ((conv => whnf); first | (refine pre_i ?hc ?_; case hc => first | exact (show planOK _ _ _ = true from by kernel_rfl) | assumption | omega | (unfold fits; omega) | decide +kernel | (constructor <;> first | assumption | omega) | (simp only [off_addO, tysz, off, offE] <;> omega) | (simp only [lens, off_addO, off, offE] <;> omega) | (simp only [off_addO, tysz, lens, off, offE] <;> omega) | (constructor <;> first | assumption | (simp only [off_addO, tysz, lens, off, offE] <;> omega))) | (refine cond_t ?hc ?_; case hc => first | rfl | assumption | (rw [decide_eq_true_eq]; omega) | (rw [decide_eq_false_iff_not]; omega) | (simp <;> omega)) | (refine cond_f ?hc ?_; case hc => first | rfl | assumption | (rw [decide_eq_true_eq]; omega) | (rw [decide_eq_false_iff_not]; omega) | (simp <;> omega)) | refine same_i ?_)
              conv => whnf
              refine same_q (by rw [hQ]; rfl) ?_
              repeat ((conv => whnf); first | (refine pre_i ?hc ?_; case hc => first | exact (show planOK _ _ _ = true from by kernel_rfl) | assumption | omega | (unfold fits; omega) | decide +kernel | (constructor <;> first | assumption | omega) | (simp only [off_addO, tysz, off, offE] <;> omega) | (simp only [lens, off_addO, off, offE] <;> omega) | (simp only [off_addO, tysz, lens, off, offE] <;> omega) | (constructor <;> first | assumption | (simp only [off_addO, tysz, lens, off, offE] <;> omega))) | (refine cond_t ?hc ?_; case hc => first | rfl | assumption | (rw [decide_eq_true_eq]; omega) | (rw [decide_eq_false_iff_not]; omega) | (simp <;> omega)) | (refine cond_f ?hc ?_; case hc => first | rfl | assumption | (rw [decide_eq_true_eq]; omega) | (rw [decide_eq_false_iff_not]; omega) | (simp <;> omega)) | refine same_i ?_)
              conv => whnf
              refine same_q (by rw [hQ]; rfl) ?_
              repeat ((conv => whnf); first | (refine pre_i ?hc ?_; case hc => first | exact (show planOK _ _ _ = true from by kernel_rfl) | assumption | omega | (unfold fits; omega) | decide +kernel | (constructor <;> first | assumption | omega) | (simp only [off_addO, tysz, off, offE] <;> omega) | (simp only [lens, off_addO, off, offE] <;> omega) | (simp only [off_addO, tysz, lens, off, offE] <;> omega) | (constructor <;> first | assumption | (simp only [off_addO, tysz, lens, off, offE] <;> omega))) | (refine cond_t ?hc ?_; case hc => first | rfl | assumption | (rw [decide_eq_true_eq]; omega) | (rw [decide_eq_false_iff_not]; omega) | (simp <;> omega)) | (refine cond_f ?hc ?_; case hc => first | rfl | assumption | (rw [decide_eq_true_eq]; omega) | (rw [decide_eq_false_iff_not]; omega) | (simp <;> omega)) | refine same_i ?_)
              conv => whnf
              refine same_q (by rw [hQ]; rfl) ?_
              repeat ((conv => whnf); first | (refine pre_i ?hc ?_; case hc => first | exact (show planOK _ _ _ = true from by kernel_rfl) | assumption | omega | (unfold fits; omega) | decide +kernel | (constructor <;> first | assumption | omega) | (simp only [off_addO, tysz, off, offE] <;> omega) | (simp only [lens, off_addO, off, offE] <;> omega) | (simp only [off_addO, tysz, lens, off, offE] <;> omega) | (constructor <;> first | assumption | (simp only [off_addO, tysz, lens, off, offE] <;> omega))) | (refine cond_t ?hc ?_; case hc => first | rfl | assumption | (rw [decide_eq_true_eq]; omega) | (rw [decide_eq_false_iff_not]; omega) | (simp <;> omega)) | (refine cond_f ?hc ?_; case hc => first | rfl | assumption | (rw [decide_eq_true_eq]; omega) | (rw [decide_eq_false_iff_not]; omega) | (simp <;> omega)) | refine same_i ?_)
              conv => whnf
              refine same_q (congrArg SV.u32 (by show _ = UInt32.ofNat (bitn e (255 - (q.i + 1))); rw [hbit, show 254 - q.i = 255 - (q.i + 1) by omega])) ?_
              repeat ((conv => whnf); first | (refine pre_i ?hc ?_; case hc => first | exact (show planOK _ _ _ = true from by kernel_rfl) | assumption | omega | (unfold fits; omega) | decide +kernel | (constructor <;> first | assumption | omega) | (simp only [off_addO, tysz, off, offE] <;> omega) | (simp only [lens, off_addO, off, offE] <;> omega) | (simp only [off_addO, tysz, lens, off, offE] <;> omega) | (constructor <;> first | assumption | (simp only [off_addO, tysz, lens, off, offE] <;> omega))) | (refine cond_t ?hc ?_; case hc => first | rfl | assumption | (rw [decide_eq_true_eq]; omega) | (rw [decide_eq_false_iff_not]; omega) | (simp <;> omega)) | (refine cond_f ?hc ?_; case hc => first | rfl | assumption | (rw [decide_eq_true_eq]; omega) | (rw [decide_eq_false_iff_not]; omega) | (simp <;> omega)) | refine same_i ?_)
              conv => whnf
              refine same_q (congrArg SV.int (by show (254 - (q.i : Int) - 1) = 254 - ((q.i + 1 : Nat) : Int); omega)) ?_
              repeat ((conv => whnf); first | (refine pre_i ?hc ?_; case hc => first | exact (show planOK _ _ _ = true from by kernel_rfl) | assumption | omega | (unfold fits; omega) | decide +kernel | (constructor <;> first | assumption | omega) | (simp only [off_addO, tysz, off, offE] <;> omega) | (simp only [lens, off_addO, off, offE] <;> omega) | (simp only [off_addO, tysz, lens, off, offE] <;> omega) | (constructor <;> first | assumption | (simp only [off_addO, tysz, lens, off, offE] <;> omega))) | (refine cond_t ?hc ?_; case hc => first | rfl | assumption | (rw [decide_eq_true_eq]; omega) | (rw [decide_eq_false_iff_not]; omega) | (simp <;> omega)) | (refine cond_f ?hc ?_; case hc => first | rfl | assumption | (rw [decide_eq_true_eq]; omega) | (rw [decide_eq_false_iff_not]; omega) | (simp <;> omega)) | refine same_i ?_)
              exact trivial
          · have hd : decide (UInt32.ofNat (bitn e (254 - q.i)) = UInt32.ofNat (bitn e (255 - q.i))) = false := decide_eq_false (fun hh => hb (by
              have := congrArg UInt32.toNat hh
              rw [Num32.ofNat_lt (by omega), Num32.ofNat_lt (by omega)] at this
              exact this.symm))
            rw [← hbit] at hd
            have hQ := ladQ_turn (m := md 2) (x1 := x1) (y := y) hb
            generalize ladQ (md 2) x1 y e q.i = Q at *
            obtain ⟨x2, z2, x3, z3⟩ := Q
            replace l2 : x2 < md 2 := l2
            replace l3 : z2 < md 2 := l3
            replace l4 : x3 < md 2 := l4
            replace l5 : z3 < md 2 := l5
            repeat ((conv => whnf); first | (refine pre_i ?hc ?_; case hc => first | exact (show planOK _ _ _ = true from by kernel_rfl) | assumption | omega | (unfold fits; omega) | decide +kernel | (constructor <;> first | assumption | omega) | (simp only [off_addO, tysz, off, offE] <;> omega) | (simp only [lens, off_addO, off, offE] <;> omega) | (simp only [off_addO, tysz, lens, off, offE] <;> omega) | (constructor <;> first | assumption | (simp only [off_addO, tysz, lens, off, offE] <;> omega))) | (refine cond_t ?hc ?_; case hc => first | rfl | assumption | (rw [decide_eq_true_eq]; omega) | (rw [decide_eq_false_iff_not]; omega) | (simp <;> omega) | exact hd | (rw [hd]; rfl)) | (refine cond_f ?hc ?_; case hc => first | rfl | assumption | (rw [decide_eq_true_eq]; omega) | (rw [decide_eq_false_iff_not]; omega) | (simp <;> omega) | exact hd | (rw [hd]; rfl)) | refine same_i ?_)
            iterate 18
              conv => whnf
              refine ⟨_, _, ⟨rfl, rfl, rfl, by with_reducible first | assumption | exact fa_lt _ _ | exact fs_lt _ _ | exact mo2_lt _ _, by with_reducible first | assumption | exact fa_lt _ _ | exact fs_lt _ _ | exact mo2_lt _ _⟩, ?_⟩
              repeat ((conv => whnf); first | (refine pre_i ?hc ?_; case hc => first | exact (show planOK _ _ _ = true from by kernel_rfl) | assumption | omega | (unfold fits; omega) | decide +kernel | (constructor <;> first | assumption | omega) | (simp only [off_addO, tysz, off, offE] <;> omega) | (simp only [lens, off_addO, off, offE] <;> omega) | (simp only [off_addO, tysz, lens, off, offE] <;> omega) | (constructor <;> first | assumption | (simp only [off_addO, tysz, lens, off, offE] <;> omega))) | (refine cond_t ?hc ?_; case hc => first | rfl | assumption | (rw [decide_eq_true_eq]; omega) | (rw [decide_eq_false_iff_not]; omega) | (simp <;> omega)) | (refine cond_f ?hc ?_; case hc => first | rfl | assumption | (rw [decide_eq_true_eq]; omega) | (rw [decide_eq_false_iff_not]; omega) | (simp <;> omega)) | refine same_i ?_)
            conv => whnf
            refine ⟨⟨q.i + 1, h4⟩, [0, 1, 2, 3, 4, 5, 6, 7, 8], ?_, ?_⟩
            · show 255 - (q.i + 1) < 255 - q.i
              omega
            · repeat ((conv => whnf); first | (refine pre_i ?hc ?_; case hc => first | exact (show planOK _ _ _ = true from by kernel_rfl) | assumption | omega | (unfold fits; omega) | decide +kernel | (constructor <;> first | assumption | omega) | (simp only [off_addO, tysz, off, offE] <;> omega) | (simp only [lens, off_addO, off, offE] <;> omega) | (simp only [off_addO, tysz, lens, off, offE] <;> omega) | (constructor <;> first | assumption | (simp only [off_addO, tysz, lens, off, offE] <;> omega))) | (refine cond_t ?hc ?_; case hc => first | rfl | assumption | (rw [decide_eq_true_eq]; omega) | (rw [decide_eq_false_iff_not]; omega) | (simp <;> omega)) | (refine cond_f ?hc ?_; case hc => first | rfl | assumption | (rw [decide_eq_true_eq]; omega) | (rw [decide_eq_false_iff_not]; omega) | (simp <;> omega)) | refine same_i ?_)
              conv => whnf
              refine same_q (by rw [hQ]; rfl) ?_
              repeat ((conv => whnf); first | (refine pre_i ?hc ?_; case hc => first | exact (show planOK _ _ _ = true from by kernel_rfl) | assumption | omega | (unfold fits; omega) | decide +kernel | (constructor <;> first | assumption | omega) | (simp only [off_addO, tysz, off, offE] <;> omega) | (simp only [lens, off_addO, off, offE] <;> omega) | (simp only [off_addO, tysz, lens, off, offE] <;> omega) | (constructor <;> first | assumption | (simp only [off_addO, tysz, lens, off, offE] <;> omega))) | (refine cond_t ?hc ?_; case hc => first | rfl | assumption | (rw [decide_eq_true_eq]; omega) | (rw [decide_eq_false_iff_not]; omega) | (simp <;> omega)) | (refine cond_f ?hc ?_; case hc => first | rfl | assumption | (rw [decide_eq_true_eq]; omega) | (rw [decide_eq_false_iff_not]; omega) | (simp <;> omega)) | refine same_i ?_)
              conv => whnf
              refine same_q (by rw [hQ]; rfl) ?_
              repeat ((conv => whnf); first | (refine pre_i ?hc ?_; case hc => first | exact (show planOK _ _ _ = true from by kernel_rfl) | assumption | omega | (unfold fits; omega) | decide +kernel | (constructor <;> first | assumption | omega) | (simp only [off_addO, tysz, off, offE] <;> omega) | (simp only [lens, off_addO, off, offE] <;> omega) | (simp only [off_addO, tysz, lens, off, offE] <;> omega) | (constructor <;> first | assumption | (simp only [off_addO, tysz, lens, off, offE] <;> omega))) | (refine cond_t ?hc ?_; case hc => first | rfl | assumption | (rw [decide_eq_true_eq]; omega) | (rw [decide_eq_false_iff_not]; omega) | (simp <;> omega)) | (refine cond_f ?hc ?_; case hc => first | rfl | assumption | (rw [decide_eq_true_eq]; omega) | (rw [decide_eq_false_iff_not]; omega) | (simp <;> omega)) | refine same_i ?_)
              conv => whnf
              refine same_q (by rw [hQ]; rfl) ?_
              repeat ((conv => whnf); first | (refine pre_i ?hc ?_; case hc => first | exact (show planOK _ _ _ = true from by kernel_rfl) | assumption | omega | (unfold fits; omega) | decide +kernel | (constructor <;> first | assumption | omega) | (simp only [off_addO, tysz, off, offE] <;> omega) | (simp only [lens, off_addO, off, offE] <;> omega) | (simp only [off_addO, tysz, lens, off, offE] <;> omega) | (constructor <;> first | assumption | (simp only [off_addO, tysz, lens, off, offE] <;> omega))) | (refine cond_t ?hc ?_; case hc => first | rfl | assumption | (rw [decide_eq_true_eq]; omega) | (rw [decide_eq_false_iff_not]; omega) | (simp <;> omega)) | (refine cond_f ?hc ?_; case hc => first | rfl | assumption | (rw [decide_eq_true_eq]; omega) | (rw [decide_eq_false_iff_not]; omega) | (simp <;> omega)) | refine same_i ?_)
              conv => whnf
              refine same_q (by rw [hQ]; rfl) ?_
              repeat ((conv => whnf); first | (refine pre_i ?hc ?_; case hc => first | exact (show planOK _ _ _ = true from by kernel_rfl) | assumption | omega | (unfold fits; omega) | decide +kernel | (constructor <;> first | assumption | omega) | (simp only [off_addO, tysz, off, offE] <;> omega) | (simp only [lens, off_addO, off, offE] <;> omega) | (simp only [off_addO, tysz, lens, off, offE] <;> omega) | (constructor <;> first | assumption | (simp only [off_addO, tysz, lens, off, offE] <;> omega))) | (refine cond_t ?hc ?_; case hc => first | rfl | assumption | (rw [decide_eq_true_eq]; omega) | (rw [decide_eq_false_iff_not]; omega) | (simp <;> omega)) | (refine cond_f ?hc ?_; case hc => first | rfl | assumption | (rw [decide_eq_true_eq]; omega) | (rw [decide_eq_false_iff_not]; omega) | (simp <;> omega)) | refine same_i ?_)
              conv => whnf
              refine same_q (congrArg SV.u32 (by show _ = UInt32.ofNat (bitn e (255 - (q.i + 1))); rw [hbit, show 254 - q.i = 255 - (q.i + 1) by omega])) ?_
              repeat ((conv => whnf); first | (refine pre_i ?hc ?_; case hc => first | exact (show planOK _ _ _ = true from by kernel_rfl) | assumption | omega | (unfold fits; omega) | decide +kernel | (constructor <;> first | assumption | omega) | (simp only [off_addO, tysz, off, offE] <;> omega) | (simp only [lens, off_addO, off, offE] <;> omega) | (simp only [off_addO, tysz, lens, off, offE] <;> omega) | (constructor <;> first | assumption | (simp only [off_addO, tysz, lens, off, offE] <;> omega))) | (refine cond_t ?hc ?_; case hc => first | rfl | assumption | (rw [decide_eq_true_eq]; omega) | (rw [decide_eq_false_iff_not]; omega) | (simp <;> omega)) | (refine cond_f ?hc ?_; case hc => first | rfl | assumption | (rw [decide_eq_true_eq]; omega) | (rw [decide_eq_false_iff_not]; omega) | (simp <;> omega)) | refine same_i ?_)
              conv => whnf
              refine same_q (congrArg SV.int (by show (254 - (q.i : Int) - 1) = 254 - ((q.i + 1 : Nat) : Int); omega)) ?_
              repeat ((conv => whnf); first | (refine pre_i ?hc ?_; case hc => first | exact (show planOK _ _ _ = true from by kernel_rfl) | assumption | omega | (unfold fits; omega) | decide +kernel | (constructor <;> first | assumption | omega) | (simp only [off_addO, tysz, off, offE] <;> omega) | (simp only [lens, off_addO, off, offE] <;> omega) | (simp only [off_addO, tysz, lens, off, offE] <;> omega) | (constructor <;> first | assumption | (simp only [off_addO, tysz, lens, off, offE] <;> omega))) | (refine cond_t ?hc ?_; case hc => first | rfl | assumption | (rw [decide_eq_true_eq]; omega) | (rw [decide_eq_false_iff_not]; omega) | (simp <;> omega)) | (refine cond_f ?hc ?_; case hc => first | rfl | assumption | (rw [decide_eq_true_eq]; omega) | (rw [decide_eq_false_iff_not]; omega) | (simp <;> omega)) | refine same_i ?_)
              exact trivial
        · have e4 : q.i = 255 := by omega
          have hz : bitn e (255 - q.i) = 0 := by rw [e4]; unfold bitn; rw [show (2 : Nat) ^ (255 - 255) = 1 from rfl, Nat.div_one]; exact he2
          have hd : decide (UInt32.ofNat (bitn e (255 - q.i)) = UInt32.ofNat 1) = false := by rw [hz]; decide
          repeat ((conv => whnf); first | (refine pre_i ?hc ?_; case hc => first | exact (show planOK _ _ _ = true from by kernel_rfl) | assumption | omega | (unfold fits; omega) | decide +kernel | (constructor <;> first | assumption | omega) | (simp only [off_addO, tysz, off, offE] <;> omega) | (simp only [lens, off_addO, off, offE] <;> omega) | (simp only [off_addO, tysz, lens, off, offE] <;> omega) | (constructor <;> first | assumption | (simp only [off_addO, tysz, lens, off, offE] <;> omega))) | (refine cond_t ?hc ?_; case hc => first | rfl | assumption | (rw [decide_eq_true_eq]; omega) | (rw [decide_eq_false_iff_not]; omega) | (simp <;> omega) | exact hd | (rw [hd]; rfl)) | (refine cond_f ?hc ?_; case hc => first | rfl | assumption | (rw [decide_eq_true_eq]; omega) | (rw [decide_eq_false_iff_not]; omega) | (simp <;> omega) | exact hd | (rw [hd]; rfl)) | refine same_i ?_)
          conv => whnf
          refine ⟨_, ⟨rfl, rfl, l3⟩, ?_⟩
          repeat ((conv => whnf); first | (refine pre_i ?hc ?_; case hc => first | exact (show planOK _ _ _ = true from by kernel_rfl) | assumption | omega | (unfold fits; omega) | decide +kernel | (constructor <;> first | assumption | omega) | (simp only [off_addO, tysz, off, offE] <;> omega) | (simp only [lens, off_addO, off, offE] <;> omega) | (simp only [off_addO, tysz, lens, off, offE] <;> omega) | (constructor <;> first | assumption | (simp only [off_addO, tysz, lens, off, offE] <;> omega))) | (refine cond_t ?hc ?_; case hc => first | rfl | assumption | (rw [decide_eq_true_eq]; omega) | (rw [decide_eq_false_iff_not]; omega) | (simp <;> omega)) | (refine cond_f ?hc ?_; case hc => first | rfl | assumption | (rw [decide_eq_true_eq]; omega) | (rw [decide_eq_false_iff_not]; omega) | (simp <;> omega)) | refine same_i ?_)
          conv => whnf
          refine ⟨_, _, ⟨rfl, rfl, rfl, l2, invL2_lt _ _ _⟩, ?_⟩
          repeat ((conv => whnf); first | (refine pre_i ?hc ?_; case hc => first | exact (show planOK _ _ _ = true from by kernel_rfl) | assumption | omega | (unfold fits; omega) | decide +kernel | (constructor <;> first | assumption | omega) | (simp only [off_addO, tysz, off, offE] <;> omega) | (simp only [lens, off_addO, off, offE] <;> omega) | (simp only [off_addO, tysz, lens, off, offE] <;> omega) | (constructor <;> first | assumption | (simp only [off_addO, tysz, lens, off, offE] <;> omega))) | (refine cond_t ?hc ?_; case hc => first | rfl | assumption | (rw [decide_eq_true_eq]; omega) | (rw [decide_eq_false_iff_not]; omega) | (simp <;> omega)) | (refine cond_f ?hc ?_; case hc => first | rfl | assumption | (rw [decide_eq_true_eq]; omega) | (rw [decide_eq_false_iff_not]; omega) | (simp <;> omega)) | refine same_i ?_)
          conv => whnf
          refine ⟨_, ⟨rfl, rfl, mo2_lt _ _⟩, ?_⟩
          repeat ((conv => whnf); first | (refine pre_i ?hc ?_; case hc => first | exact (show planOK _ _ _ = true from by kernel_rfl) | assumption | omega | (unfold fits; omega) | decide +kernel | (constructor <;> first | assumption | omega) | (simp only [off_addO, tysz, off, offE] <;> omega) | (simp only [lens, off_addO, off, offE] <;> omega) | (simp only [off_addO, tysz, lens, off, offE] <;> omega) | (constructor <;> first | assumption | (simp only [off_addO, tysz, lens, off, offE] <;> omega))) | (refine cond_t ?hc ?_; case hc => first | rfl | assumption | (rw [decide_eq_true_eq]; omega) | (rw [decide_eq_false_iff_not]; omega) | (simp <;> omega)) | (refine cond_f ?hc ?_; case hc => first | rfl | assumption | (rw [decide_eq_true_eq]; omega) | (rw [decide_eq_false_iff_not]; omega) | (simp <;> omega)) | refine same_i ?_)
          conv => whnf
          rw [e4]
          refine final_h (hp' := []) [] h ?_
          repeat ((conv => whnf); first | (refine pre_i ?hc ?_; case hc => first | exact (show planOK _ _ _ = true from by kernel_rfl) | assumption | omega | (unfold fits; omega) | decide +kernel | (constructor <;> first | assumption | omega) | (simp only [off_addO, tysz, off, offE] <;> omega) | (simp only [lens, off_addO, off, offE] <;> omega) | (simp only [off_addO, tysz, lens, off, offE] <;> omega) | (constructor <;> first | assumption | (simp only [off_addO, tysz, lens, off, offE] <;> omega))) | (refine cond_t ?hc ?_; case hc => first | rfl | assumption | (rw [decide_eq_true_eq]; omega) | (rw [decide_eq_false_iff_not]; omega) | (simp <;> omega)) | (refine cond_f ?hc ?_; case hc => first | rfl | assumption | (rw [decide_eq_true_eq]; omega) | (rw [decide_eq_false_iff_not]; omega) | (simp <;> omega)) | refine same_i ?_)
          exact trivial
    · exact h.elim
end Go.Sym.N

/-
  The ladder at points of small order: plain laws. No program in sight; no condition beyond each lemma's own.
-/
namespace Go.Sym.X
open Go.Sym.Num

section
variable {m : Nat}
theorem mo_zl (m b : Nat) : mo m 0 b = 0 := by unfold mo mont; simp
theorem mo_zr (m a : Nat) : mo m a 0 = 0 := by unfold mo mont; simp
theorem mo_mod2 (m a b : Nat) : mo m (a % m) (b % m) = mo m a b := by
  unfold mo mont
  rw [Nat.mul_mod, ← Nat.mul_mod a b, ← Nat.mul_mod]
theorem sq_neg {m a : Nat} (h : a ≤ m) : (m - a) * (m - a) % m = a * a % m := by
  obtain ⟨c, rfl⟩ : ∃ c, m = a + c := ⟨m - a, by omega⟩
  rw [Nat.add_sub_cancel_left]
  have e : c * c + a * (a + c) = a * a + c * (a + c) := by rw [Nat.mul_add, Nat.mul_add, Nat.mul_comm c a]; omega
  have := congrArg (· % (a + c)) e
  simp only [Nat.add_mul_mod_self_right] at this
  exact this
theorem mo_neg {m a : Nat} (h : a ≤ m) : mo m (m - a) (m - a) = mo m a a := by
  unfold mo mont
  rw [Nat.mul_mod, sq_neg h, ← Nat.mul_mod]
theorem fs_self {a : Nat} (h : a < m) : fs m a a = 0 := by
  unfold fs
  rw [show a + (m - a) = m by omega, Nat.mod_self]
theorem fa_zl (m a : Nat) : fa m 0 a = a % m := by unfold fa; rw [Nat.zero_add]
theorem fa_zr (m a : Nat) : fa m a 0 = a % m := rfl
theorem fs_zl (m a : Nat) : fs m 0 a = (m - a) % m := by unfold fs; rw [Nat.zero_add]
theorem fs_zr (m a : Nat) : fs m a 0 = a % m := by unfold fs; rw [Nat.sub_zero, Nat.add_mod_right]

/-- a point whose double is none, or whose double is that of none -/
def axis (x z : Nat) : Prop := x = 0 ∨ z = 0
theorem axis_dbl (h : 0 < m) {x1 y : Nat} {q : Q4} (hq : q.ok m) (ha : axis q.x2 q.z2) : (stepQ m x1 y q).z2 = 0 := by
  have e : stAA m q = stBB m q := by
    unfold stAA stBB stA stB
    rcases ha with h0 | h0 <;> rw [h0]
    · rw [fa_zl, fs_zl, mo_mod2, mo_mod2, mo_neg (Nat.le_of_lt hq.2.1)]
    · rw [fa_zr, fs_zr]
  show mo m (stE m q) _ = 0
  unfold stE
  rw [e, show fs m (stBB m q) (stBB m q) = 0 from fs_self (mo_lt h _ _), mo_zl]

/-! the point 0 -/
def inv0 (q : Q4) : Prop := axis q.x2 q.z2 ∧ axis q.x3 q.z3
theorem inv0_step (h : 0 < m) {y : Nat} {q : Q4} (hq : q.ok m) (ha : inv0 q) : inv0 (stepQ m 0 y q) :=
  ⟨.inr (axis_dbl h hq ha.1), .inr (mo_zl _ _)⟩
theorem inv0_lad (h : 0 < m) (y e : Nat) : ∀ j, inv0 (ladQ m 0 y e j)
  | 0 => ⟨.inr rfl, .inl rfl⟩
  | j + 1 => by
    have ih := inv0_lad h y e j
    have ok := ladQ_ok h h y e j
    simp only [ladQ]
    split
    · exact inv0_step h ok ih
    · exact inv0_step h (turn_ok ok) ⟨ih.2, ih.1⟩
/-! the points 1 and -1 -/
def diag (m : Nat) (x z : Nat) : Prop := fs m x z = 0
def anti (m : Nat) (x z : Nat) : Prop := fa m x z = 0
def inv1 (m : Nat) (q : Q4) : Prop := axis q.x2 q.z2 ∧ (diag m q.x3 q.z3 ∨ anti m q.x3 q.z3)
/-- the squares behind a step agree -/
theorem squares {q : Q4} (hq : q.ok m) (h : 0 < m) (ha : diag m q.x2 q.z2 ∨ anti m q.x2 q.z2 ∨ diag m q.x3 q.z3 ∨ anti m q.x3 q.z3) : mo m (stS m q) (stS m q) = mo m (stT m q) (stT m q) := by
  have h0 : stDA m q = 0 ∨ stCB m q = 0 := by
    unfold stDA stCB stA stB
    rcases ha with h | h | h | h
    · right; unfold diag at h; rw [h, mo_zr]
    · left; unfold anti at h; rw [h, mo_zr]
    · left; unfold diag at h; rw [h, mo_zl]
    · right; unfold anti at h; rw [h, mo_zl]
  unfold stS stT
  rcases h0 with h0 | h0 <;> rw [h0]
  · rw [fa_zl, fs_zl, mo_mod2, mo_mod2]
    exact (mo_neg (Nat.le_of_lt (mo_lt h _ _))).symm
  · rw [fa_zr, fs_zr]
/-- behind a step the first point lies on the axis -/
theorem axis_step (h : 0 < m) {x1 y : Nat} {q : Q4} (hq : q.ok m) (ha : axis q.x2 q.z2 ∨ diag m q.x2 q.z2 ∨ anti m q.x2 q.z2) : axis (stepQ m x1 y q).x2 (stepQ m x1 y q).z2 := by
  rcases ha with ha | ha | ha
  · exact .inr (axis_dbl h hq ha)
  · left
    show mo m (stAA m q) (stBB m q) = 0
    unfold diag at ha
    unfold stBB stB
    rw [ha, mo_zl, mo_zr]
  · left
    show mo m (stAA m q) (stBB m q) = 0
    unfold anti at ha
    unfold stAA stA
    rw [ha, mo_zl, mo_zl]
theorem inv1_lad (h : 0 < m) {x1 y e : Nat} (hx : x1 < m) (h1 : ∀ t, t < m → diag m t (mo m x1 t) ∨ anti m t (mo m x1 t)) (h0 : diag m x1 (B4 % m) ∨ anti m x1 (B4 % m)) : ∀ j, inv1 m (ladQ m x1 y e j)
  | 0 => ⟨.inr rfl, h0⟩
  | j + 1 => by
    have ih := inv1_lad h (y := y) (e := e) hx h1 h0 j
    have ok := ladQ_ok h hx y e j
    simp only [ladQ]
    split
    · refine ⟨axis_step h ok (.inl ih.1), ?_⟩
      show diag m (mo m _ _) (mo m x1 (mo m _ _)) ∨ anti m (mo m _ _) (mo m x1 (mo m _ _))
      rw [← squares ok h (.inr (.inr ih.2))]
      exact h1 _ (mo_lt h _ _)
    · refine ⟨axis_step h (turn_ok ok) (.inr ih.2), ?_⟩
      show diag m (mo m _ _) (mo m x1 (mo m _ _)) ∨ anti m (mo m _ _) (mo m x1 (mo m _ _))
      rw [← squares (turn_ok ok) h (ih.2.elim .inl (fun h => .inr (.inl h)))]
      exact h1 _ (mo_lt h _ _)
end

theorem invL_none : invL (md 2) 0 (md 2 - 2) 256 = 0 := by
  have h2 := md_gt (w := 2) (by decide)
  have hlt := md_lt (w := 2) (by decide)
  have e0 : toM (md 2) 0 = 0 := by unfold toM; simp
  have h := invL_pow (md_ri (w := 2) (by decide)) 0 (e := md 2 - 2) (by omega) 256 (Nat.le_refl _)
  rw [e0, Nat.sub_self, Nat.pow_zero, Nat.div_one, Nat.zero_pow (by omega), e0] at h
  exact h
theorem ladM_axis {e x1 : Nat} (h : axis (ladQ (md 2) x1 (toM (md 2) 121665) e 255).x2 (ladQ (md 2) x1 (toM (md 2) 121665) e 255).z2) : ladM e x1 = 0 := by
  unfold ladM
  rcases h with h | h <;> rw [h]
  · rw [mo_zl, mo_zl]
  · rw [invL_none, mo_zr, mo_zl]
theorem small0 (e : Nat) : ladM e (toM (md 2) 0) = 0 := by
  have e0 : toM (md 2) 0 = 0 := by unfold toM; simp
  rw [e0]
  exact ladM_axis (inv0_lad (by decide) _ e 255).1
theorem small1 (e : Nat) : ladM e (toM (md 2) 1) = 0 := by
  have hp : 0 < md 2 := by decide
  have e1 : toM (md 2) 1 = B4 % md 2 := by unfold toM; rw [Nat.one_mul]
  refine ladM_axis (inv1_lad hp (toM_lt hp _) (fun t ht => .inl ?_) (.inl ?_) 255).1
  · unfold diag
    rw [mo_l (md_ri (w := 2) (by decide)), Nat.one_mul, Nat.mod_eq_of_lt ht, fs_self ht]
  · unfold diag
    rw [e1, fs_self (Nat.mod_lt _ hp)]
theorem smallM (e : Nat) : ladM e (toM (md 2) (md 2 - 1)) = 0 := by
  have hp : 0 < md 2 := by decide
  have key : ∀ t, (t + (md 2 - 1) * t % md 2) % md 2 = 0 := fun t => by
    rw [Nat.add_mod_mod, show t + (md 2 - 1) * t = md 2 * t by
      have : md 2 = (md 2 - 1) + 1 := by omega
      rw [this, Nat.add_mul, Nat.one_mul, Nat.add_sub_cancel]; omega, Nat.mul_mod_right]
  refine ladM_axis (inv1_lad hp (toM_lt hp _) (fun t ht => .inr ?_) (.inr ?_) 255).1
  · unfold anti fa
    rw [mo_l (md_ri (w := 2) (by decide))]
    exact key t
  · unfold anti fa
    show ((md 2 - 1) * B4 % md 2 + B4 % md 2) % md 2 = 0
    rw [Nat.add_mod_mod, Nat.add_comm]
    exact key B4
end Go.Sym.X

/-
  Prime numbers: Fermat's theorem, Pocklington's test, three primes. Plain laws; no program in sight; no condition beyond each lemma's own.
-/
namespace Go.Sym.Pr

def IsP (p : Nat) : Prop := 2 ≤ p ∧ ∀ d, d ∣ p → d = 1 ∨ d = p

theorem cop {p a : Nat} (hp : IsP p) (h : ¬ p ∣ a) : Nat.Coprime p a := by
  rcases hp.2 _ (Nat.gcd_dvd_left p a) with h1 | h1
  · exact h1
  · exact absurd (h1 ▸ Nat.gcd_dvd_right p a) h
theorem euclid {p a b : Nat} (hp : IsP p) (h : p ∣ a * b) : p ∣ a ∨ p ∣ b := by
  by_cases ha : p ∣ a
  · exact .inl ha
  · exact .inr ((cop hp ha).dvd_of_dvd_mul_left h)

/-! ### products of lists -/
def prod : List Nat → Nat
  | [] => 1
  | x :: xs => x * prod xs
theorem prod_erase {l : List Nat} {a : Nat} (h : a ∈ l) : prod l = a * prod (l.erase a) := by
  induction l with
  | nil => cases h
  | cons x xs ih =>
    by_cases hx : x = a
    · subst hx; rw [List.erase_cons_head]; rfl
    · rw [List.erase_cons_tail (by simpa using hx)]
      have hm : a ∈ xs := by
        rcases List.mem_cons.1 h with h | h
        · exact absurd h.symm hx
        · exact h
      simp only [prod]
      rw [ih hm, Nat.mul_left_comm]
def fact : Nat → Nat
  | 0 => 1
  | n + 1 => (n + 1) * fact n
/-- so many different numbers from 1 to n, n of them: their product -/
theorem prod_all : ∀ (n : Nat) (l : List Nat), l.Nodup → (∀ x ∈ l, 1 ≤ x ∧ x ≤ n) → l.length ≤ n ∧ (l.length = n → prod l = fact n)
  | 0, l, _, hr => by
    cases l with
    | nil => exact ⟨Nat.le_refl _, fun _ => rfl⟩
    | cons x xs => have := hr x (by simp); omega
  | n + 1, l, hd, hr => by
    by_cases hm : n + 1 ∈ l
    · have hd' : (l.erase (n + 1)).Nodup := hd.erase _
      have hr' : ∀ x ∈ l.erase (n + 1), 1 ≤ x ∧ x ≤ n := fun x hx => by
        have h1 := (List.Nodup.mem_erase_iff hd).1 hx
        have h2 := hr x h1.2
        have := h1.1
        omega
      obtain ⟨h1, h2⟩ := prod_all n _ hd' hr'
      have hl := List.length_erase_of_mem hm
      have hpos : 0 < l.length := List.length_pos_of_mem hm
      refine ⟨by omega, fun he => ?_⟩
      rw [prod_erase hm, h2 (by omega)]; rfl
    · have hr' : ∀ x ∈ l, 1 ≤ x ∧ x ≤ n := fun x hx => by
        have h2 := hr x hx
        have : x ≠ n + 1 := fun e => hm (e ▸ hx)
        omega
      obtain ⟨h1, _⟩ := prod_all n _ hd hr'
      exact ⟨by omega, fun he => by omega⟩

theorem prod_map_mod {p a : Nat} : ∀ l : List Nat, prod (l.map fun x => a * x % p) % p = a ^ l.length * prod l % p
  | [] => by simp [prod]
  | x :: xs => by
    simp only [List.map_cons, prod, List.length_cons]
    rw [Nat.mod_mul_mod, Nat.mul_mod, prod_map_mod xs, ← Nat.mul_mod, Nat.pow_succ]
    congr 1
    simp only [Nat.mul_assoc, Nat.mul_left_comm]
theorem not_dvd_fact {p : Nat} (hp : IsP p) : ∀ n, n < p → ¬ p ∣ fact n
  | 0, _, h => by
    have h1 : p ≤ 1 := Nat.le_of_dvd (by decide) h
    have h2 := hp.1
    omega
  | n + 1, hn, h => by
    rcases euclid hp h with h | h
    · have := Nat.le_of_dvd (by omega) h; omega
    · exact not_dvd_fact hp n (by omega) h

theorem pairwise_ne {f : Nat → Nat} {n : Nat} (h : ∀ i j, i < j → j < n → f i ≠ f j) : ((List.range n).map f).Nodup := by
  refine List.pairwise_map.2 ?_
  refine List.Pairwise.imp_of_mem ?_ (List.pairwise_lt_range (n := n))
  intro i j _ hj hij
  exact h i j hij (List.mem_range.1 hj)

/-- Fermat's theorem -/
theorem fermat {p a : Nat} (hp : IsP p) (ha : ¬ p ∣ a) : a ^ (p - 1) % p = 1 := by
  have hp2 := hp.1
  let L := (List.range (p - 1)).map fun i => i + 1
  have hL : L.length = p - 1 := by simp [L]
  have hLp : prod L = fact (p - 1) := by
    refine (prod_all (p - 1) L ?_ ?_).2 hL
    · exact pairwise_ne fun i j h _ => by omega
    · intro x hx
      obtain ⟨i, hi, rfl⟩ := List.mem_map.1 hx
      have := List.mem_range.1 hi
      omega
  have hM : prod (L.map fun x => a * x % p) = fact (p - 1) := by
    refine (prod_all (p - 1) _ ?_ ?_).2 (by simp [hL])
    · simp only [L, List.map_map]
      refine pairwise_ne fun i j hij hj he => ?_
      have he : a * (i + 1) % p = a * (j + 1) % p := he
      have hd : p ∣ a * (j - i) := by
        have h1 : a * (j + 1) = a * (i + 1) + a * (j - i) := by rw [← Nat.mul_add]; congr 1; omega
        have h2 : (a * (j + 1) - a * (i + 1)) % p = 0 := Nat.sub_mod_eq_zero_of_mod_eq he.symm
        rw [h1, Nat.add_sub_cancel_left] at h2
        exact Nat.dvd_of_mod_eq_zero h2
      rcases euclid hp hd with h | h
      · exact ha h
      · have := Nat.le_of_dvd (by omega) h; omega
    · intro x hx
      obtain ⟨y, hy, rfl⟩ := List.mem_map.1 hx
      obtain ⟨i, hi, rfl⟩ := List.mem_map.1 hy
      have hi := List.mem_range.1 hi
      have hlt : a * (i + 1) % p < p := Nat.mod_lt _ (by omega)
      have hne : a * (i + 1) % p ≠ 0 := fun h0 => by
        rcases euclid hp (Nat.dvd_of_mod_eq_zero h0) with h | h
        · exact ha h
        · have := Nat.le_of_dvd (by omega) h; omega
      omega
  have hmod := prod_map_mod (p := p) (a := a) L
  rw [hM, hL, hLp] at hmod
  -- (p-1)! = a^(p-1) (p-1)!
  have hpos : 1 ≤ a ^ (p - 1) := Nat.pow_pos (Nat.pos_of_ne_zero fun h => ha (h ▸ Nat.dvd_zero p))
  have hd : p ∣ (a ^ (p - 1) - 1) * fact (p - 1) := by
    have h2 : (a ^ (p - 1) * fact (p - 1) - fact (p - 1)) % p = 0 := Nat.sub_mod_eq_zero_of_mod_eq hmod.symm
    rw [Nat.sub_mul, Nat.one_mul]
    exact Nat.dvd_of_mod_eq_zero h2
  rcases euclid hp hd with h | h
  · obtain ⟨c, hc⟩ := h
    have : a ^ (p - 1) = 1 + p * c := by omega
    rw [this, Nat.add_mul_mod_self_left, Nat.mod_eq_of_lt (by omega)]
  · exact absurd h (not_dvd_fact hp (p - 1) (by omega))

/-! ### orders -/
theorem pow_mod_one {r b : Nat} (hr : 2 ≤ r) {m : Nat} (h : b ^ m % r = 1) (k : Nat) : b ^ (m * k) % r = 1 := by
  rw [Nat.pow_mul, Nat.pow_mod, h, Nat.one_pow, Nat.mod_eq_of_lt hr]
theorem pow_gcd {r b : Nat} (hr : 2 ≤ r) (m k : Nat) : b ^ m % r = 1 → b ^ k % r = 1 → b ^ Nat.gcd m k % r = 1 := by
  induction m, k using Nat.gcd.induction with
  | H0 k => intro _ h; rw [Nat.gcd_zero_left]; exact h
  | H1 m k hm ih =>
    intro h1 h2
    rw [Nat.gcd_rec]
    refine ih ?_ h1
    have hk : b ^ k = b ^ (m * (k / m)) * b ^ (k % m) := by rw [← Nat.pow_add, Nat.div_add_mod]
    rw [hk, Nat.mul_mod, pow_mod_one hr h1, Nat.one_mul, Nat.mod_mod] at h2
    exact h2

/-- a prime's divisor of n goes up to 1 -/
theorem order_dvd {n q a r : Nat} (hr : IsP r) (hrn : r ∣ n) (hq : IsP q) (hqn : q ∣ n - 1) (hn : 2 ≤ n) (h1 : a ^ (n - 1) % n = 1) (h2 : Nat.gcd (a ^ ((n - 1) / q) % n + n - 1) n = 1) : q ∣ r - 1 := by
  have hr2 := hr.1
  have hb : (a ^ ((n - 1) / q)) ^ q % r = 1 := by
    rw [← Nat.pow_mul, Nat.div_mul_cancel hqn]
    obtain ⟨c, hc⟩ := hrn
    have h3 := Nat.mod_mod_of_dvd (a ^ (n - 1)) (show r ∣ n from ⟨c, hc⟩)
    rw [h1, Nat.mod_eq_of_lt (show 1 < r by omega)] at h3
    exact h3.symm
  have hne : ¬ a ^ ((n - 1) / q) % r = 1 := fun he => by
    have hd1 : r ∣ a ^ ((n - 1) / q) % n + n - 1 := by
      obtain ⟨c, hc⟩ := hrn
      have h3 := Nat.mod_mod_of_dvd (a ^ ((n - 1) / q)) (show r ∣ n from ⟨c, hc⟩)
      rw [he] at h3
      have h4 : (a ^ ((n - 1) / q) % n) = r * ((a ^ ((n - 1) / q) % n) / r) + 1 := by
        have := Nat.div_add_mod (a ^ ((n - 1) / q) % n) r
        rw [h3] at this; exact this.symm
      refine ⟨(a ^ ((n - 1) / q) % n) / r + c, ?_⟩
      rw [Nat.mul_add, ← hc]; omega
    have := Nat.dvd_gcd hd1 hrn
    rw [h2] at this
    have := Nat.le_of_dvd (by decide) this
    omega
  generalize a ^ ((n - 1) / q) = b at hb hne
  have hrb : ¬ r ∣ b := fun hd => by
    have : b ^ q % r = 0 := by
      have hq2 := hq.1
      obtain ⟨t, rfl⟩ : ∃ t, q = t + 1 := ⟨q - 1, by omega⟩
      rw [Nat.pow_succ]
      exact Nat.mod_eq_zero_of_dvd (Nat.dvd_trans hd (Nat.dvd_mul_left _ _))
    omega
  have hf := fermat hr hrb
  by_cases hd : q ∣ r - 1
  · exact hd
  · have hc := cop hq hd
    have := pow_gcd hr2 q (r - 1) hb hf
    rw [hc, Nat.pow_one] at this
    exact absurd this hne

/-! ### a number that has no small prime divisor -/
theorem prime_dvd : ∀ n, 2 ≤ n → ∃ r, IsP r ∧ r ∣ n := by
  intro n
  induction n using Nat.strongRecOn with
  | _ n ih =>
    intro hn
    by_cases h : ∃ d, d ∣ n ∧ d ≠ 1 ∧ d ≠ n
    · obtain ⟨d, hd, h1, h2⟩ := h
      have hle := Nat.le_of_dvd (by omega) hd
      have h0 : d ≠ 0 := fun e => by subst e; have := Nat.eq_zero_of_zero_dvd hd; omega
      obtain ⟨r, hr, hrd⟩ := ih d (by omega) (by omega)
      exact ⟨r, hr, Nat.dvd_trans hrd hd⟩
    · refine ⟨n, ⟨hn, fun d hd => ?_⟩, Nat.dvd_refl _⟩
      by_cases h1 : d = 1
      · exact .inl h1
      · by_cases h2 : d = n
        · exact .inr h2
        · exact absurd ⟨d, hd, h1, h2⟩ h
theorem prime_of {n F : Nat} (hn : 2 ≤ n) (hF : n < (F + 1) * (F + 1)) (h : ∀ r, IsP r → r ∣ n → F < r) : IsP n := by
  refine ⟨hn, fun d hd => ?_⟩
  by_cases h1 : d = 1
  · exact .inl h1
  · by_cases h2 : d = n
    · exact .inr h2
    · exfalso
      obtain ⟨e, he⟩ := hd
      have hd0 : d ≠ 0 := fun z => by subst z; omega
      have he0 : e ≠ 0 := fun z => by subst z; omega
      have he1 : e ≠ 1 := fun z => by subst z; omega
      obtain ⟨r, hr, hrd⟩ := prime_dvd d (by omega)
      obtain ⟨s, hs, hse⟩ := prime_dvd e (by omega)
      have g1 := h r hr (Nat.dvd_trans hrd ⟨e, he⟩)
      have g2 := h s hs (Nat.dvd_trans hse ⟨d, by rw [he, Nat.mul_comm]⟩)
      have l1 := Nat.le_of_dvd (by omega) hrd
      have l2 := Nat.le_of_dvd (by omega) hse
      have := Nat.mul_le_mul (show F + 1 ≤ d by omega) (show F + 1 ≤ e by omega)
      omega

/-! ### reckoning -/
def pm (n a : Nat) : Nat → Nat → Nat
  | 0, _ => 1 % n
  | f + 1, e => if e = 0 then 1 % n else if e % 2 = 1 then pm n a f (e / 2) * pm n a f (e / 2) % n * a % n else pm n a f (e / 2) * pm n a f (e / 2) % n
theorem pm_eq (n a : Nat) : ∀ f e, e < 2 ^ f → pm n a f e = a ^ e % n
  | 0, e, h => by
    have : e = 0 := by simpa using h
    subst this; rfl
  | f + 1, e, h => by
    have ih := pm_eq n a f (e / 2) (by rw [Nat.pow_succ] at h; omega)
    simp only [pm]
    split
    · rename_i h0; subst h0; rfl
    · rw [ih, ← Nat.mul_mod, ← Nat.pow_add]
      split
      · rename_i h1
        rw [Nat.mod_mul_mod, ← Nat.pow_succ]; congr 2; omega
      · rename_i h1
        congr 2; omega
def ok (n q a : Nat) : Bool := (n - 1) % q == 0 && pm n a 256 (n - 1) == 1 && Nat.gcd (pm n a 256 ((n - 1) / q) + n - 1) n == 1
theorem ok_dvd {n q a r : Nat} (hr : IsP r) (hrn : r ∣ n) (hq : IsP q) (hn : 2 ≤ n) (hs : n < 2 ^ 256) (h : ok n q a = true) : q ∣ r - 1 := by
  unfold ok at h
  simp only [Bool.and_eq_true, beq_iff_eq] at h
  obtain ⟨⟨h0, h1⟩, h2⟩ := h
  have hlt : n - 1 < 2 ^ 256 := by omega
  rw [pm_eq _ _ _ _ hlt] at h1
  rw [pm_eq _ _ _ _ (Nat.lt_of_le_of_lt (Nat.div_le_self _ _) hlt)] at h2
  exact order_dvd hr hrn hq (Nat.dvd_of_mod_eq_zero h0) hn h1 h2
theorem poc1 {n q a : Nat} (hq : IsP q) (hn : 2 ≤ n) (hs : n < 2 ^ 256) (h : ok n q a = true) (hF : n < (q + 1) * (q + 1)) : IsP n :=
  prime_of hn hF fun r hr hrn => by
    have := Nat.le_of_dvd (by have := hr.1; omega) (ok_dvd hr hrn hq hn hs h)
    have := hr.1
    omega
theorem poc2 {n q q' a : Nat} (hq : IsP q) (hq' : IsP q') (hne : q ≠ q') (hn : 2 ≤ n) (hs : n < 2 ^ 256) (h : ok n q a = true) (h' : ok n q' a = true) (hF : n < (q * q' + 1) * (q * q' + 1)) : IsP n :=
  prime_of hn hF fun r hr hrn => by
    have hc : Nat.Coprime q q' := cop hq fun hd => by
      rcases hq'.2 q hd with e | e
      · have := hq.1; omega
      · exact hne e
    have := Nat.le_of_dvd (by have := hr.1; omega) (hc.mul_dvd_of_dvd_of_dvd (ok_dvd hr hrn hq hn hs h) (ok_dvd hr hrn hq' hn hs h'))
    have := hr.1
    omega
/-- small ones, by trial -/
def trial (n : Nat) : Nat → Bool
  | 0 => true
  | k + 1 => (k < 2 || n % k != 0) && trial n k
theorem trial_e {n : Nat} : ∀ {m : Nat}, trial n m = true → ∀ k, 2 ≤ k → k < m → ¬ k ∣ n
  | 0, _, k, _, h => by omega
  | m + 1, h, k, h2, hk => by
    simp only [trial, Bool.and_eq_true, Bool.or_eq_true, decide_eq_true_eq, bne_iff_ne] at h
    rcases Nat.lt_or_eq_of_le (Nat.le_of_lt_succ hk) with hlt | he
    · exact trial_e h.2 k h2 hlt
    · subst he
      intro hd
      rcases h.1 with h | h
      · omega
      · exact h (Nat.mod_eq_zero_of_dvd hd)
theorem small {n : Nat} (m : Nat) (hn : 2 ≤ n) (hm : n < (m + 1) * (m + 1)) (h : trial n (m + 1) = true) : IsP n :=
  prime_of hn hm fun r hr hrn => by
    by_cases hlt : r < m + 1
    · exact absurd hrn (trial_e h r hr.1 hlt)
    · omega
theorem p0_704251 : IsP 704251 := small 839 (by decide) (by decide) (by decide +kernel)
theorem p1_78283 : IsP 78283 := small 279 (by decide) (by decide) (by decide +kernel)
theorem p2_460769 : IsP 46076956964474543 := poc2 (a := 2) p0_704251 p1_78283 (by decide) (by decide) (by decide) (by decide +kernel) (by decide +kernel) (by decide)
theorem p3_3677 : IsP 3677 := small 60 (by decide) (by decide) (by decide +kernel)
theorem p4_197 : IsP 197 := small 14 (by decide) (by decide) (by decide +kernel)
theorem p5_664173 : IsP 66417393611 := poc2 (a := 2) p3_3677 p4_197 (by decide) (by decide) (by decide) (by decide +kernel) (by decide +kernel) (by decide)
theorem p6_112909 : IsP 11290956913871 := poc1 (a := 2) p5_664173 (by decide) (by decide) (by decide +kernel) (by decide)
theorem p7_774023 : IsP 774023187263532362759620327192479577272145303 := poc2 (a := 2) p2_460769 p6_112909 (by decide) (by decide) (by decide) (by decide +kernel) (by decide +kernel) (by decide)
theorem p8_835945 : IsP 835945042244614951780389953367877943453916927241 := poc1 (a := 2) p7_774023 (by decide) (by decide) (by decide +kernel) (by decide)
theorem p9_115792 : IsP 115792089210356248762697446949407573530086143415290314195533631308867097853951 := poc1 (a := 2) p8_835945 (by decide) (by decide) (by decide +kernel) (by decide)
theorem p10_155317 : IsP 155317 := small 394 (by decide) (by decide) (by decide +kernel)
theorem p11_191039 : IsP 191039911 := poc1 (a := 2) p10_155317 (by decide) (by decide) (by decide +kernel) (by decide)
theorem p12_3023 : IsP 3023 := small 54 (by decide) (by decide) (by decide +kernel)
theorem p13_208150 : IsP 208150935158385979 := poc2 (a := 2) p11_191039 p12_3023 (by decide) (by decide) (by decide) (by decide +kernel) (by decide +kernel) (by decide)
theorem p14_262474 : IsP 2624747550333869278416773953 := poc1 (a := 2) p13_208150 (by decide) (by decide) (by decide +kernel) (by decide)
theorem p15_104471 : IsP 104471 := small 323 (by decide) (by decide) (by decide +kernel)
theorem p16_396989 : IsP 3969899 := poc1 (a := 2) p15_104471 (by decide) (by decide) (by decide +kernel) (by decide)
theorem p17_100232 : IsP 1002328039319 := poc1 (a := 2) p16_396989 (by decide) (by decide) (by decide +kernel) (by decide)
theorem p18_115792 : IsP 115792089210356248762697446949407573529996955224135760342422259061068512044369 := poc2 (a := 2) p14_262474 p17_100232 (by decide) (by decide) (by decide) (by decide +kernel) (by decide +kernel) (by decide)
theorem p19_991 : IsP 991 := small 31 (by decide) (by decide) (by decide +kernel)
theorem p20_103 : IsP 103 := small 10 (by decide) (by decide) (by decide +kernel)
theorem p21_857413 : IsP 8574133 := poc2 (a := 2) p19_991 p20_103 (by decide) (by decide) (by decide) (by decide +kernel) (by decide +kernel) (by decide)
theorem p22_127 : IsP 127 := small 11 (by decide) (by decide) (by decide +kernel)
theorem p23_191951 : IsP 1919519569386763 := poc2 (a := 2) p21_857413 p22_127 (by decide) (by decide) (by decide) (by decide +kernel) (by decide +kernel) (by decide)
theorem p24_569003 : IsP 569003 := small 754 (by decide) (by decide) (by decide +kernel)
theorem p25_277332 : IsP 2773320623 := poc1 (a := 2) p24_569003 (by decide) (by decide) (by decide +kernel) (by decide)
theorem p26_721063 : IsP 72106336199 := poc1 (a := 2) p25_277332 (by decide) (by decide) (by decide +kernel) (by decide)
theorem p27_754457 : IsP 75445702479781427272750846543864801 := poc2 (a := 2) p23_191951 p26_721063 (by decide) (by decide) (by decide) (by decide +kernel) (by decide +kernel) (by decide)
theorem p28_430751 : IsP 430751 := small 656 (by decide) (by decide) (by decide +kernel)
theorem p29_4153 : IsP 4153 := small 64 (by decide) (by decide) (by decide +kernel)
theorem p30_317577 : IsP 31757755568855353 := poc2 (a := 2) p28_430751 p29_4153 (by decide) (by decide) (by decide) (by decide +kernel) (by decide +kernel) (by decide)
theorem p31_740582 : IsP 74058212732561358302231226437062788676166966415465897661863160754340907 := poc2 (a := 2) p27_754457 p30_317577 (by decide) (by decide) (by decide) (by decide +kernel) (by decide +kernel) (by decide)
theorem p32_578960 : IsP 57896044618658097711785492504343953926634992332820282019728792003956564819949 := poc1 (a := 2) p31_740582 (by decide) (by decide) (by decide +kernel) (by decide)
theorem isP_P : IsP 115792089210356248762697446949407573530086143415290314195533631308867097853951 := p9_115792
theorem isP_N : IsP 115792089210356248762697446949407573529996955224135760342422259061068512044369 := p18_115792
theorem isP_X : IsP 57896044618658097711785492504343953926634992332820282019728792003956564819949 := p32_578960
end Go.Sym.Pr
