/-
  Numbers in limbs of 64 bits: plain laws. No program in sight; no condition beyond each lemma's own.
-/
import GoSem.Core.Value
set_option linter.unusedSimpArgs false
set_option linter.unusedVariables false
namespace Go.Sym.Num

def addL (x y c : UInt64) : UInt64 := UInt64.ofNat (x.toNat + y.toNat + c.toNat)
def addC (x y c : UInt64) : UInt64 := UInt64.ofNat ((x.toNat + y.toNat + c.toNat) / 18446744073709551616)
def subL (x y b : UInt64) : UInt64 := UInt64.ofNat (x.toNat + 18446744073709551616 - y.toNat - b.toNat)
def subB (x y b : UInt64) : UInt64 := if x.toNat < y.toNat + b.toNat then 1 else 0
def mulH (x y : UInt64) : UInt64 := UInt64.ofNat (x.toNat * y.toNat / 18446744073709551616)
def mulL (x y : UInt64) : UInt64 := UInt64.ofNat (x.toNat * y.toNat)

theorem lt64 (x : UInt64) : x.toNat < 18446744073709551616 := x.toNat_lt
theorem ofNat_lt {n : Nat} (h : n < 18446744073709551616) : (UInt64.ofNat n).toNat = n := by
  rw [UInt64.toNat_ofNat']; exact Nat.mod_eq_of_lt h
theorem addL_nat (x y c : UInt64) : ((addL x y c).toNat : Int) = ((x.toNat : Int) + y.toNat + c.toNat) % 18446744073709551616 := by
  unfold addL; rw [UInt64.toNat_ofNat']; simp
theorem addC_nat {x y c : UInt64} (h : c.toNat ≤ 1) : ((addC x y c).toNat : Int) = ((x.toNat : Int) + y.toNat + c.toNat) / 18446744073709551616 := by
  have hx := lt64 x
  have hy := lt64 y
  unfold addC; rw [ofNat_lt (by omega)]; omega
theorem addC_le {x y c : UInt64} (h : c.toNat ≤ 1) : (addC x y c).toNat ≤ 1 := by
  have hx := lt64 x
  have hy := lt64 y
  unfold addC; rw [ofNat_lt (by omega)]; omega
theorem addE {x y c : UInt64} (h : c.toNat ≤ 1) : (addL x y c).toNat + 18446744073709551616 * (addC x y c).toNat = x.toNat + y.toNat + c.toNat := by
  have hx := lt64 x
  have hy := lt64 y
  unfold addC addL; rw [ofNat_lt (n := _ / _) (by omega), UInt64.toNat_ofNat']
  have : (2 ^ 64 : Nat) = 18446744073709551616 := by decide
  rw [this]; omega
theorem subL_nat {x y b : UInt64} (_h : b.toNat ≤ 1) : ((subL x y b).toNat : Int) = (((x.toNat + 18446744073709551616 - y.toNat - b.toNat) % 18446744073709551616 : Nat) : Int) := by
  unfold subL; rw [UInt64.toNat_ofNat']
theorem subB_nat {x y b : UInt64} : ((subB x y b).toNat : Int) = ((if x.toNat < y.toNat + b.toNat then 1 else 0 : Nat) : Int) := by
  unfold subB; split <;> rfl
theorem subB_le {x y c : UInt64} : (subB x y c).toNat ≤ 1 := by
  unfold subB; split <;> decide
theorem subE {x y b : UInt64} (h : b.toNat ≤ 1) : (subL x y b).toNat + y.toNat + b.toNat = x.toNat + 18446744073709551616 * (subB x y b).toNat := by
  have hx := lt64 x
  have hy := lt64 y
  unfold subB subL; rw [UInt64.toNat_ofNat']
  have : (2 ^ 64 : Nat) = 18446744073709551616 := by decide
  rw [this]
  split <;> simp <;> omega
theorem mulE (x y : UInt64) : (mulL x y).toNat + 18446744073709551616 * (mulH x y).toNat = x.toNat * y.toNat := by
  have hx := lt64 x
  have hy := lt64 y
  have hp : x.toNat * y.toNat ≤ 18446744073709551615 * 18446744073709551615 := Nat.mul_le_mul (by omega) (by omega)
  unfold mulL mulH
  rw [ofNat_lt (n := _ / _) (by omega), UInt64.toNat_ofNat']
  have : (2 ^ 64 : Nat) = 18446744073709551616 := by decide
  rw [this]; omega

theorem mulL_eq (x y : UInt64) : x * y = mulL x y := by
  apply UInt64.toNat_inj.1
  unfold mulL
  rw [UInt64.toNat_ofNat', UInt64.toNat_mul]
theorem low32 (x : UInt64) : (x &&& UInt64.ofNat 4294967295).toNat = x.toNat % 4294967296 := by
  rw [UInt64.toNat_and, ofNat_lt (by decide)]
  exact Nat.and_two_pow_sub_one_eq_mod x.toNat 32
theorem high32 (x : UInt64) : (x >>> UInt64.ofNat (UInt64.ofNat 32).toNat).toNat = x.toNat / 4294967296 := by
  rw [UInt64.toNat_shiftRight, ofNat_lt (by rw [ofNat_lt (by decide)]; decide), ofNat_lt (by decide)]
  exact Nat.shiftRight_eq_div_pow x.toNat 32
theorem add_toNat {x y : UInt64} (h : x.toNat + y.toNat < 18446744073709551616) : (x + y).toNat = x.toNat + y.toNat := by
  rw [UInt64.toNat_add]; exact Nat.mod_eq_of_lt h
theorem mul_toNat {x y : UInt64} (h : x.toNat * y.toNat < 18446744073709551616) : (x * y).toNat = x.toNat * y.toNat := by
  rw [UInt64.toNat_mul]; exact Nat.mod_eq_of_lt h
theorem mulH_eq (x y : UInt64) :
    (x >>> UInt64.ofNat (UInt64.ofNat 32).toNat * y >>> UInt64.ofNat (UInt64.ofNat 32).toNat +
          (x >>> UInt64.ofNat (UInt64.ofNat 32).toNat * (y &&& UInt64.ofNat 4294967295) +
              ((x &&& UInt64.ofNat 4294967295) * (y &&& UInt64.ofNat 4294967295)) >>>
                UInt64.ofNat (UInt64.ofNat 32).toNat) >>>
            UInt64.ofNat (UInt64.ofNat 32).toNat +
        ((x >>> UInt64.ofNat (UInt64.ofNat 32).toNat * (y &&& UInt64.ofNat 4294967295) +
                ((x &&& UInt64.ofNat 4294967295) * (y &&& UInt64.ofNat 4294967295)) >>>
                  UInt64.ofNat (UInt64.ofNat 32).toNat &&&
              UInt64.ofNat 4294967295) +
            (x &&& UInt64.ofNat 4294967295) * y >>> UInt64.ofNat (UInt64.ofNat 32).toNat) >>>
          UInt64.ofNat (UInt64.ofNat 32).toNat) = mulH x y := by
  have hx := lt64 x
  have hy := lt64 y
  have a0 := low32 x
  have a1 := high32 x
  have b0 := low32 y
  have b1 := high32 y
  generalize x &&& UInt64.ofNat 4294967295 = x0 at *
  generalize x >>> UInt64.ofNat (UInt64.ofNat 32).toNat = x1 at *
  generalize y &&& UInt64.ofNat 4294967295 = y0 at *
  generalize y >>> UInt64.ofNat (UInt64.ofNat 32).toNat = y1 at *
  have l1 : x1.toNat ≤ 4294967295 := by omega
  have l0 : x0.toNat ≤ 4294967295 := by omega
  have m1 : y1.toNat ≤ 4294967295 := by omega
  have m0 : y0.toNat ≤ 4294967295 := by omega
  have p00 := Nat.mul_le_mul l0 m0
  have p01 := Nat.mul_le_mul l0 m1
  have p10 := Nat.mul_le_mul l1 m0
  have p11 := Nat.mul_le_mul l1 m1
  have e00 := mul_toNat (x := x0) (y := y0) (by omega)
  have e01 := mul_toNat (x := x0) (y := y1) (by omega)
  have e10 := mul_toNat (x := x1) (y := y0) (by omega)
  have e11 := mul_toNat (x := x1) (y := y1) (by omega)
  have hprod : x.toNat * y.toNat = x0.toNat * y0.toNat + 4294967296 * (x0.toNat * y1.toNat + x1.toNat * y0.toNat) + 18446744073709551616 * (x1.toNat * y1.toNat) := by
    have hx' : x.toNat = x0.toNat + 4294967296 * x1.toNat := by omega
    have hy' : y.toNat = y0.toNat + 4294967296 * y1.toNat := by omega
    rw [hx', hy', Nat.add_mul, Nat.mul_add, Nat.mul_add]
    have c1 : x0.toNat * (4294967296 * y1.toNat) = 4294967296 * (x0.toNat * y1.toNat) := by rw [Nat.mul_left_comm]
    have c2 : 4294967296 * x1.toNat * y0.toNat = 4294967296 * (x1.toNat * y0.toNat) := by rw [Nat.mul_assoc]
    have c3 : 4294967296 * x1.toNat * (4294967296 * y1.toNat) = 18446744073709551616 * (x1.toNat * y1.toNat) := by
      rw [Nat.mul_assoc, Nat.mul_left_comm x1.toNat, ← Nat.mul_assoc]
    rw [c1, c2, c3]; omega
  generalize x0.toNat * y0.toNat = q00 at *
  generalize x0.toNat * y1.toNat = q01 at *
  generalize x1.toNat * y0.toNat = q10 at *
  generalize x1.toNat * y1.toNat = q11 at *
  generalize x0 * y0 = w0 at *
  generalize x0 * y1 = w01 at *
  generalize x1 * y0 = w10 at *
  generalize x1 * y1 = w11 at *
  have f1 := high32 w0
  generalize w0 >>> UInt64.ofNat (UInt64.ofNat 32).toNat = v0 at *
  have f2 := add_toNat (x := w10) (y := v0) (by omega)
  generalize w10 + v0 = t at *
  have f3 := high32 t
  have f4 := low32 t
  generalize t >>> UInt64.ofNat (UInt64.ofNat 32).toNat = th at *
  generalize t &&& UInt64.ofNat 4294967295 = tl at *
  have f5 := add_toNat (x := tl) (y := w01) (by omega)
  generalize tl + w01 = u at *
  have f6 := high32 u
  generalize u >>> UInt64.ofNat (UInt64.ofNat 32).toNat = uh at *
  have f7 := add_toNat (x := w11) (y := th) (by omega)
  generalize w11 + th = z at *
  have f8 := add_toNat (x := z) (y := uh) (by omega)
  apply UInt64.toNat_inj.1
  unfold mulH
  rw [f8, ofNat_lt (by omega)]
  omega

/-! ### sums and differences, limb by limb -/
def addSt (x y : List UInt64) : Nat → List UInt64 × UInt64
  | 0 => ([0, 0, 0, 0], 0)
  | i + 1 => ((addSt x y i).1.set i (addL (x.getD i 0) (y.getD i 0) (addSt x y i).2), addC (x.getD i 0) (y.getD i 0) (addSt x y i).2)
def subSt (x y : List UInt64) : Nat → List UInt64 × UInt64
  | 0 => ([0, 0, 0, 0], 0)
  | i + 1 => ((subSt x y i).1.set i (subL (x.getD i 0) (y.getD i 0) (subSt x y i).2), subB (x.getD i 0) (y.getD i 0) (subSt x y i).2)
theorem addSt_c (x y : List UInt64) : ∀ i, (addSt x y i).2.toNat ≤ 1
  | 0 => Nat.zero_le _
  | i + 1 => addC_le (addSt_c x y i)
theorem addSt_len (x y : List UInt64) : ∀ i, (addSt x y i).1.length = 4
  | 0 => rfl
  | i + 1 => by simp only [addSt, List.length_set]; exact addSt_len x y i
theorem subSt_c (x y : List UInt64) : ∀ i, (subSt x y i).2.toNat ≤ 1
  | 0 => Nat.zero_le _
  | i + 1 => subB_le
theorem subSt_len (x y : List UInt64) : ∀ i, (subSt x y i).1.length = 4
  | 0 => rfl
  | i + 1 => by simp only [subSt, List.length_set]; exact subSt_len x y i

end Go.Sym.Num
