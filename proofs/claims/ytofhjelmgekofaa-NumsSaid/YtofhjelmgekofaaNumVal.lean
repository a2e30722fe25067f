/-
  Numbers in limbs of 64 bits: their values. No program in sight; no condition beyond each lemma's own.
-/
import Derived.Test.YtofhjelmgekofaaNumPlain
set_option linter.unusedSimpArgs false
set_option linter.unusedVariables false
namespace Go.Sym.Num

/-- 2^256, 2^64 -/
abbrev B4 : Nat := 115792089237316195423570985008687907853269984665640564039457584007913129639936
abbrev B1 : Nat := 18446744073709551616
def val : List UInt64 → Nat
  | [] => 0
  | x :: xs => x.toNat + B1 * val xs
def lim (n : Nat) : List UInt64 := [UInt64.ofNat n, UInt64.ofNat (n / B1), UInt64.ofNat (n / (B1 * B1)), UInt64.ofNat (n / (B1 * B1 * B1))]

theorem len4 {x : List UInt64} (h : x.length = 4) : ∃ a b c d, x = [a, b, c, d] := by
  match x, h with
  | [a, b, c, d], _ => exact ⟨a, b, c, d, rfl⟩
theorem val4 (a b c d : UInt64) : val [a, b, c, d] = a.toNat + 18446744073709551616 * b.toNat + 340282366920938463463374607431768211456 * c.toNat + 6277101735386680763835789423207666416102355444464034512896 * d.toNat := by
  simp only [val, B1]; omega
theorem val_lt {x : List UInt64} (h : x.length = 4) : val x < B4 := by
  obtain ⟨a, b, c, d, rfl⟩ := len4 h
  have := lt64 a; have := lt64 b; have := lt64 c; have := lt64 d
  rw [val4]; unfold B4; omega
theorem ofNat_mod (n : Nat) : (UInt64.ofNat n).toNat = n % 18446744073709551616 := by rw [UInt64.toNat_ofNat']
theorem val_lim {n : Nat} (h : n < B4) : val (lim n) = n := by
  unfold lim
  rw [val4, ofNat_mod, ofNat_mod, ofNat_mod, ofNat_mod]
  unfold B1 B4 at *
  omega
theorem lim_len (n : Nat) : (lim n).length = 4 := rfl
theorem lim_of {x : List UInt64} (h : x.length = 4) {n : Nat} (hn : val x = n) : x = lim n := by
  subst hn
  obtain ⟨a, b, c, d, rfl⟩ := len4 h
  have ha := lt64 a; have hb := lt64 b; have hc := lt64 c; have hd := lt64 d
  unfold lim
  rw [val4]
  simp only [List.cons.injEq, and_true, ← UInt64.toNat_inj, ofNat_mod, B1]
  omega
theorem u64_one {x : UInt64} : x = 1 ↔ x.toNat = 1 := by rw [← UInt64.toNat_inj]; rfl
theorem u64_zero {x : UInt64} : x = 0 ↔ x.toNat = 0 := by rw [← UInt64.toNat_inj]; rfl

theorem addSt_val {x y : List UInt64} (hx : x.length = 4) (hy : y.length = 4) : val (addSt x y 4).1 + B4 * (addSt x y 4).2.toNat = val x + val y := by
  obtain ⟨a, b, c, d, rfl⟩ := len4 hx
  obtain ⟨a', b', c', d', rfl⟩ := len4 hy
  have h0 := addE (x := a) (y := a') (c := 0) (by decide)
  have k0 := addC_le (x := a) (y := a') (c := 0) (by decide)
  have h1 := addE (x := b) (y := b') k0
  have k1 := addC_le (x := b) (y := b') k0
  have h2 := addE (x := c) (y := c') k1
  have k2 := addC_le (x := c) (y := c') k1
  have h3 := addE (x := d) (y := d') k2
  simp only [addSt, List.set, List.getD_cons_zero, List.getD_cons_succ]
  rw [val4, val4, val4]
  have z : (0 : UInt64).toNat = 0 := rfl
  rw [z] at h0
  unfold B4
  omega
theorem subSt_val {x y : List UInt64} (hx : x.length = 4) (hy : y.length = 4) : val (subSt x y 4).1 + val y = val x + B4 * (subSt x y 4).2.toNat := by
  obtain ⟨a, b, c, d, rfl⟩ := len4 hx
  obtain ⟨a', b', c', d', rfl⟩ := len4 hy
  have h0 := subE (x := a) (y := a') (b := 0) (by decide)
  have k0 := subB_le (x := a) (y := a') (c := 0)
  have h1 := subE (x := b) (y := b') k0
  have k1 := subB_le (x := b) (y := b') (c := subB a a' 0)
  have h2 := subE (x := c) (y := c') k1
  have k2 := subB_le (x := c) (y := c') (c := subB b b' (subB a a' 0))
  have h3 := subE (x := d) (y := d') k2
  simp only [subSt, List.set, List.getD_cons_zero, List.getD_cons_succ]
  rw [val4, val4, val4]
  have z : (0 : UInt64).toNat = 0 := rfl
  rw [z] at h0
  unfold B4
  omega

/-- a sum below a modulus -/
theorem fadd_w {x y M : List UInt64} (hx : x.length = 4) (hy : y.length = 4) (hM : M.length = 4) (h1 : val x < val M) (h2 : val y < val M)
    (h : (addSt x y 4).2 = 1 ∨ (subSt (addSt x y 4).1 M 4).2 = 0) : (subSt (addSt x y 4).1 M 4).1 = lim ((val x + val y) % val M) := by
  refine lim_of (subSt_len _ _ 4) ?_
  have e1 := addSt_val hx hy
  have e2 := subSt_val (addSt_len x y 4) hM
  have l1 := val_lt (subSt_len (addSt x y 4).1 M 4)
  have l2 := val_lt (addSt_len x y 4)
  have l3 := val_lt hM
  have c1 := addSt_c x y 4
  have c2 := subSt_c (addSt x y 4).1 M 4
  rw [u64_one, u64_zero] at h
  have hge : val M ≤ val x + val y := by unfold B4 at *; omega
  rw [Nat.mod_eq_sub_mod hge, Nat.mod_eq_of_lt (by omega)]
  unfold B4 at *; omega
theorem fadd_z {x y M : List UInt64} (hx : x.length = 4) (hy : y.length = 4) (hM : M.length = 4) (h1 : val x < val M)
    (h : ¬ (addSt x y 4).2 = 1) (h' : ¬ (subSt (addSt x y 4).1 M 4).2 = 0) : (addSt x y 4).1 = lim ((val x + val y) % val M) := by
  refine lim_of (addSt_len _ _ 4) ?_
  have e1 := addSt_val hx hy
  have e2 := subSt_val (addSt_len x y 4) hM
  have l1 := val_lt (subSt_len (addSt x y 4).1 M 4)
  have l2 := val_lt (addSt_len x y 4)
  have l3 := val_lt hM
  have c1 := addSt_c x y 4
  have c2 := subSt_c (addSt x y 4).1 M 4
  rw [u64_one] at h
  rw [u64_zero] at h'
  have hlt : val x + val y < val M := by unfold B4 at *; omega
  rw [Nat.mod_eq_of_lt hlt]
  unfold B4 at *; omega
/-- a difference -/
theorem fsub_w {x y M : List UInt64} (hx : x.length = 4) (hy : y.length = 4) (hM : M.length = 4) (h2 : val y < val M)
    (h : (subSt x y 4).2 = 1) : (addSt (subSt x y 4).1 M 4).1 = lim ((val x + (val M - val y)) % val M) := by
  refine lim_of (addSt_len _ _ 4) ?_
  have e1 := subSt_val hx hy
  have e2 := addSt_val (subSt_len x y 4) hM
  have l1 := val_lt (addSt_len (subSt x y 4).1 M 4)
  have l2 := val_lt (subSt_len x y 4)
  have l3 := val_lt hM
  have c1 := subSt_c x y 4
  have c2 := addSt_c (subSt x y 4).1 M 4
  rw [u64_one] at h
  have hlt : val x + (val M - val y) < val M := by unfold B4 at *; omega
  rw [Nat.mod_eq_of_lt hlt]
  unfold B4 at *; omega
theorem fsub_z {x y M : List UInt64} (hx : x.length = 4) (hy : y.length = 4) (hM : M.length = 4) (h1 : val x < val M) (h2 : val y < val M)
    (h : ¬ (subSt x y 4).2 = 1) : (subSt x y 4).1 = lim ((val x + (val M - val y)) % val M) := by
  refine lim_of (subSt_len _ _ 4) ?_
  have e1 := subSt_val hx hy
  have l2 := val_lt (subSt_len x y 4)
  have l3 := val_lt hM
  have c1 := subSt_c x y 4
  rw [u64_one] at h
  have hge : val M ≤ val x + (val M - val y) := by unfold B4 at *; omega
  rw [Nat.mod_eq_sub_mod hge, Nat.mod_eq_of_lt (by omega)]
  unfold B4 at *; omega
/-- less -/
theorem less_val {x y : List UInt64} (hx : x.length = 4) (hy : y.length = 4) : (subSt x y 4).2 = 1 ↔ val x < val y := by
  have e1 := subSt_val hx hy
  have l2 := val_lt (subSt_len x y 4)
  have l3 := val_lt hx
  have l4 := val_lt hy
  have c1 := subSt_c x y 4
  rw [u64_one]
  unfold B4 at *; omega
/-- a number less than twice a modulus -/
theorem rest_w {x M : List UInt64} (hx : x.length = 4) (hM : M.length = 4) (h2 : val x < 2 * val M) (h : (subSt x M 4).2 = 0) : (subSt x M 4).1 = lim (val x % val M) := by
  refine lim_of (subSt_len _ _ 4) ?_
  have e1 := subSt_val hx hM
  have l2 := val_lt (subSt_len x M 4)
  rw [u64_zero] at h
  have hge : val M ≤ val x := by unfold B4 at *; omega
  rw [Nat.mod_eq_sub_mod hge, Nat.mod_eq_of_lt (by omega)]
  unfold B4 at *; omega
theorem rest_z {x M : List UInt64} (hx : x.length = 4) (hM : M.length = 4) (h : ¬ (subSt x M 4).2 = 0) : x = lim (val x % val M) := by
  refine lim_of hx ?_
  have e1 := subSt_val hx hM
  have l2 := val_lt (subSt_len x M 4)
  have c1 := subSt_c x M 4
  rw [u64_zero] at h
  rw [Nat.mod_eq_of_lt]
  unfold B4 at *; omega
end Go.Sym.Num
