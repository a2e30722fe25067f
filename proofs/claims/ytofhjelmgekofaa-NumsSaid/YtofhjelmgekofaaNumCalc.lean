/-
  Numbers modulo three primes: sums, products, powers: plain laws. No program in sight; no condition beyond each lemma's own.
-/
import Derived.Test.YtofhjelmgekofaaNumMont
import Derived.Test.YtofhjelmgekofaaNumBytes
set_option linter.unusedSimpArgs false
set_option linter.unusedVariables false
namespace Go.Sym.Num

def mP : Nat := 115792089210356248762697446949407573530086143415290314195533631308867097853951
def mN : Nat := 115792089210356248762697446949407573529996955224135760342422259061068512044369
def mX : Nat := 57896044618658097711785492504343953926634992332820282019728792003956564819949
def riP : Nat := 0xfffffffe00000003fffffffd0000000200000001fffffffe0000000300000000
def riN : Nat := 0x60d066334905c1e907f8b6041e607725badef3e243566fafce1bc8f79c197c79
def riX : Nat := 0x179435e50d79435e50d79435e50d79435e50d79435e50d79435e50d79435e50a
def md (w : Int) : Nat := if w = 0 then mP else if w = 1 then mN else mX
def riOf (m : Nat) : Nat := if m = mP then riP else if m = mN then riN else riX
def mlim (w : Int) : List UInt64 := if w = 0 then [0xffffffffffffffff, 0x00000000ffffffff, 0, 0xffffffff00000001] else if w = 1 then [0xf3b9cac2fc632551, 0xbce6faada7179e84, 0xffffffffffffffff, 0xffffffff00000000] else [0xffffffffffffffed, 0xffffffffffffffff, 0xffffffffffffffff, 0x7fffffffffffffff]
/-- the program's Newton steps -/
def invSt (m : UInt64) : Nat → UInt64
  | 0 => 1
  | i + 1 => invSt m i * (2 - m * invSt m i)
def mk (w : Int) : UInt64 := 0 - invSt ((mlim w).getD 0 0) 6

/-- a modulus, made ready -/
def fldOK (M : List UInt64) (k : UInt64) (ri : Nat) : Prop := M.length = 4 ∧ (k.toNat * (M.getD 0 0).toNat) % 18446744073709551616 = 18446744073709551615 ∧ (B4 * ri) % val M = 1 % val M
theorem w3 {w : Int} (h : 0 ≤ w ∧ w ≤ 2) : w = 0 ∨ w = 1 ∨ w = 2 := by omega
theorem mlim_val {w : Int} (h : 0 ≤ w ∧ w ≤ 2) : val (mlim w) = md w := by
  rcases w3 h with rfl | rfl | rfl <;> decide +kernel
theorem mlim_len (w : Int) : (mlim w).length = 4 := by unfold mlim; split; rfl; split <;> rfl
theorem md_ri {w : Int} (h : 0 ≤ w ∧ w ≤ 2) : (B4 * riOf (md w)) % md w = 1 := by
  rcases w3 h with rfl | rfl | rfl <;> decide +kernel
theorem md_gt {w : Int} (h : 0 ≤ w ∧ w ≤ 2) : 2 < md w := by
  rcases w3 h with rfl | rfl | rfl <;> decide +kernel
theorem md_lt {w : Int} (h : 0 ≤ w ∧ w ≤ 2) : md w < B4 := by
  rcases w3 h with rfl | rfl | rfl <;> decide +kernel
theorem fldOK_w {w : Int} (h : 0 ≤ w ∧ w ≤ 2) : fldOK (mlim w) (mk w) (riOf (md w)) := by
  refine ⟨mlim_len w, ?_, ?_⟩
  · rcases w3 h with rfl | rfl | rfl <;> decide +kernel
  · rw [mlim_val h, md_ri h, Nat.mod_eq_of_lt (by have := md_gt h; omega)]

def mo (m a b : Nat) : Nat := mont m (riOf m) a b
def toM (m a : Nat) : Nat := a * B4 % m
section
variable {m : Nat}
theorem mo_lt (h : 0 < m) (a b : Nat) : mo m a b < m := Nat.mod_lt _ h
theorem toM_lt (h : 0 < m) (a : Nat) : toM m a < m := Nat.mod_lt _ h
theorem cancel (hri : (B4 * riOf m) % m = 1) (c : Nat) : c * B4 * riOf m % m = c % m := by
  rw [Nat.mul_assoc, Nat.mul_mod, hri, Nat.mul_one, Nat.mod_mod]
theorem mo_in (hri : (B4 * riOf m) % m = 1) (a : Nat) : mo m a (B4 * B4 % m) = toM m a := by
  unfold mo mont toM
  rw [Nat.mul_mod (a * (B4 * B4 % m)), Nat.mul_mod a (B4 * B4 % m), Nat.mod_mod, ← Nat.mul_mod a, ← Nat.mul_mod, show a * (B4 * B4) * riOf m = (a * B4) * B4 * riOf m by simp only [Nat.mul_assoc]]
  exact cancel hri _
theorem mo_l (hri : (B4 * riOf m) % m = 1) (a b : Nat) : mo m (toM m a) b = a * b % m := by
  unfold mo mont toM
  rw [Nat.mul_assoc, Nat.mod_mul_mod, show a * B4 * (b * riOf m) = (a * b) * B4 * riOf m by rw [Nat.mul_assoc, Nat.mul_assoc, Nat.mul_left_comm B4 b, Nat.mul_assoc]]
  exact cancel hri _
theorem mo_m (hri : (B4 * riOf m) % m = 1) (a b : Nat) : mo m (toM m a) (toM m b) = toM m (a * b) := by
  rw [mo_l hri, toM, toM, Nat.mul_mod, Nat.mod_mod, ← Nat.mul_mod, Nat.mul_assoc]
theorem toM_mod (a : Nat) : toM m (a % m) = toM m a := by unfold toM; rw [Nat.mod_mul_mod]

/-- the program's power, step by step -/
def invL (m x e : Nat) : Nat → Nat
  | 0 => B4 % m
  | j + 1 => if decide (e / 2 ^ (255 - j) % 2 = 1) = true then mo m (mo m (invL m x e j) (invL m x e j)) x else mo m (invL m x e j) (invL m x e j)
theorem invL_lt (h : 0 < m) (x e : Nat) : ∀ j, invL m x e j < m
  | 0 => Nat.mod_lt _ h
  | j + 1 => by simp only [invL]; split <;> exact mo_lt h _ _
theorem invL_pow (hri : (B4 * riOf m) % m = 1) (a : Nat) {e : Nat} (he : e < B4) : ∀ j, j ≤ 256 → invL m (toM m a) e j = toM m (a ^ (e / 2 ^ (256 - j)))
  | 0, _ => by
    have : e / 2 ^ (256 - 0) = 0 := Nat.div_eq_of_lt (by exact he)
    rw [this, Nat.pow_zero]
    show B4 % m = 1 * B4 % m
    rw [Nat.one_mul]
  | j + 1, hj => by
    have ih := invL_pow hri a he j (by omega)
    have hd : e / 2 ^ (256 - j) = e / 2 ^ (255 - j) / 2 := by
      rw [Nat.div_div_eq_div_mul, ← Nat.pow_succ]; congr 2; omega
    have e1 : 256 - (j + 1) = 255 - j := by omega
    simp only [invL]
    rw [ih, mo_m hri, e1, ← Nat.pow_add, hd]
    generalize e / 2 ^ (255 - j) = f
    split
    · rename_i h
      have h : f % 2 = 1 := by simpa using h
      rw [mo_m hri, ← Nat.pow_succ]
      congr 2; omega
    · rename_i h
      have h : ¬ f % 2 = 1 := by simpa using h
      congr 2; omega
end

/-- a bit of a number's limbs -/
theorem bit_at {e i : Nat} (hi : i < 256) : (((lim e).getD (i / 64) 0 >>> UInt64.ofNat (i % 64)) &&& UInt64.ofNat 1 = UInt64.ofNat 1) ↔ e / 2 ^ i % 2 = 1 := by
  have hq : i / 64 = 0 ∨ i / 64 = 1 ∨ i / 64 = 2 ∨ i / 64 = 3 := by omega
  have key : ∀ (a r : Nat), r < 64 → ((UInt64.ofNat a >>> UInt64.ofNat r) &&& UInt64.ofNat 1 = UInt64.ofNat 1 ↔ a / 2 ^ r % 2 = 1) := by
    intro a r hr
    rw [← UInt64.toNat_inj, UInt64.toNat_and, UInt64.toNat_shiftRight, ofNat_lt (n := r) (by omega), ofNat_lt (n := 1) (by decide), ofNat_mod, Nat.mod_eq_of_lt hr, Nat.shiftRight_eq_div_pow, Nat.and_one_is_mod]
    have e64 : (18446744073709551616 : Nat) = 2 ^ r * (2 * 2 ^ (63 - r)) := by
      have : (18446744073709551616 : Nat) = 2 ^ 64 := by decide
      rw [this, ← Nat.pow_succ', ← Nat.pow_add]; congr 1; omega
    rw [e64, Nat.mod_mul_right_div_self, Nat.mod_mul_right_mod]
  have hr : i % 64 < 64 := Nat.mod_lt _ (by decide)
  have hi2 : i = 64 * (i / 64) + i % 64 := by omega
  have hp : e / 2 ^ i = e / 2 ^ (64 * (i / 64)) / 2 ^ (i % 64) := by rw [Nat.div_div_eq_div_mul, ← Nat.pow_add, ← hi2]
  rw [hp]
  unfold lim B1
  rcases hq with h | h | h | h <;> rw [h]
  · rw [List.getD_cons_zero, key _ _ hr]; simp
  · rw [List.getD_cons_succ, List.getD_cons_zero, key _ _ hr]
  · rw [List.getD_cons_succ, List.getD_cons_succ, List.getD_cons_zero, key _ _ hr]
  · rw [List.getD_cons_succ, List.getD_cons_succ, List.getD_cons_succ, List.getD_cons_zero, key _ _ hr]

/-- doubled so many times -/
def dbl (m : Nat) : Nat → Nat
  | 0 => 1
  | i + 1 => (dbl m i + dbl m i) % m
theorem dbl_eq {m : Nat} (h : 1 < m) : ∀ i, dbl m i = 2 ^ i % m
  | 0 => by rw [dbl, Nat.pow_zero, Nat.mod_eq_of_lt h]
  | i + 1 => by rw [dbl, dbl_eq h i, ← Nat.add_mod, Nat.pow_succ]; congr 1; omega
theorem dbl_lt {m : Nat} (h : 1 < m) (i : Nat) : dbl m i < m := by rw [dbl_eq h]; exact Nat.mod_lt _ (by omega)

theorem dbl_double {m : Nat} (h : 1 < m) (i : Nat) : dbl m (i + i) = dbl m i * dbl m i % m := by
  rw [dbl_eq h, dbl_eq h, Nat.pow_add, ← Nat.mul_mod]
theorem dbl_zero (m : Nat) : dbl m 0 = 1 := rfl
theorem dbl_succ (m i : Nat) : dbl m (i + 1) = (dbl m i + dbl m i) % m := rfl
theorem invL_zero (m x e : Nat) : invL m x e 0 = B4 % m := rfl
theorem invL_t {m x e j : Nat} (h : e / 2 ^ (255 - j) % 2 = 1) : invL m x e (j + 1) = mo m (mo m (invL m x e j) (invL m x e j)) x := by simp only [invL]; rw [if_pos (decide_eq_true h)]
theorem invL_f {m x e j : Nat} (h : ¬ e / 2 ^ (255 - j) % 2 = 1) : invL m x e (j + 1) = mo m (invL m x e j) (invL m x e j) := by simp only [invL]; rw [if_neg (by simpa using h)]

/-- the four operations, by the number that the program has for each -/
def opN (g : Nat) (m a b : Nat) : Nat := if g = 0 then (a + b) % m else if g = 1 then (a + (m - b)) % m else if g = 2 then a * b % m else a ^ (m - 2) % m
theorem opN_lt {g m a b : Nat} (h : 0 < m) : opN g m a b < m := by
  unfold opN; split; exact Nat.mod_lt _ h; split; exact Nat.mod_lt _ h; split <;> exact Nat.mod_lt _ h
end Go.Sym.Num
