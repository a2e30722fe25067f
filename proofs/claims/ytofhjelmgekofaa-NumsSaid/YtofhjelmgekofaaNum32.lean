/-
  Numbers in limbs of 32 bits: plain laws. No program in sight; no condition beyond each lemma's own.
-/
import Derived.Test.YtofhjelmgekofaaNumCalc
set_option linter.unusedSimpArgs false
set_option linter.unusedVariables false
namespace Go.Sym.Num32
open Go.Sym.Num (beV beB beV_app len32 B4 md mP mN mX w3)

theorem lt32 (x : UInt32) : x.toNat < 4294967296 := x.toNat_lt
theorem ofNat_lt {n : Nat} (h : n < 4294967296) : (UInt32.ofNat n).toNat = n := by
  rw [UInt32.toNat_ofNat']; exact Nat.mod_eq_of_lt h
theorem ofNat_mod (n : Nat) : (UInt32.ofNat n).toNat = n % 4294967296 := by rw [UInt32.toNat_ofNat']
def val : List UInt32 → Nat
  | [] => 0
  | x :: xs => x.toNat + 4294967296 * val xs
def lim (n : Nat) : List UInt32 := [UInt32.ofNat n, UInt32.ofNat (n / 4294967296), UInt32.ofNat (n / 18446744073709551616), UInt32.ofNat (n / 79228162514264337593543950336), UInt32.ofNat (n / 340282366920938463463374607431768211456), UInt32.ofNat (n / 1461501637330902918203684832716283019655932542976), UInt32.ofNat (n / 6277101735386680763835789423207666416102355444464034512896), UInt32.ofNat (n / 26959946667150639794667015087019630673637144422540572481103610249216)]
theorem len8 {x : List UInt32} (h : x.length = 8) : ∃ a0 a1 a2 a3 a4 a5 a6 a7, x = [a0, a1, a2, a3, a4, a5, a6, a7] := by
  match x, h with
  | [a0, a1, a2, a3, a4, a5, a6, a7], _ => exact ⟨a0, a1, a2, a3, a4, a5, a6, a7, rfl⟩
theorem val8 (a0 a1 a2 a3 a4 a5 a6 a7 : UInt32) : val [a0, a1, a2, a3, a4, a5, a6, a7] = a0.toNat + 4294967296 * a1.toNat + 18446744073709551616 * a2.toNat + 79228162514264337593543950336 * a3.toNat + 340282366920938463463374607431768211456 * a4.toNat + 1461501637330902918203684832716283019655932542976 * a5.toNat + 6277101735386680763835789423207666416102355444464034512896 * a6.toNat + 26959946667150639794667015087019630673637144422540572481103610249216 * a7.toNat := by
  simp only [val]; omega
theorem val_lt {x : List UInt32} (h : x.length = 8) : val x < B4 := by
  obtain ⟨a0, a1, a2, a3, a4, a5, a6, a7, rfl⟩ := len8 h
  have := lt32 a0; have := lt32 a1; have := lt32 a2; have := lt32 a3; have := lt32 a4; have := lt32 a5; have := lt32 a6; have := lt32 a7
  rw [val8]; unfold B4; omega
theorem val_lim {n : Nat} (h : n < B4) : val (lim n) = n := by
  unfold lim
  rw [val8]
  simp only [ofNat_mod]
  unfold B4 at *
  omega
theorem lim_len (n : Nat) : (lim n).length = 8 := rfl
theorem lim_of {x : List UInt32} (h : x.length = 8) {n : Nat} (hn : val x = n) : x = lim n := by
  subst hn
  obtain ⟨a0, a1, a2, a3, a4, a5, a6, a7, rfl⟩ := len8 h
  have ha0 := lt32 a0; have ha1 := lt32 a1; have ha2 := lt32 a2; have ha3 := lt32 a3; have ha4 := lt32 a4; have ha5 := lt32 a5; have ha6 := lt32 a6; have ha7 := lt32 a7
  unfold lim
  rw [val8]
  simp only [List.cons.injEq, and_true, ← UInt32.toNat_inj, ofNat_mod]
  omega

/-! ### words out of bytes -/
def kx (i : Nat) : Nat := ((7 : Int) - (i : Int).tdiv 4).toNat
def or8 (x : UInt32) (b : UInt8) : UInt32 := x <<< UInt32.ofNat (UInt64.ofNat 8).toNat ||| b.toUInt32
def getSt (s : List UInt8) : Nat → List UInt32
  | 0 => [0, 0, 0, 0, 0, 0, 0, 0]
  | i + 1 => (getSt s i).set (kx i) (or8 ((getSt s i).getD (kx i) 0) (s.getD i 0))
theorem getSt_len (s : List UInt8) : ∀ i, (getSt s i).length = 8
  | 0 => rfl
  | i + 1 => by simp only [getSt, List.length_set]; exact getSt_len s i
theorem or8_nat {x : UInt32} {b : UInt8} (h : x.toNat < 16777216) : (or8 x b).toNat = x.toNat * 256 + b.toNat := by
  have hb := b.toNat_lt
  unfold or8
  have e0 : (UInt64.ofNat 8).toNat = 8 := by decide
  rw [e0, UInt32.toNat_or, UInt32.toNat_shiftLeft, ofNat_lt (by decide), UInt8.toNat_toUInt32, Nat.shiftLeft_eq]
  have e : (2 ^ (8 % 32) : Nat) = 256 := by decide
  have e2 : (2 ^ 32 : Nat) = 4294967296 := by decide
  rw [e, e2, Nat.mod_eq_of_lt (by omega)]
  have := Nat.two_pow_add_eq_or_of_lt (i := 8) (b := b.toNat) (by simpa using hb) x.toNat
  have e3 : (2 ^ 8 : Nat) = 256 := by decide
  rw [e3] at this
  rw [Nat.mul_comm x.toNat 256, this]
set_option maxRecDepth 100000 in
theorem get_expl (s0 s1 s2 s3 s4 s5 s6 s7 s8 s9 s10 s11 s12 s13 s14 s15 s16 s17 s18 s19 s20 s21 s22 s23 s24 s25 s26 s27 s28 s29 s30 s31 : UInt8) : getSt [s0, s1, s2, s3, s4, s5, s6, s7, s8, s9, s10, s11, s12, s13, s14, s15, s16, s17, s18, s19, s20, s21, s22, s23, s24, s25, s26, s27, s28, s29, s30, s31] 32 = [(or8 (or8 (or8 (or8 0 s28) s29) s30) s31), (or8 (or8 (or8 (or8 0 s24) s25) s26) s27), (or8 (or8 (or8 (or8 0 s20) s21) s22) s23), (or8 (or8 (or8 (or8 0 s16) s17) s18) s19), (or8 (or8 (or8 (or8 0 s12) s13) s14) s15), (or8 (or8 (or8 (or8 0 s8) s9) s10) s11), (or8 (or8 (or8 (or8 0 s4) s5) s6) s7), (or8 (or8 (or8 (or8 0 s0) s1) s2) s3)] := by
  generalize hL : [s0, s1, s2, s3, s4, s5, s6, s7, s8, s9, s10, s11, s12, s13, s14, s15, s16, s17, s18, s19, s20, s21, s22, s23, s24, s25, s26, s27, s28, s29, s30, s31] = L
  have h0 : getSt L 0 = [0, 0, 0, 0, 0, 0, 0, 0] := rfl
  have h1 : getSt L 1 = [0, 0, 0, 0, 0, 0, 0, (or8 0 s0)] := by
    rw [getSt, h0, ← hL]; rfl
  have h2 : getSt L 2 = [0, 0, 0, 0, 0, 0, 0, (or8 (or8 0 s0) s1)] := by
    rw [getSt, h1, ← hL]; rfl
  have h3 : getSt L 3 = [0, 0, 0, 0, 0, 0, 0, (or8 (or8 (or8 0 s0) s1) s2)] := by
    rw [getSt, h2, ← hL]; rfl
  have h4 : getSt L 4 = [0, 0, 0, 0, 0, 0, 0, (or8 (or8 (or8 (or8 0 s0) s1) s2) s3)] := by
    rw [getSt, h3, ← hL]; rfl
  have h5 : getSt L 5 = [0, 0, 0, 0, 0, 0, (or8 0 s4), (or8 (or8 (or8 (or8 0 s0) s1) s2) s3)] := by
    rw [getSt, h4, ← hL]; rfl
  have h6 : getSt L 6 = [0, 0, 0, 0, 0, 0, (or8 (or8 0 s4) s5), (or8 (or8 (or8 (or8 0 s0) s1) s2) s3)] := by
    rw [getSt, h5, ← hL]; rfl
  have h7 : getSt L 7 = [0, 0, 0, 0, 0, 0, (or8 (or8 (or8 0 s4) s5) s6), (or8 (or8 (or8 (or8 0 s0) s1) s2) s3)] := by
    rw [getSt, h6, ← hL]; rfl
  have h8 : getSt L 8 = [0, 0, 0, 0, 0, 0, (or8 (or8 (or8 (or8 0 s4) s5) s6) s7), (or8 (or8 (or8 (or8 0 s0) s1) s2) s3)] := by
    rw [getSt, h7, ← hL]; rfl
  have h9 : getSt L 9 = [0, 0, 0, 0, 0, (or8 0 s8), (or8 (or8 (or8 (or8 0 s4) s5) s6) s7), (or8 (or8 (or8 (or8 0 s0) s1) s2) s3)] := by
    rw [getSt, h8, ← hL]; rfl
  have h10 : getSt L 10 = [0, 0, 0, 0, 0, (or8 (or8 0 s8) s9), (or8 (or8 (or8 (or8 0 s4) s5) s6) s7), (or8 (or8 (or8 (or8 0 s0) s1) s2) s3)] := by
    rw [getSt, h9, ← hL]; rfl
  have h11 : getSt L 11 = [0, 0, 0, 0, 0, (or8 (or8 (or8 0 s8) s9) s10), (or8 (or8 (or8 (or8 0 s4) s5) s6) s7), (or8 (or8 (or8 (or8 0 s0) s1) s2) s3)] := by
    rw [getSt, h10, ← hL]; rfl
  have h12 : getSt L 12 = [0, 0, 0, 0, 0, (or8 (or8 (or8 (or8 0 s8) s9) s10) s11), (or8 (or8 (or8 (or8 0 s4) s5) s6) s7), (or8 (or8 (or8 (or8 0 s0) s1) s2) s3)] := by
    rw [getSt, h11, ← hL]; rfl
  have h13 : getSt L 13 = [0, 0, 0, 0, (or8 0 s12), (or8 (or8 (or8 (or8 0 s8) s9) s10) s11), (or8 (or8 (or8 (or8 0 s4) s5) s6) s7), (or8 (or8 (or8 (or8 0 s0) s1) s2) s3)] := by
    rw [getSt, h12, ← hL]; rfl
  have h14 : getSt L 14 = [0, 0, 0, 0, (or8 (or8 0 s12) s13), (or8 (or8 (or8 (or8 0 s8) s9) s10) s11), (or8 (or8 (or8 (or8 0 s4) s5) s6) s7), (or8 (or8 (or8 (or8 0 s0) s1) s2) s3)] := by
    rw [getSt, h13, ← hL]; rfl
  have h15 : getSt L 15 = [0, 0, 0, 0, (or8 (or8 (or8 0 s12) s13) s14), (or8 (or8 (or8 (or8 0 s8) s9) s10) s11), (or8 (or8 (or8 (or8 0 s4) s5) s6) s7), (or8 (or8 (or8 (or8 0 s0) s1) s2) s3)] := by
    rw [getSt, h14, ← hL]; rfl
  have h16 : getSt L 16 = [0, 0, 0, 0, (or8 (or8 (or8 (or8 0 s12) s13) s14) s15), (or8 (or8 (or8 (or8 0 s8) s9) s10) s11), (or8 (or8 (or8 (or8 0 s4) s5) s6) s7), (or8 (or8 (or8 (or8 0 s0) s1) s2) s3)] := by
    rw [getSt, h15, ← hL]; rfl
  have h17 : getSt L 17 = [0, 0, 0, (or8 0 s16), (or8 (or8 (or8 (or8 0 s12) s13) s14) s15), (or8 (or8 (or8 (or8 0 s8) s9) s10) s11), (or8 (or8 (or8 (or8 0 s4) s5) s6) s7), (or8 (or8 (or8 (or8 0 s0) s1) s2) s3)] := by
    rw [getSt, h16, ← hL]; rfl
  have h18 : getSt L 18 = [0, 0, 0, (or8 (or8 0 s16) s17), (or8 (or8 (or8 (or8 0 s12) s13) s14) s15), (or8 (or8 (or8 (or8 0 s8) s9) s10) s11), (or8 (or8 (or8 (or8 0 s4) s5) s6) s7), (or8 (or8 (or8 (or8 0 s0) s1) s2) s3)] := by
    rw [getSt, h17, ← hL]; rfl
  have h19 : getSt L 19 = [0, 0, 0, (or8 (or8 (or8 0 s16) s17) s18), (or8 (or8 (or8 (or8 0 s12) s13) s14) s15), (or8 (or8 (or8 (or8 0 s8) s9) s10) s11), (or8 (or8 (or8 (or8 0 s4) s5) s6) s7), (or8 (or8 (or8 (or8 0 s0) s1) s2) s3)] := by
    rw [getSt, h18, ← hL]; rfl
  have h20 : getSt L 20 = [0, 0, 0, (or8 (or8 (or8 (or8 0 s16) s17) s18) s19), (or8 (or8 (or8 (or8 0 s12) s13) s14) s15), (or8 (or8 (or8 (or8 0 s8) s9) s10) s11), (or8 (or8 (or8 (or8 0 s4) s5) s6) s7), (or8 (or8 (or8 (or8 0 s0) s1) s2) s3)] := by
    rw [getSt, h19, ← hL]; rfl
  have h21 : getSt L 21 = [0, 0, (or8 0 s20), (or8 (or8 (or8 (or8 0 s16) s17) s18) s19), (or8 (or8 (or8 (or8 0 s12) s13) s14) s15), (or8 (or8 (or8 (or8 0 s8) s9) s10) s11), (or8 (or8 (or8 (or8 0 s4) s5) s6) s7), (or8 (or8 (or8 (or8 0 s0) s1) s2) s3)] := by
    rw [getSt, h20, ← hL]; rfl
  have h22 : getSt L 22 = [0, 0, (or8 (or8 0 s20) s21), (or8 (or8 (or8 (or8 0 s16) s17) s18) s19), (or8 (or8 (or8 (or8 0 s12) s13) s14) s15), (or8 (or8 (or8 (or8 0 s8) s9) s10) s11), (or8 (or8 (or8 (or8 0 s4) s5) s6) s7), (or8 (or8 (or8 (or8 0 s0) s1) s2) s3)] := by
    rw [getSt, h21, ← hL]; rfl
  have h23 : getSt L 23 = [0, 0, (or8 (or8 (or8 0 s20) s21) s22), (or8 (or8 (or8 (or8 0 s16) s17) s18) s19), (or8 (or8 (or8 (or8 0 s12) s13) s14) s15), (or8 (or8 (or8 (or8 0 s8) s9) s10) s11), (or8 (or8 (or8 (or8 0 s4) s5) s6) s7), (or8 (or8 (or8 (or8 0 s0) s1) s2) s3)] := by
    rw [getSt, h22, ← hL]; rfl
  have h24 : getSt L 24 = [0, 0, (or8 (or8 (or8 (or8 0 s20) s21) s22) s23), (or8 (or8 (or8 (or8 0 s16) s17) s18) s19), (or8 (or8 (or8 (or8 0 s12) s13) s14) s15), (or8 (or8 (or8 (or8 0 s8) s9) s10) s11), (or8 (or8 (or8 (or8 0 s4) s5) s6) s7), (or8 (or8 (or8 (or8 0 s0) s1) s2) s3)] := by
    rw [getSt, h23, ← hL]; rfl
  have h25 : getSt L 25 = [0, (or8 0 s24), (or8 (or8 (or8 (or8 0 s20) s21) s22) s23), (or8 (or8 (or8 (or8 0 s16) s17) s18) s19), (or8 (or8 (or8 (or8 0 s12) s13) s14) s15), (or8 (or8 (or8 (or8 0 s8) s9) s10) s11), (or8 (or8 (or8 (or8 0 s4) s5) s6) s7), (or8 (or8 (or8 (or8 0 s0) s1) s2) s3)] := by
    rw [getSt, h24, ← hL]; rfl
  have h26 : getSt L 26 = [0, (or8 (or8 0 s24) s25), (or8 (or8 (or8 (or8 0 s20) s21) s22) s23), (or8 (or8 (or8 (or8 0 s16) s17) s18) s19), (or8 (or8 (or8 (or8 0 s12) s13) s14) s15), (or8 (or8 (or8 (or8 0 s8) s9) s10) s11), (or8 (or8 (or8 (or8 0 s4) s5) s6) s7), (or8 (or8 (or8 (or8 0 s0) s1) s2) s3)] := by
    rw [getSt, h25, ← hL]; rfl
  have h27 : getSt L 27 = [0, (or8 (or8 (or8 0 s24) s25) s26), (or8 (or8 (or8 (or8 0 s20) s21) s22) s23), (or8 (or8 (or8 (or8 0 s16) s17) s18) s19), (or8 (or8 (or8 (or8 0 s12) s13) s14) s15), (or8 (or8 (or8 (or8 0 s8) s9) s10) s11), (or8 (or8 (or8 (or8 0 s4) s5) s6) s7), (or8 (or8 (or8 (or8 0 s0) s1) s2) s3)] := by
    rw [getSt, h26, ← hL]; rfl
  have h28 : getSt L 28 = [0, (or8 (or8 (or8 (or8 0 s24) s25) s26) s27), (or8 (or8 (or8 (or8 0 s20) s21) s22) s23), (or8 (or8 (or8 (or8 0 s16) s17) s18) s19), (or8 (or8 (or8 (or8 0 s12) s13) s14) s15), (or8 (or8 (or8 (or8 0 s8) s9) s10) s11), (or8 (or8 (or8 (or8 0 s4) s5) s6) s7), (or8 (or8 (or8 (or8 0 s0) s1) s2) s3)] := by
    rw [getSt, h27, ← hL]; rfl
  have h29 : getSt L 29 = [(or8 0 s28), (or8 (or8 (or8 (or8 0 s24) s25) s26) s27), (or8 (or8 (or8 (or8 0 s20) s21) s22) s23), (or8 (or8 (or8 (or8 0 s16) s17) s18) s19), (or8 (or8 (or8 (or8 0 s12) s13) s14) s15), (or8 (or8 (or8 (or8 0 s8) s9) s10) s11), (or8 (or8 (or8 (or8 0 s4) s5) s6) s7), (or8 (or8 (or8 (or8 0 s0) s1) s2) s3)] := by
    rw [getSt, h28, ← hL]; rfl
  have h30 : getSt L 30 = [(or8 (or8 0 s28) s29), (or8 (or8 (or8 (or8 0 s24) s25) s26) s27), (or8 (or8 (or8 (or8 0 s20) s21) s22) s23), (or8 (or8 (or8 (or8 0 s16) s17) s18) s19), (or8 (or8 (or8 (or8 0 s12) s13) s14) s15), (or8 (or8 (or8 (or8 0 s8) s9) s10) s11), (or8 (or8 (or8 (or8 0 s4) s5) s6) s7), (or8 (or8 (or8 (or8 0 s0) s1) s2) s3)] := by
    rw [getSt, h29, ← hL]; rfl
  have h31 : getSt L 31 = [(or8 (or8 (or8 0 s28) s29) s30), (or8 (or8 (or8 (or8 0 s24) s25) s26) s27), (or8 (or8 (or8 (or8 0 s20) s21) s22) s23), (or8 (or8 (or8 (or8 0 s16) s17) s18) s19), (or8 (or8 (or8 (or8 0 s12) s13) s14) s15), (or8 (or8 (or8 (or8 0 s8) s9) s10) s11), (or8 (or8 (or8 (or8 0 s4) s5) s6) s7), (or8 (or8 (or8 (or8 0 s0) s1) s2) s3)] := by
    rw [getSt, h30, ← hL]; rfl
  have h32 : getSt L 32 = [(or8 (or8 (or8 (or8 0 s28) s29) s30) s31), (or8 (or8 (or8 (or8 0 s24) s25) s26) s27), (or8 (or8 (or8 (or8 0 s20) s21) s22) s23), (or8 (or8 (or8 (or8 0 s16) s17) s18) s19), (or8 (or8 (or8 (or8 0 s12) s13) s14) s15), (or8 (or8 (or8 (or8 0 s8) s9) s10) s11), (or8 (or8 (or8 (or8 0 s4) s5) s6) s7), (or8 (or8 (or8 (or8 0 s0) s1) s2) s3)] := by
    rw [getSt, h31, ← hL]; rfl
  exact h32
set_option maxRecDepth 100000 in
theorem or8_four (a0 a1 a2 a3 : UInt8) : (or8 (or8 (or8 (or8 0 a0) a1) a2) a3).toNat = beV [a0, a1, a2, a3] := by
  have z : (0 : UInt32).toNat = 0 := rfl
  have h0 := a0.toNat_lt; have h1 := a1.toNat_lt; have h2 := a2.toNat_lt; have h3 := a3.toNat_lt
  have e0 := or8_nat (x := 0) (b := a0) (by decide)
  have e1 := or8_nat (x := or8 0 a0) (b := a1) (by omega)
  have e2 := or8_nat (x := or8 (or8 0 a0) a1) (b := a2) (by omega)
  have e3 := or8_nat (x := or8 (or8 (or8 0 a0) a1) a2) (b := a3) (by omega)
  simp only [beV, List.foldl]
  omega
set_option maxRecDepth 100000 in
theorem get_val {s : List UInt8} (h : s.length = 32) : getSt s 32 = lim (beV s) := by
  obtain ⟨s0, s1, s2, s3, s4, s5, s6, s7, s8, s9, s10, s11, s12, s13, s14, s15, s16, s17, s18, s19, s20, s21, s22, s23, s24, s25, s26, s27, s28, s29, s30, s31, rfl⟩ := len32 h
  rw [get_expl]
  refine lim_of rfl ?_
  rw [val8]
  simp only [or8_four]
  have h1 := beV_app 4 [s4, s5, s6, s7] [s0, s1, s2, s3] rfl
  have h2 := beV_app 4 [s8, s9, s10, s11] [s0, s1, s2, s3, s4, s5, s6, s7] rfl
  have h3 := beV_app 4 [s12, s13, s14, s15] [s0, s1, s2, s3, s4, s5, s6, s7, s8, s9, s10, s11] rfl
  have h4 := beV_app 4 [s16, s17, s18, s19] [s0, s1, s2, s3, s4, s5, s6, s7, s8, s9, s10, s11, s12, s13, s14, s15] rfl
  have h5 := beV_app 4 [s20, s21, s22, s23] [s0, s1, s2, s3, s4, s5, s6, s7, s8, s9, s10, s11, s12, s13, s14, s15, s16, s17, s18, s19] rfl
  have h6 := beV_app 4 [s24, s25, s26, s27] [s0, s1, s2, s3, s4, s5, s6, s7, s8, s9, s10, s11, s12, s13, s14, s15, s16, s17, s18, s19, s20, s21, s22, s23] rfl
  have h7 := beV_app 4 [s28, s29, s30, s31] [s0, s1, s2, s3, s4, s5, s6, s7, s8, s9, s10, s11, s12, s13, s14, s15, s16, s17, s18, s19, s20, s21, s22, s23, s24, s25, s26, s27] rfl
  simp only [List.cons_append, List.nil_append] at h1 h2 h3 h4 h5 h6 h7
  rw [h7, h6, h5, h4, h3, h2, h1]
  have p4 : (256 ^ 4 : Nat) = 4294967296 := by decide
  rw [p4]
  generalize beV [s0, s1, s2, s3] = q0
  generalize beV [s4, s5, s6, s7] = q1
  generalize beV [s8, s9, s10, s11] = q2
  generalize beV [s12, s13, s14, s15] = q3
  generalize beV [s16, s17, s18, s19] = q4
  generalize beV [s20, s21, s22, s23] = q5
  generalize beV [s24, s25, s26, s27] = q6
  generalize beV [s28, s29, s30, s31] = q7
  omega

/-! ### less -/
def ltTop (x y : List UInt32) : Nat → Bool
  | 0 => false
  | j + 1 => if x.getD j 0 = y.getD j 0 then ltTop x y j else decide (x.getD j 0 < y.getD j 0)
def vt (x : List UInt32) : Nat → Nat
  | 0 => 0
  | j + 1 => vt x j + 4294967296 ^ j * (x.getD j 0).toNat
theorem vt_lt (x : List UInt32) : ∀ j, vt x j < 4294967296 ^ j
  | 0 => by simp [vt]
  | j + 1 => by
    have ih := vt_lt x j
    have h := lt32 (x.getD j 0)
    have := Nat.mul_le_mul_left (4294967296 ^ j) (Nat.succ_le_of_lt h)
    simp only [vt]
    rw [Nat.pow_succ]
    rw [Nat.mul_succ] at this
    omega
theorem lt_digits {a b c d B : Nat} (ha : a < B) (hb : b < B) : a + B * c < b + B * d ↔ c < d ∨ (c = d ∧ a < b) := by
  rcases Nat.lt_trichotomy c d with h | h | h
  · have := Nat.mul_le_mul_left B (Nat.succ_le_of_lt h)
    rw [Nat.mul_succ] at this
    omega
  · subst h; omega
  · have := Nat.mul_le_mul_left B (Nat.succ_le_of_lt h)
    rw [Nat.mul_succ] at this
    omega
theorem ltTop_eq (x y : List UInt32) : ∀ j, ltTop x y j = decide (vt x j < vt y j)
  | 0 => by simp [ltTop, vt]
  | j + 1 => by
    have hd : vt x (j + 1) < vt y (j + 1) ↔ _ := lt_digits (vt_lt x j) (vt_lt y j) (c := (x.getD j 0).toNat) (d := (y.getD j 0).toNat)
    simp only [ltTop]
    split
    · rename_i e
      rw [ltTop_eq x y j, decide_eq_decide, hd, e]
      omega
    · rename_i e
      have e : (x.getD j 0).toNat ≠ (y.getD j 0).toNat := fun hh => e (UInt32.toNat_inj.1 hh)
      rw [decide_eq_decide, hd, UInt32.lt_iff_toNat_lt]
      omega
theorem vt_val {x : List UInt32} (h : x.length = 8) : vt x 8 = val x := by
  obtain ⟨a0, a1, a2, a3, a4, a5, a6, a7, rfl⟩ := len8 h
  rw [val8]
  simp only [vt, List.getD_cons_zero, List.getD_cons_succ]
  omega

def mlim (w : Int) : List UInt32 := if w = 0 then [0xffffffff, 0xffffffff, 0xffffffff, 0x0, 0x0, 0x0, 0x1, 0xffffffff] else if w = 1 then [0xfc632551, 0xf3b9cac2, 0xa7179e84, 0xbce6faad, 0xffffffff, 0xffffffff, 0x0, 0xffffffff] else [0xffffffed, 0xffffffff, 0xffffffff, 0xffffffff, 0xffffffff, 0xffffffff, 0xffffffff, 0x7fffffff]
theorem mlim_val {w : Int} (h : 0 ≤ w ∧ w ≤ 2) : val (mlim w) = md w := by
  rcases w3 h with rfl | rfl | rfl <;> decide +kernel
theorem mlim_len (w : Int) : (mlim w).length = 8 := by unfold mlim; split; rfl; split <;> rfl
end Go.Sym.Num32
