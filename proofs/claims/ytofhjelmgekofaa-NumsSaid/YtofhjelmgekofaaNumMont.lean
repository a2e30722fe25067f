/-
  Products by Montgomery's way, limb by limb: plain laws. No program in sight; no condition beyond each lemma's own.
-/
import Derived.Test.YtofhjelmgekofaaNumVal
set_option linter.unusedSimpArgs false
set_option linter.unusedVariables false
namespace Go.Sym.Num

/-- the program's first inner loop: t + x yi -/
def in1 (x : List UInt64) (yi : UInt64) (t : List UInt64) : Nat → List UInt64 × UInt64
  | 0 => (t, 0)
  | k + 1 => ((in1 x yi t k).1.set k (addL (addL (mulL (x.getD k 0) yi) ((in1 x yi t k).1.getD k 0) 0) (in1 x yi t k).2 0),
      mulH (x.getD k 0) yi + addC (mulL (x.getD k 0) yi) ((in1 x yi t k).1.getD k 0) 0 + addC (addL (mulL (x.getD k 0) yi) ((in1 x yi t k).1.getD k 0) 0) (in1 x yi t k).2 0)
/-- the second: what is added so that the lowest limb goes away -/
def in2 (M : List UInt64) (m : UInt64) (t : List UInt64) (c : UInt64) : Nat → List UInt64 × UInt64
  | 0 => (t, c)
  | j + 1 => ((in2 M m t c j).1.set (((j : Int) + 1) - 1).toNat (addL (addL (mulL m (M.getD (j + 1) 0)) ((in2 M m t c j).1.getD (j + 1) 0) 0) (in2 M m t c j).2 0),
      mulH m (M.getD (j + 1) 0) + addC (mulL m (M.getD (j + 1) 0)) ((in2 M m t c j).1.getD (j + 1) 0) 0 + addC (addL (mulL m (M.getD (j + 1) 0)) ((in2 M m t c j).1.getD (j + 1) 0) 0) (in2 M m t c j).2 0)
def mid (t : List UInt64) (c : UInt64) : List UInt64 := (t.set 4 (addL (t.getD 4 0) c 0)).set 5 (addC (t.getD 4 0) c 0)
def c0 (M t : List UInt64) (m : UInt64) : UInt64 := mulH m (M.getD 0 0) + addC (mulL m (M.getD 0 0)) (t.getD 0 0) 0
def fin (t : List UInt64) (c : UInt64) : List UInt64 := (t.set 3 (addL (t.getD 4 0) c 0)).set 4 ((t.set 3 (addL (t.getD 4 0) c 0)).getD 5 0 + addC (t.getD 4 0) c 0)
def mid1 (x : List UInt64) (yi : UInt64) (t : List UInt64) : List UInt64 := mid (in1 x yi t 4).1 (in1 x yi t 4).2
def mq (x : List UInt64) (yi : UInt64) (k : UInt64) (t : List UInt64) : UInt64 := (mid1 x yi t).getD 0 0 * k
def in2s (x : List UInt64) (yi : UInt64) (M : List UInt64) (k : UInt64) (t : List UInt64) (j : Nat) : List UInt64 × UInt64 := in2 M (mq x yi k t) (mid1 x yi t) (c0 M (mid1 x yi t) (mq x yi k t)) j
def mstep (x : List UInt64) (yi : UInt64) (M : List UInt64) (k : UInt64) (t : List UInt64) : List UInt64 := fin (in2s x yi M k t 3).1 (in2s x yi M k t 3).2
def mulSt (x y M : List UInt64) (k : UInt64) : Nat → List UInt64
  | 0 => [0, 0, 0, 0, 0, 0]
  | i + 1 => mstep x (y.getD i 0) M k (mulSt x y M k i)

theorem in1_len {x : List UInt64} {yi : UInt64} {t : List UInt64} (h : t.length = 6) : ∀ k, (in1 x yi t k).1.length = 6
  | 0 => h
  | k + 1 => by simp only [in1, List.length_set]; exact in1_len h k
theorem in2_len {M : List UInt64} {m : UInt64} {t : List UInt64} {c : UInt64} (h : t.length = 6) : ∀ k, (in2 M m t c k).1.length = 6
  | 0 => h
  | k + 1 => by simp only [in2, List.length_set]; exact in2_len h k
theorem mid1_len {x : List UInt64} {yi : UInt64} {t : List UInt64} (h : t.length = 6) : (mid1 x yi t).length = 6 := by
  simp only [mid1, mid, List.length_set]; exact in1_len h 4
theorem mstep_len {x : List UInt64} {yi : UInt64} {M : List UInt64} {k : UInt64} {t : List UInt64} (h : t.length = 6) : (mstep x yi M k t).length = 6 := by
  simp only [mstep, fin, in2s, List.length_set]; exact in2_len (mid1_len h) 3
theorem mulSt_len (x y M : List UInt64) (k : UInt64) : ∀ i, (mulSt x y M k i).length = 6
  | 0 => rfl
  | i + 1 => mstep_len (mulSt_len x y M k i)

/-- a product and two numbers more -/
theorem macE (x y t c : UInt64) : (addL (addL (mulL x y) t 0) c 0).toNat + B1 * (mulH x y + addC (mulL x y) t 0 + addC (addL (mulL x y) t 0) c 0).toNat = x.toNat * y.toNat + t.toNat + c.toNat := by
  have hx := lt64 x; have hy := lt64 y; have ht := lt64 t; have hc := lt64 c
  have hp : x.toNat * y.toNat ≤ 18446744073709551615 * 18446744073709551615 := Nat.mul_le_mul (by omega) (by omega)
  have e0 := mulE x y
  have e1 := addE (x := mulL x y) (y := t) (c := 0) (by decide)
  have l1 := addC_le (x := mulL x y) (y := t) (c := 0) (by decide)
  have e2 := addE (x := addL (mulL x y) t 0) (y := c) (c := 0) (by decide)
  have l2 := addC_le (x := addL (mulL x y) t 0) (y := c) (c := 0) (by decide)
  have z : (0 : UInt64).toNat = 0 := rfl
  rw [z] at e1 e2
  have lL := lt64 (mulL x y)
  have lA := lt64 (addL (mulL x y) t 0)
  have lB := lt64 (addL (addL (mulL x y) t 0) c 0)
  have s1 := add_toNat (x := mulH x y) (y := addC (mulL x y) t 0) (by omega)
  have s2 := add_toNat (x := mulH x y + addC (mulL x y) t 0) (y := addC (addL (mulL x y) t 0) c 0) (by omega)
  rw [s2, s1]
  unfold B1
  omega
theorem mac0 (x y t : UInt64) (h : (addL (mulL x y) t 0).toNat = 0) : B1 * (mulH x y + addC (mulL x y) t 0).toNat = x.toNat * y.toNat + t.toNat := by
  have hx := lt64 x; have hy := lt64 y; have ht := lt64 t
  have hp : x.toNat * y.toNat ≤ 18446744073709551615 * 18446744073709551615 := Nat.mul_le_mul (by omega) (by omega)
  have e0 := mulE x y
  have e1 := addE (x := mulL x y) (y := t) (c := 0) (by decide)
  have l1 := addC_le (x := mulL x y) (y := t) (c := 0) (by decide)
  have z : (0 : UInt64).toNat = 0 := rfl
  rw [z] at e1
  have lL := lt64 (mulL x y)
  have s1 := add_toNat (x := mulH x y) (y := addC (mulL x y) t 0) (by omega)
  rw [s1]
  unfold B1
  omega
theorem low_away {t k m : UInt64} (hk : (k.toNat * m.toNat) % 18446744073709551616 = 18446744073709551615) : (addL (mulL (t * k) m) t 0).toNat = 0 := by
  unfold addL
  rw [UInt64.toNat_ofNat']
  unfold mulL
  rw [UInt64.toNat_ofNat', UInt64.toNat_mul]
  have e : (2 ^ 64 : Nat) = 18446744073709551616 := by decide
  have z : (0 : UInt64).toNat = 0 := rfl
  rw [e, z, Nat.add_zero]
  have h1 : (t.toNat * k.toNat % 18446744073709551616 * m.toNat) % 18446744073709551616 = (t.toNat * 18446744073709551615) % 18446744073709551616 := by
    rw [Nat.mod_mul_mod, Nat.mul_assoc, Nat.mul_mod, hk, Nat.mod_mul_mod]
  rw [h1, Nat.mod_add_mod, show t.toNat * 18446744073709551615 + t.toNat = 18446744073709551616 * t.toNat by omega]
  exact Nat.mul_mod_right _ _

def val5 (t : List UInt64) : Nat := val (t.take 5)
theorem len6 {x : List UInt64} (h : x.length = 6) : ∃ a b c d e f, x = [a, b, c, d, e, f] := by
  match x, h with
  | [a, b, c, d, e, f], _ => exact ⟨a, b, c, d, e, f, rfl⟩
theorem val5_eq (a b c d e f : UInt64) : val5 [a, b, c, d, e, f] = a.toNat + 18446744073709551616 * b.toNat + 340282366920938463463374607431768211456 * c.toNat + 6277101735386680763835789423207666416102355444464034512896 * d.toNat + 115792089237316195423570985008687907853269984665640564039457584007913129639936 * e.toNat := by
  simp only [val5, List.take, val, B1]; omega

/-- one row -/
theorem mstep_val {x M t : List UInt64} (hx : x.length = 4) (hM : M.length = 4) (ht : t.length = 6) {yi k : UInt64} (hk : (k.toNat * (M.getD 0 0).toNat) % 18446744073709551616 = 18446744073709551615) :
    ∃ q, q < B1 ∧ B1 * val5 (mstep x yi M k t) = val5 t + val x * yi.toNat + q * val M := by
  obtain ⟨x0, x1, x2, x3, rfl⟩ := len4 hx
  obtain ⟨M0, M1, M2, M3, rfl⟩ := len4 hM
  obtain ⟨t0, t1, t2, t3, t4, t5, rfl⟩ := len6 ht
  rw [List.getD_cons_zero] at hk
  -- the first row
  have a0 := macE x0 yi t0 0
  obtain ⟨l0, hl0⟩ : ∃ l, l = addL (addL (mulL x0 yi) t0 0) 0 0 := ⟨_, rfl⟩
  obtain ⟨d0, hd0⟩ : ∃ l, l = mulH x0 yi + addC (mulL x0 yi) t0 0 + addC (addL (mulL x0 yi) t0 0) 0 0 := ⟨_, rfl⟩
  rw [← hl0, ← hd0] at a0
  have a1 := macE x1 yi t1 d0
  obtain ⟨l1, hl1⟩ : ∃ l, l = addL (addL (mulL x1 yi) t1 0) d0 0 := ⟨_, rfl⟩
  obtain ⟨d1, hd1⟩ : ∃ l, l = mulH x1 yi + addC (mulL x1 yi) t1 0 + addC (addL (mulL x1 yi) t1 0) d0 0 := ⟨_, rfl⟩
  rw [← hl1, ← hd1] at a1
  have a2 := macE x2 yi t2 d1
  obtain ⟨l2, hl2⟩ : ∃ l, l = addL (addL (mulL x2 yi) t2 0) d1 0 := ⟨_, rfl⟩
  obtain ⟨d2, hd2⟩ : ∃ l, l = mulH x2 yi + addC (mulL x2 yi) t2 0 + addC (addL (mulL x2 yi) t2 0) d1 0 := ⟨_, rfl⟩
  rw [← hl2, ← hd2] at a2
  have a3 := macE x3 yi t3 d2
  obtain ⟨l3, hl3⟩ : ∃ l, l = addL (addL (mulL x3 yi) t3 0) d2 0 := ⟨_, rfl⟩
  obtain ⟨d3, hd3⟩ : ∃ l, l = mulH x3 yi + addC (mulL x3 yi) t3 0 + addC (addL (mulL x3 yi) t3 0) d2 0 := ⟨_, rfl⟩
  rw [← hl3, ← hd3] at a3
  have hin1 : in1 [x0, x1, x2, x3] yi [t0, t1, t2, t3, t4, t5] 4 = ([l0, l1, l2, l3, t4, t5], d3) := by
    have h1 : in1 [x0, x1, x2, x3] yi [t0, t1, t2, t3, t4, t5] 1 = ([l0, t1, t2, t3, t4, t5], d0) := by rw [hl0, hd0]; rfl
    have h2 : in1 [x0, x1, x2, x3] yi [t0, t1, t2, t3, t4, t5] 2 = ([l0, l1, t2, t3, t4, t5], d1) := by rw [hl1, hd1, in1, h1]; rfl
    have h3 : in1 [x0, x1, x2, x3] yi [t0, t1, t2, t3, t4, t5] 3 = ([l0, l1, l2, t3, t4, t5], d2) := by rw [hl2, hd2, in1, h2]; rfl
    rw [hl3, hd3, in1, h3]; rfl
  have a4 := addE (x := t4) (y := d3) (c := 0) (by decide)
  have b4 := addC_le (x := t4) (y := d3) (c := 0) (by decide)
  obtain ⟨l4, hl4⟩ : ∃ l, l = addL t4 d3 0 := ⟨_, rfl⟩
  obtain ⟨l5, hl5⟩ : ∃ l, l = addC t4 d3 0 := ⟨_, rfl⟩
  rw [← hl4, ← hl5] at a4
  rw [← hl5] at b4
  have hmid : mid1 [x0, x1, x2, x3] yi [t0, t1, t2, t3, t4, t5] = [l0, l1, l2, l3, l4, l5] := by
    rw [mid1, hin1, hl4, hl5]; rfl
  -- the second row
  obtain ⟨q, hq⟩ : ∃ q, q = l0 * k := ⟨_, rfl⟩
  have hmq : mq [x0, x1, x2, x3] yi k [t0, t1, t2, t3, t4, t5] = q := by rw [mq, hmid, hq]; rfl
  have hlow : (addL (mulL q M0) l0 0).toNat = 0 := by rw [hq]; exact low_away hk
  have g0 := mac0 q M0 l0 hlow
  obtain ⟨e0, he0⟩ : ∃ l, l = mulH q M0 + addC (mulL q M0) l0 0 := ⟨_, rfl⟩
  rw [← he0] at g0
  have g1 := macE q M1 l1 e0
  obtain ⟨r0, hr0⟩ : ∃ l, l = addL (addL (mulL q M1) l1 0) e0 0 := ⟨_, rfl⟩
  obtain ⟨e1, he1⟩ : ∃ l, l = mulH q M1 + addC (mulL q M1) l1 0 + addC (addL (mulL q M1) l1 0) e0 0 := ⟨_, rfl⟩
  rw [← hr0, ← he1] at g1
  have g2 := macE q M2 l2 e1
  obtain ⟨r1, hr1⟩ : ∃ l, l = addL (addL (mulL q M2) l2 0) e1 0 := ⟨_, rfl⟩
  obtain ⟨e2, he2⟩ : ∃ l, l = mulH q M2 + addC (mulL q M2) l2 0 + addC (addL (mulL q M2) l2 0) e1 0 := ⟨_, rfl⟩
  rw [← hr1, ← he2] at g2
  have g3 := macE q M3 l3 e2
  obtain ⟨r2, hr2⟩ : ∃ l, l = addL (addL (mulL q M3) l3 0) e2 0 := ⟨_, rfl⟩
  obtain ⟨e3, he3⟩ : ∃ l, l = mulH q M3 + addC (mulL q M3) l3 0 + addC (addL (mulL q M3) l3 0) e2 0 := ⟨_, rfl⟩
  rw [← hr2, ← he3] at g3
  have hin2 : in2s [x0, x1, x2, x3] yi [M0, M1, M2, M3] k [t0, t1, t2, t3, t4, t5] 3 = ([r0, r1, r2, l3, l4, l5], e3) := by
    rw [in2s, hmid, hmq]
    have hc0 : c0 [M0, M1, M2, M3] [l0, l1, l2, l3, l4, l5] q = e0 := by rw [he0]; rfl
    rw [hc0]
    have h1 : in2 [M0, M1, M2, M3] q [l0, l1, l2, l3, l4, l5] e0 1 = ([r0, l1, l2, l3, l4, l5], e1) := by rw [hr0, he1]; rfl
    have h2 : in2 [M0, M1, M2, M3] q [l0, l1, l2, l3, l4, l5] e0 2 = ([r0, r1, l2, l3, l4, l5], e2) := by rw [hr1, he2, in2, h1]; rfl
    rw [hr2, he3, in2, h2]; rfl
  have g4 := addE (x := l4) (y := e3) (c := 0) (by decide)
  have k4 := addC_le (x := l4) (y := e3) (c := 0) (by decide)
  obtain ⟨r3, hr3⟩ : ∃ l, l = addL l4 e3 0 := ⟨_, rfl⟩
  obtain ⟨o, ho⟩ : ∃ l, l = addC l4 e3 0 := ⟨_, rfl⟩
  rw [← hr3, ← ho] at g4
  rw [← ho] at k4
  have hfin : mstep [x0, x1, x2, x3] yi [M0, M1, M2, M3] k [t0, t1, t2, t3, t4, t5] = [r0, r1, r2, r3, l5 + o, l5] := by
    rw [mstep, hin2, hr3, ho]; rfl
  have g5 := add_toNat (x := l5) (y := o) (by omega)
  refine ⟨q.toNat, lt64 q, ?_⟩
  rw [hfin, val5_eq, val5_eq, val4, val4, g5]
  have z : (0 : UInt64).toNat = 0 := rfl
  rw [z] at a0 a4 g4
  unfold B1 at *
  have p1 : (x0.toNat + 18446744073709551616 * x1.toNat + 340282366920938463463374607431768211456 * x2.toNat + 6277101735386680763835789423207666416102355444464034512896 * x3.toNat) * yi.toNat =
      x0.toNat * yi.toNat + 18446744073709551616 * (x1.toNat * yi.toNat) + 340282366920938463463374607431768211456 * (x2.toNat * yi.toNat) + 6277101735386680763835789423207666416102355444464034512896 * (x3.toNat * yi.toNat) := by
    rw [Nat.add_mul, Nat.add_mul, Nat.add_mul, Nat.mul_assoc, Nat.mul_assoc, Nat.mul_assoc]
  have p2 : q.toNat * (M0.toNat + 18446744073709551616 * M1.toNat + 340282366920938463463374607431768211456 * M2.toNat + 6277101735386680763835789423207666416102355444464034512896 * M3.toNat) =
      q.toNat * M0.toNat + 18446744073709551616 * (q.toNat * M1.toNat) + 340282366920938463463374607431768211456 * (q.toNat * M2.toNat) + 6277101735386680763835789423207666416102355444464034512896 * (q.toNat * M3.toNat) := by
    rw [Nat.mul_add, Nat.mul_add, Nat.mul_add, Nat.mul_left_comm, Nat.mul_left_comm _ 340282366920938463463374607431768211456, Nat.mul_left_comm _ 6277101735386680763835789423207666416102355444464034512896]
  rw [p1, p2]
  generalize x0.toNat * yi.toNat = P0 at *
  generalize x1.toNat * yi.toNat = P1 at *
  generalize x2.toNat * yi.toNat = P2 at *
  generalize x3.toNat * yi.toNat = P3 at *
  generalize q.toNat * M0.toNat = Q0 at *
  generalize q.toNat * M1.toNat = Q1 at *
  generalize q.toNat * M2.toNat = Q2 at *
  generalize q.toNat * M3.toNat = Q3 at *
  omega

/-- all rows -/
theorem mulSt_val {x y M : List UInt64} (hx : x.length = 4) (hy : y.length = 4) (hM : M.length = 4) {k : UInt64} (hk : (k.toNat * (M.getD 0 0).toNat) % 18446744073709551616 = 18446744073709551615) :
    ∃ q, q < B4 ∧ B4 * val5 (mulSt x y M k 4) = val x * val y + q * val M := by
  obtain ⟨y0, y1, y2, y3, rfl⟩ := len4 hy
  obtain ⟨q0, l0, h0⟩ := mstep_val hx hM (mulSt_len x [y0, y1, y2, y3] M k 0) (yi := y0) hk
  obtain ⟨q1, l1, h1⟩ := mstep_val hx hM (mulSt_len x [y0, y1, y2, y3] M k 1) (yi := y1) hk
  obtain ⟨q2, l2, h2⟩ := mstep_val hx hM (mulSt_len x [y0, y1, y2, y3] M k 2) (yi := y2) hk
  obtain ⟨q3, l3, h3⟩ := mstep_val hx hM (mulSt_len x [y0, y1, y2, y3] M k 3) (yi := y3) hk
  have e0 : mstep x y0 M k (mulSt x [y0, y1, y2, y3] M k 0) = mulSt x [y0, y1, y2, y3] M k 1 := rfl
  have e1 : mstep x y1 M k (mulSt x [y0, y1, y2, y3] M k 1) = mulSt x [y0, y1, y2, y3] M k 2 := rfl
  have e2 : mstep x y2 M k (mulSt x [y0, y1, y2, y3] M k 2) = mulSt x [y0, y1, y2, y3] M k 3 := rfl
  have e3 : mstep x y3 M k (mulSt x [y0, y1, y2, y3] M k 3) = mulSt x [y0, y1, y2, y3] M k 4 := rfl
  have z0 : val5 (mulSt x [y0, y1, y2, y3] M k 0) = 0 := by simp [mulSt, val5, val]
  rw [e0] at h0; rw [e1] at h1; rw [e2] at h2; rw [e3] at h3
  rw [z0] at h0
  refine ⟨q0 + 18446744073709551616 * q1 + 340282366920938463463374607431768211456 * q2 + 6277101735386680763835789423207666416102355444464034512896 * q3, by unfold B1 B4 at *; omega, ?_⟩
  rw [val4]
  have p1 : val x * (y0.toNat + 18446744073709551616 * y1.toNat + 340282366920938463463374607431768211456 * y2.toNat + 6277101735386680763835789423207666416102355444464034512896 * y3.toNat) =
      val x * y0.toNat + 18446744073709551616 * (val x * y1.toNat) + 340282366920938463463374607431768211456 * (val x * y2.toNat) + 6277101735386680763835789423207666416102355444464034512896 * (val x * y3.toNat) := by
    rw [Nat.mul_add, Nat.mul_add, Nat.mul_add, Nat.mul_left_comm, Nat.mul_left_comm _ 340282366920938463463374607431768211456, Nat.mul_left_comm _ 6277101735386680763835789423207666416102355444464034512896]
  have p2 : (q0 + 18446744073709551616 * q1 + 340282366920938463463374607431768211456 * q2 + 6277101735386680763835789423207666416102355444464034512896 * q3) * val M =
      q0 * val M + 18446744073709551616 * (q1 * val M) + 340282366920938463463374607431768211456 * (q2 * val M) + 6277101735386680763835789423207666416102355444464034512896 * (q3 * val M) := by
    rw [Nat.add_mul, Nat.add_mul, Nat.add_mul, Nat.mul_assoc, Nat.mul_assoc, Nat.mul_assoc]
  rw [p1, p2]
  unfold B1 B4 at *
  generalize val5 (mulSt x [y0, y1, y2, y3] M k 1) = V1 at *
  generalize val5 (mulSt x [y0, y1, y2, y3] M k 2) = V2 at *
  generalize val5 (mulSt x [y0, y1, y2, y3] M k 3) = V3 at *
  generalize val5 (mulSt x [y0, y1, y2, y3] M k 4) = V4 at *
  omega

/-- a product by 2^256, modulo -/
def mont (m ri a b : Nat) : Nat := a * b * ri % m
theorem mont_of {m ri a b v q : Nat} (hri : (B4 * ri) % m = 1 % m) (h : B4 * v = a * b + q * m) : v % m = mont m ri a b := by
  unfold mont
  have h1 : v % m = (v * (B4 * ri)) % m := by rw [Nat.mul_mod v (B4 * ri), hri, ← Nat.mul_mod, Nat.mul_one]
  rw [h1, show v * (B4 * ri) = (B4 * v) * ri by rw [Nat.mul_comm B4 v, Nat.mul_assoc], h, Nat.add_mul, show q * m * ri = m * (q * ri) by rw [Nat.mul_comm q m, Nat.mul_assoc], Nat.add_mul_mod_self_left]

theorem take4 {t : List UInt64} (h : t.length = 6) : val5 t = val [t.getD 0 0, t.getD 1 0, t.getD 2 0, t.getD 3 0] + B4 * (t.getD 4 0).toNat := by
  obtain ⟨a, b, c, d, e, f, rfl⟩ := len6 h
  rw [val5_eq]
  simp only [List.getD_cons_zero, List.getD_cons_succ]
  rw [val4]
def low4 (t : List UInt64) : List UInt64 := [t.getD 0 0, t.getD 1 0, t.getD 2 0, t.getD 3 0]
theorem mul_bound {m X Y q v : Nat} (hx : X < m) (hy : Y < B4) (hq : q < B4) (h : B4 * v = X * Y + q * m) : v < 2 * m := by
  have h1 : X * Y ≤ m * B4 := Nat.mul_le_mul (Nat.le_of_lt hx) (Nat.le_of_lt hy)
  have h2 : (q + 1) * m ≤ B4 * m := Nat.mul_le_mul_right m hq
  have h3 : m * B4 = B4 * m := Nat.mul_comm _ _
  rw [Nat.add_mul] at h2
  have h4 : B4 * v < B4 * (2 * m) := by
    have : B4 * (2 * m) = B4 * m + B4 * m := by rw [Nat.mul_left_comm, Nat.two_mul]
    omega
  exact Nat.lt_of_mul_lt_mul_left h4
theorem mul_w {x y M : List UInt64} (hx : x.length = 4) (hy : y.length = 4) (hM : M.length = 4) {k : UInt64} (hk : (k.toNat * (M.getD 0 0).toNat) % 18446744073709551616 = 18446744073709551615)
    {ri : Nat} (hri : (B4 * ri) % val M = 1 % val M) (hlt : val x < val M)
    (h : (mulSt x y M k 4).getD 4 0 = 1 ∨ (subSt (low4 (mulSt x y M k 4)) M 4).2 = 0) : (subSt (low4 (mulSt x y M k 4)) M 4).1 = lim (mont (val M) ri (val x) (val y)) := by
  obtain ⟨q, hq, he⟩ := mulSt_val hx hy hM hk
  have hb := mul_bound hlt (val_lt hy) hq he
  rw [← mont_of hri he]
  refine lim_of (subSt_len _ _ 4) ?_
  have e2 := subSt_val (x := low4 (mulSt x y M k 4)) (y := M) rfl hM
  have l1 := val_lt (subSt_len (low4 (mulSt x y M k 4)) M 4)
  have l2 := val_lt (x := low4 (mulSt x y M k 4)) rfl
  have l3 := val_lt hM
  have c2 := subSt_c (low4 (mulSt x y M k 4)) M 4
  have ht := take4 (mulSt_len x y M k 4)
  have ht' : val5 (mulSt x y M k 4) = val (low4 (mulSt x y M k 4)) + B4 * ((mulSt x y M k 4).getD 4 0).toNat := ht
  rw [u64_one, u64_zero] at h
  generalize val5 (mulSt x y M k 4) = V at *
  have hge : val M ≤ V := by unfold B4 at *; omega
  rw [Nat.mod_eq_sub_mod hge, Nat.mod_eq_of_lt (by omega)]
  unfold B4 at *; omega
theorem mul_z {x y M : List UInt64} (hx : x.length = 4) (hy : y.length = 4) (hM : M.length = 4) {k : UInt64} (hk : (k.toNat * (M.getD 0 0).toNat) % 18446744073709551616 = 18446744073709551615)
    {ri : Nat} (hri : (B4 * ri) % val M = 1 % val M) (hlt : val x < val M)
    (h : ¬ (mulSt x y M k 4).getD 4 0 = 1) (h' : ¬ (subSt (low4 (mulSt x y M k 4)) M 4).2 = 0) : low4 (mulSt x y M k 4) = lim (mont (val M) ri (val x) (val y)) := by
  obtain ⟨q, hq, he⟩ := mulSt_val hx hy hM hk
  have hb := mul_bound hlt (val_lt hy) hq he
  rw [← mont_of hri he]
  refine lim_of rfl ?_
  have e2 := subSt_val (x := low4 (mulSt x y M k 4)) (y := M) rfl hM
  have l1 := val_lt (subSt_len (low4 (mulSt x y M k 4)) M 4)
  have l2 := val_lt (x := low4 (mulSt x y M k 4)) rfl
  have l3 := val_lt hM
  have c2 := subSt_c (low4 (mulSt x y M k 4)) M 4
  have ht := take4 (mulSt_len x y M k 4)
  have ht' : val5 (mulSt x y M k 4) = val (low4 (mulSt x y M k 4)) + B4 * ((mulSt x y M k 4).getD 4 0).toNat := ht
  rw [u64_one] at h
  rw [u64_zero] at h'
  generalize val5 (mulSt x y M k 4) = V at *
  have hlt : V < val M := by unfold B4 at *; omega
  rw [Nat.mod_eq_of_lt hlt]
  unfold B4 at *; omega
end Go.Sym.Num
