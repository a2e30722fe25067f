/-
  Contracts of functions of the program, each said of symbolic values, and plain laws; no condition beyond each statement's own.
-/
import Derived.Test.YtmmpgjcpielefaaG9
import Derived.Test.YtmmpgjcpielefaaG10
set_option linter.unusedSimpArgs false
set_option linter.unusedVariables false
/-
  ChaCha20 over lists of words and bytes. Plain laws. No program in sight; no condition beyond each lemma's own.
-/
namespace Go.Sym.Cha
open Go.Sym.Lp

def rl32 (x : UInt32) (n : Nat) : UInt32 := x <<< UInt32.ofNat n ||| x >>> UInt32.ofNat (32 - n)
def g32 (x : List UInt32) (i : Nat) : UInt32 := x.getD i 0
/-- a sum, a turn: half of a quarter's quarter -/
def qs (x : List UInt32) (a b d n : Nat) : List UInt32 :=
  let y := x.set a (g32 x a + g32 x b)
  y.set d (rl32 (g32 y d ^^^ g32 y a) n)
def qr (x : List UInt32) (a b c d : Nat) : List UInt32 := qs (qs (qs (qs x a b d 16) c d b 12) a b d 8) c d b 7
theorem qs_len (x : List UInt32) (a b d n : Nat) : (qs x a b d n).length = x.length := by unfold qs; simp
theorem qr_len (x : List UInt32) (a b c d : Nat) : (qr x a b c d).length = x.length := by unfold qr; simp [qs_len]
def colSt (x : List UInt32) : Nat → List UInt32
  | 0 => x
  | i + 1 => qr (colSt x i) i (4 + i) (8 + i) (12 + i)
def diaSt (x : List UInt32) : Nat → List UInt32
  | 0 => x
  | i + 1 => qr (diaSt x i) i (4 + (i + 1) % 4) (8 + (i + 2) % 4) (12 + (i + 3) % 4)
def rnds (x : List UInt32) : Nat → List UInt32
  | 0 => x
  | r + 1 => diaSt (colSt (rnds x r) 4) 4
theorem colSt_len (x : List UInt32) : ∀ i, (colSt x i).length = x.length
  | 0 => rfl
  | i + 1 => by simp only [colSt, qr_len]; exact colSt_len x i
theorem diaSt_len (x : List UInt32) : ∀ i, (diaSt x i).length = x.length
  | 0 => rfl
  | i + 1 => by simp only [diaSt, qr_len]; exact diaSt_len x i
theorem rnds_len (x : List UInt32) : ∀ r, (rnds x r).length = x.length
  | 0 => rfl
  | r + 1 => by simp only [rnds, diaSt_len, colSt_len]; exact rnds_len x r
/-- a block of what it began with -/
def outG (x : List UInt32) (i : Nat) : UInt8 := ((g32 x (i / 4) + g32 (rnds x 10) (i / 4)) >>> UInt32.ofNat (8 * (i % 4))).toUInt8
def outB (x : List UInt32) : List UInt8 := (List.range 64).map (outG x)
theorem outB_len (x : List UInt32) : (outB x).length = 64 := map_range_len _ _
def wd (s : List UInt8) (a : Nat) : UInt32 := (s.getD a 0).toUInt32 ||| (s.getD (a + 1) 0).toUInt32 <<< 8 ||| (s.getD (a + 2) 0).toUInt32 <<< 16 ||| (s.getD (a + 3) 0).toUInt32 <<< 24
def begG (key nonce : List UInt8) (n : UInt32) (i : Nat) : UInt32 :=
  if i = 0 then 1634760805 else if i = 1 then 857760878 else if i = 2 then 2036477234 else if i = 3 then 1797285236 else if i < 12 then wd key (4 * (i - 4)) else if i = 12 then n else wd nonce (4 * (i - 13))
def beg (key nonce : List UInt8) (n : UInt32) : List UInt32 := (List.range 16).map (begG key nonce n)
theorem beg_len (key nonce : List UInt8) (n : UInt32) : (beg key nonce n).length = 16 := map_range_len _ _
def blk (key nonce : List UInt8) (n : UInt32) : List UInt8 := outB (beg key nonce n)
theorem blk_len (key nonce : List UInt8) (n : UInt32) : (blk key nonce n).length = 64 := outB_len _
/-- a text under a key's stream -/
def strG (key nonce : List UInt8) (n : UInt32) (s : List UInt8) (i : Nat) : UInt8 := s.getD i 0 ^^^ (blk key nonce (n + UInt32.ofNat (i / 64))).getD (i % 64) 0
def strm (key nonce : List UInt8) (n : UInt32) (s : List UInt8) : List UInt8 := (List.range s.length).map (strG key nonce n s)
theorem strm_len (key nonce : List UInt8) (n : UInt32) (s : List UInt8) : (strm key nonce n s).length = s.length := map_range_len _ _
/-- the words that a block begins with, written one after the other -/
theorem beg_sets {key nonce : List UInt8} {n : UInt32} {x : List UInt32} (h : x.length = 16) (h0 : x.getD 0 0 = 1634760805) (h1 : x.getD 1 0 = 857760878) (h2 : x.getD 2 0 = 2036477234) (h3 : x.getD 3 0 = 1797285236) :
    ovr ((ovr x 4 (fun i => wd key (4 * i)) 8).set 12 n) 13 (fun i => wd nonce (4 * i)) 3 = beg key nonce n := by
  have l1 := ovr_len (l := x) (a := 4) (i := 8) (by omega) (fun i => wd key (4 * i))
  have l2 : ((ovr x 4 (fun i => wd key (4 * i)) 8).set 12 n).length = 16 := by rw [List.length_set, l1, h]
  have l3 := ovr_len (l := (ovr x 4 (fun i => wd key (4 * i)) 8).set 12 n) (a := 13) (i := 3) (by omega) (fun i => wd nonce (4 * i))
  unfold beg
  apply List.ext_getElem?
  intro j
  by_cases hj : j < 16
  · rw [List.getElem?_map, List.getElem?_range hj, Option.map_some, ovr_getElem (by omega), List.getElem?_set, ovr_getElem (by omega)]
    have g : ∀ k v, k < 16 → x.getD k 0 = v → x[k]? = some v := fun k v hk hv => by
      rw [List.getD_eq_getElem?_getD, List.getElem?_eq_getElem (by omega)] at hv
      rw [List.getElem?_eq_getElem (by omega)]
      exact congrArg some hv
    unfold begG
    by_cases a0 : j = 0
    · subst a0; rw [if_neg (by omega), if_neg (by omega), if_neg (by omega), if_pos rfl]; exact g 0 _ (by omega) h0
    by_cases a1 : j = 1
    · subst a1; rw [if_neg (by omega), if_neg (by omega), if_neg (by omega), if_neg (by omega), if_pos rfl]; exact g 1 _ (by omega) h1
    by_cases a2 : j = 2
    · subst a2; rw [if_neg (by omega), if_neg (by omega), if_neg (by omega), if_neg (by omega), if_neg (by omega), if_pos rfl]; exact g 2 _ (by omega) h2
    by_cases a3 : j = 3
    · subst a3; rw [if_neg (by omega), if_neg (by omega), if_neg (by omega), if_neg (by omega), if_neg (by omega), if_neg (by omega), if_pos rfl]; exact g 3 _ (by omega) h3
    rw [if_neg a0, if_neg a1, if_neg a2, if_neg a3]
    by_cases a4 : j < 12
    · rw [if_neg (by omega), if_neg (by omega), if_pos (by omega), if_pos a4]
    by_cases a5 : j = 12
    · subst a5; rw [if_neg (by omega), if_pos rfl, if_pos (by rw [l1]; omega), if_neg (by omega), if_pos rfl]
    · rw [if_pos (by omega), if_neg a4, if_neg a5]
  · rw [List.getElem?_eq_none (by omega), List.getElem?_eq_none (by simp; omega)]
end Go.Sym.Cha
namespace Go.Sym.Cha
open Go.Sym.Lp
def c0 : List UInt32 := 1634760805 :: 857760878 :: 2036477234 :: 1797285236 :: List.replicate 12 0
theorem c0_len : c0.length = 16 := rfl
theorem beg_c0 (key nonce : List UInt8) (n : UInt32) : ovr ((ovr c0 4 (fun i => wd key (4 * i)) 8).set 12 n) 13 (fun i => wd nonce (4 * i)) 3 = beg key nonce n := beg_sets rfl rfl rfl rfl rfl
theorem wd_drop (s : List UInt8) (a : Nat) : wd (s.drop a) 0 = wd s a := by
  have g : ∀ j, (s.drop a).getD j 0 = s.getD (a + j) 0 := fun j => by rw [List.getD_eq_getElem?_getD, List.getElem?_drop, List.getD_eq_getElem?_getD]
  unfold wd
  rw [g, g, g, g]; rfl
end Go.Sym.Cha
namespace Go.Sym.Cha
open Go.Sym.Lp
/-- so many bytes of a row under the stream -/
def strO (key nonce : List UInt8) (n : UInt32) (l : List UInt8) (k : Nat) : List UInt8 := ovr l 0 (strG key nonce n l) k
theorem strO_all {key nonce : List UInt8} {n : UInt32} {l : List UInt8} {k : Nat} (h : k ≤ l.length) : strO key nonce n l k = strm key nonce n (l.take k) ++ l.drop k := by
  unfold strO ovr strm
  rw [List.take_zero, List.nil_append, Nat.zero_add, List.length_take, Nat.min_eq_left h]
  congr 1
  refine map_range_congr fun i hi => ?_
  have e : (l.take k).getD i 0 = l.getD i 0 := by rw [List.getD_eq_getElem?_getD, List.getElem?_take_of_lt hi, ← List.getD_eq_getElem?_getD]
  unfold strG
  rw [e]
theorem u32_add (c : UInt32) (t : Nat) : c + UInt32.ofNat t + 1 = c + UInt32.ofNat (t + 1) := by
  rw [UInt32.add_assoc]; congr 1
  rw [UInt32.ofNat_add]; rfl
end Go.Sym.Cha
namespace Go.Sym.Cha
theorem low8 (x : UInt32) : (x &&& UInt32.ofNat 255).toUInt8 = x.toUInt8 := by
  apply UInt8.toNat_inj.1
  rw [UInt32.toNat_toUInt8, UInt32.toNat_toUInt8, UInt32.toNat_and, show (UInt32.ofNat 255).toNat = 2 ^ 8 - 1 by decide, Nat.and_two_pow_sub_one_eq_mod]
  omega
end Go.Sym.Cha

namespace Go.Sym.A
open Go Go.Proofs.Try Go.Sym.Lp Go.Sym.Cha
set_option maxRecDepth 100000
/-- the orders of the drawn regions of bits.RotateLeft32 -/
def pl119 : List (Nat × List PStep) := []
/-- the orders of the drawn regions of chacha.word -/
def pl99 : List (Nat × List PStep) := [(1, [⟨0, []⟩, ⟨1, []⟩, ⟨2, []⟩, ⟨3, [0, 1, 2]⟩, ⟨4, [0, 1, 2]⟩, ⟨5, [0, 1, 2]⟩, ⟨6, [0, 1, 2]⟩, ⟨7, []⟩, ⟨8, [0, 1, 2, 3, 4, 5, 6, 7]⟩, ⟨9, [0, 1, 2, 3, 4, 5, 6, 7]⟩, ⟨10, [0, 1, 2, 3, 4, 5, 6, 7]⟩, ⟨11, [0, 1, 2, 3, 4, 5, 6, 7]⟩, ⟨12, []⟩, ⟨13, [0, 1, 2, 3, 4, 5, 6, 7, 8, 9, 10, 11, 12]⟩, ⟨14, [0, 1, 2, 3, 4, 5, 6, 7, 8, 9, 10, 11, 12]⟩, ⟨15, [0, 1, 2, 3, 4, 5, 6, 7, 8, 9, 10, 11, 12]⟩, ⟨16, [0, 1, 2, 3, 4, 5, 6, 7, 8, 9, 10, 11, 12]⟩, ⟨17, []⟩, ⟨18, []⟩])]
/-- the orders of the drawn regions of chacha.begin -/
def pl73 : List (Nat × List PStep) := []
/-- the orders of the drawn regions of chacha.state.quarter -/
def pl100 : List (Nat × List PStep) := [(0, [⟨0, []⟩, ⟨1, [0]⟩, ⟨2, [1]⟩, ⟨3, []⟩, ⟨4, []⟩, ⟨5, [0, 1, 2, 3, 4]⟩, ⟨6, [0, 1, 2, 3, 4, 5]⟩, ⟨7, [0, 1, 2, 3, 4, 6]⟩, ⟨8, [0, 1, 2, 3, 4]⟩, ⟨9, [0, 1, 2, 3, 4]⟩, ⟨10, []⟩, ⟨11, [1, 2, 3, 4, 5, 6, 7, 8, 9, 10]⟩, ⟨12, []⟩, ⟨13, []⟩]), (1, [⟨0, []⟩, ⟨1, [0]⟩, ⟨2, [0, 1]⟩, ⟨3, [0, 1, 2]⟩, ⟨4, [0, 1, 3]⟩, ⟨5, [0, 1]⟩, ⟨6, [0, 1]⟩, ⟨7, [0, 1, 2, 3, 4, 5, 6]⟩, ⟨8, [0, 1, 2, 3, 4, 5, 6, 7]⟩, ⟨9, [0, 1, 2, 3, 4, 5, 6, 8]⟩, ⟨10, [0, 1, 2, 3, 4, 5, 6]⟩, ⟨11, [0, 1, 2, 3, 4, 5, 6]⟩, ⟨12, [0, 1]⟩, ⟨14, [1, 2, 3, 4, 5, 6, 7, 8, 9, 10, 11, 12]⟩, ⟨13, [0, 1, 14]⟩, ⟨15, []⟩, ⟨16, []⟩]), (2, [⟨0, []⟩, ⟨1, [0]⟩, ⟨2, [1]⟩, ⟨3, []⟩, ⟨4, []⟩, ⟨5, [0, 1, 2, 3, 4]⟩, ⟨6, [0, 1, 2, 3, 4, 5]⟩, ⟨7, [0, 1, 2, 3, 4, 6]⟩, ⟨8, [0, 1, 2, 3, 4]⟩, ⟨9, [0, 1, 2, 3, 4]⟩, ⟨10, []⟩, ⟨11, [1, 2, 3, 4, 5, 6, 7, 8, 9, 10]⟩, ⟨12, []⟩, ⟨13, []⟩]), (3, [⟨0, []⟩, ⟨1, [0]⟩, ⟨2, [0, 1]⟩, ⟨3, [0, 1, 2]⟩, ⟨4, [0, 1, 3]⟩, ⟨5, [0, 1]⟩, ⟨6, [0, 1]⟩, ⟨7, [0, 1, 2, 3, 4, 5, 6]⟩, ⟨8, [0, 1, 2, 3, 4, 5, 6, 7]⟩, ⟨9, [0, 1, 2, 3, 4, 5, 6, 8]⟩, ⟨10, [0, 1, 2, 3, 4, 5, 6]⟩, ⟨11, [0, 1, 2, 3, 4, 5, 6]⟩, ⟨12, [0, 1]⟩, ⟨14, [1, 2, 3, 4, 5, 6, 7, 8, 9, 10, 11, 12]⟩, ⟨13, [0, 1, 14]⟩, ⟨15, []⟩, ⟨16, []⟩]), (4, [⟨0, []⟩, ⟨1, [0]⟩, ⟨2, [1]⟩, ⟨3, []⟩, ⟨4, []⟩, ⟨5, [0, 1, 2, 3, 4]⟩, ⟨6, [0, 1, 2, 3, 4, 5]⟩, ⟨7, [0, 1, 2, 3, 4, 6]⟩, ⟨8, [0, 1, 2, 3, 4]⟩, ⟨9, [0, 1, 2, 3, 4]⟩, ⟨10, []⟩, ⟨11, [1, 2, 3, 4, 5, 6, 7, 8, 9, 10]⟩, ⟨12, []⟩, ⟨13, []⟩]), (5, [⟨0, []⟩, ⟨1, [0]⟩, ⟨2, [0, 1]⟩, ⟨3, [0, 1, 2]⟩, ⟨4, [0, 1, 3]⟩, ⟨5, [0, 1]⟩, ⟨6, [0, 1]⟩, ⟨7, [0, 1, 2, 3, 4, 5, 6]⟩, ⟨8, [0, 1, 2, 3, 4, 5, 6, 7]⟩, ⟨9, [0, 1, 2, 3, 4, 5, 6, 8]⟩, ⟨10, [0, 1, 2, 3, 4, 5, 6]⟩, ⟨11, [0, 1, 2, 3, 4, 5, 6]⟩, ⟨12, [0, 1]⟩, ⟨14, [1, 2, 3, 4, 5, 6, 7, 8, 9, 10, 11, 12]⟩, ⟨13, [0, 1, 14]⟩, ⟨15, []⟩, ⟨16, []⟩]), (6, [⟨0, []⟩, ⟨1, [0]⟩, ⟨2, [1]⟩, ⟨3, []⟩, ⟨4, []⟩, ⟨5, [0, 1, 2, 3, 4]⟩, ⟨6, [0, 1, 2, 3, 4, 5]⟩, ⟨7, [0, 1, 2, 3, 4, 6]⟩, ⟨8, [0, 1, 2, 3, 4]⟩, ⟨9, [0, 1, 2, 3, 4]⟩, ⟨10, []⟩, ⟨11, [1, 2, 3, 4, 5, 6, 7, 8, 9, 10]⟩, ⟨12, []⟩, ⟨13, []⟩]), (7, [⟨0, []⟩, ⟨1, [0]⟩, ⟨2, [0, 1]⟩, ⟨3, [0, 1, 2]⟩, ⟨4, [0, 1, 3]⟩, ⟨5, [0, 1]⟩, ⟨6, [0, 1]⟩, ⟨7, [0, 1, 2, 3, 4, 5, 6]⟩, ⟨8, [0, 1, 2, 3, 4, 5, 6, 7]⟩, ⟨9, [0, 1, 2, 3, 4, 5, 6, 8]⟩, ⟨10, [0, 1, 2, 3, 4, 5, 6]⟩, ⟨11, [0, 1, 2, 3, 4, 5, 6]⟩, ⟨12, [0, 1]⟩, ⟨14, [1, 2, 3, 4, 5, 6, 7, 8, 9, 10, 11, 12]⟩, ⟨13, [0, 1, 14]⟩, ⟨15, []⟩, ⟨16, []⟩])]
/-- the orders of the drawn regions of chacha.state.bytes -/
def pl74 : List (Nat × List PStep) := [(19, [⟨0, []⟩, ⟨1, [0]⟩, ⟨2, [0]⟩, ⟨3, [0]⟩, ⟨4, [0]⟩, ⟨5, [0, 1, 2, 3, 4]⟩, ⟨6, [0, 1, 2, 3, 4]⟩, ⟨7, [0, 1, 2, 3, 4]⟩, ⟨8, [0, 1, 2, 3, 4]⟩, ⟨9, [0]⟩, ⟨10, [0, 1, 2, 3, 4, 5, 6, 7, 8, 9]⟩, ⟨11, [0, 1, 2, 3, 4, 5, 6, 7, 8, 9]⟩, ⟨12, [0, 1, 2, 3, 4, 5, 6, 7, 8, 9]⟩, ⟨13, [0]⟩, ⟨14, [0]⟩, ⟨15, []⟩, ⟨16, []⟩])]
/-- the orders of the drawn regions of ref4.le -/
def pl111 : List (Nat × List PStep) := [(1, [⟨0, []⟩, ⟨1, [0]⟩, ⟨2, []⟩, ⟨3, []⟩, ⟨4, [0, 1, 2, 3]⟩, ⟨5, [0, 1, 2, 3, 4]⟩, ⟨6, [0, 1, 2, 3, 4]⟩, ⟨7, [0, 1, 2, 3]⟩, ⟨8, [0, 1, 2, 3]⟩, ⟨9, [0, 1, 2, 3]⟩, ⟨10, []⟩, ⟨11, [0, 1, 2, 3, 4, 5, 6, 7, 8, 9, 10]⟩, ⟨12, [0, 1, 2, 3, 4, 5, 6, 7, 8, 9, 10, 11]⟩, ⟨13, [0, 1, 2, 3, 4, 5, 6, 7, 8, 9, 10, 11]⟩, ⟨14, [0, 1, 2, 3, 4, 5, 6, 7, 8, 9, 10]⟩, ⟨15, [0, 1, 2, 3, 4, 5, 6, 7, 8, 9, 10]⟩, ⟨16, [0, 1, 2, 3, 4, 5, 6, 7, 8, 9, 10]⟩, ⟨17, []⟩, ⟨18, [0, 1, 2, 3, 4, 5, 6, 7, 8, 9, 10, 11, 12, 13, 14, 15, 16, 17]⟩, ⟨19, [0, 1, 2, 3, 4, 5, 6, 7, 8, 9, 10, 11, 12, 13, 14, 15, 16, 17, 18]⟩, ⟨20, [0, 1, 2, 3, 4, 5, 6, 7, 8, 9, 10, 11, 12, 13, 14, 15, 16, 17, 18]⟩, ⟨21, [0, 1, 2, 3, 4, 5, 6, 7, 8, 9, 10, 11, 12, 13, 14, 15, 16, 17]⟩, ⟨22, [0, 1, 2, 3, 4, 5, 6, 7, 8, 9, 10, 11, 12, 13, 14, 15, 16, 17]⟩, ⟨23, [0, 1, 2, 3, 4, 5, 6, 7, 8, 9, 10, 11, 12, 13, 14, 15, 16, 17]⟩, ⟨24, []⟩, ⟨25, []⟩])]
/-- the orders of the drawn regions of ref4.left -/
def pl125 : List (Nat × List PStep) := [(1, [⟨0, []⟩, ⟨1, [0]⟩, ⟨2, []⟩, ⟨3, [0, 1, 2]⟩, ⟨4, [0, 1, 2, 3]⟩, ⟨5, [0, 1, 2, 3]⟩, ⟨6, [0, 1, 2]⟩, ⟨7, []⟩, ⟨8, []⟩])]
/-- the orders of the drawn regions of ref4.quarter -/
def pl112 : List (Nat × List PStep) := [(1, [⟨0, []⟩, ⟨1, [0]⟩, ⟨2, [0]⟩, ⟨3, [0]⟩, ⟨4, [0, 1, 2, 3]⟩, ⟨5, [0, 1, 2, 3]⟩, ⟨6, [0, 1, 2, 3]⟩, ⟨7, [0]⟩, ⟨8, []⟩, ⟨9, []⟩]), (2, [⟨0, []⟩, ⟨1, [0]⟩, ⟨2, [0]⟩, ⟨3, [0]⟩, ⟨4, [0, 1, 2, 3]⟩, ⟨5, [0, 1, 2, 3]⟩, ⟨6, [0, 1, 2, 3]⟩, ⟨7, [0]⟩, ⟨8, [0]⟩, ⟨9, []⟩, ⟨10, []⟩]), (3, [⟨0, []⟩, ⟨1, [0]⟩, ⟨2, [0]⟩, ⟨3, [0]⟩, ⟨4, [0, 1, 2, 3]⟩, ⟨5, [0, 1, 2, 3]⟩, ⟨6, [0, 1, 2, 3]⟩, ⟨7, [0]⟩, ⟨8, []⟩, ⟨9, []⟩]), (4, [⟨0, []⟩, ⟨1, [0]⟩, ⟨2, [0]⟩, ⟨3, [0]⟩, ⟨4, [0, 1, 2, 3]⟩, ⟨5, [0, 1, 2, 3]⟩, ⟨6, [0, 1, 2, 3]⟩, ⟨7, [0]⟩, ⟨8, [0]⟩, ⟨9, []⟩, ⟨10, []⟩]), (5, [⟨0, []⟩, ⟨1, [0]⟩, ⟨2, [0]⟩, ⟨3, [0]⟩, ⟨4, [0, 1, 2, 3]⟩, ⟨5, [0, 1, 2, 3]⟩, ⟨6, [0, 1, 2, 3]⟩, ⟨7, [0]⟩, ⟨8, []⟩, ⟨9, []⟩]), (6, [⟨0, []⟩, ⟨1, [0]⟩, ⟨2, [0]⟩, ⟨3, [0]⟩, ⟨4, [0, 1, 2, 3]⟩, ⟨5, [0, 1, 2, 3]⟩, ⟨6, [0, 1, 2, 3]⟩, ⟨7, [0]⟩, ⟨8, [0]⟩, ⟨9, []⟩, ⟨10, []⟩]), (7, [⟨0, []⟩, ⟨1, [0]⟩, ⟨2, [0]⟩, ⟨3, [0]⟩, ⟨4, [0, 1, 2, 3]⟩, ⟨5, [0, 1, 2, 3]⟩, ⟨6, [0, 1, 2, 3]⟩, ⟨7, [0]⟩, ⟨8, []⟩, ⟨9, []⟩]), (8, [⟨0, []⟩, ⟨1, [0]⟩, ⟨2, [0]⟩, ⟨3, [0]⟩, ⟨4, [0, 1, 2, 3]⟩, ⟨5, [0, 1, 2, 3]⟩, ⟨6, [0, 1, 2, 3]⟩, ⟨7, [0]⟩, ⟨8, [0]⟩, ⟨9, []⟩, ⟨10, []⟩])]
def tyCha : List (Nat × TyI) := [(3, ty3), (4, ty4), (5, ty5), (9, ty9), (34, ty34), (35, ty35), (93, ty93), (118, ty118), (119, ty119), (120, ty120), (173, ty173)]
theorem tyCha_ok : ∀ t i, look tyCha t = some i → TyOK prog t i := (tyok_cons ty3_ok (tyok_cons ty4_ok (tyok_cons ty5_ok (tyok_cons ty9_ok (tyok_cons ty34_ok (tyok_cons ty35_ok (tyok_cons ty93_ok (tyok_cons ty118_ok (tyok_cons ty119_ok (tyok_cons ty120_ok (tyok_cons ty173_ok tyok_nil)))))))))))

theorem rot_s {k : Int} : (UInt64.ofInt k &&& UInt64.ofNat 31).toNat = (k % 32).toNat := by
  rw [UInt64.toNat_and, show (UInt64.ofNat 31).toNat = 2 ^ 5 - 1 by decide, Nat.and_two_pow_sub_one_eq_mod]
  have h : (UInt64.ofInt k).toNat = (k % 18446744073709551616).toNat := by
    unfold UInt64.ofInt
    rw [UInt64.toNat_ofNat']
    have := Int.emod_nonneg k (show (2 ^ 64 : Int) ≠ 0 by decide)
    have := Int.emod_lt_of_pos k (show (0 : Int) < 2 ^ 64 by decide)
    omega
  rw [h]
  omega
def rot32S : Spec := fun args hp K => match args, hp with
  | [.u32 x, .int k], [] => Pre (k % 32 ≠ 0) (K (.u32 (rl32 x (k % 32).toNat)) [])
  | _, _ => False
theorem rot32_s : SoundC prog 119 rot32S := by
  refine sound_f tyCha_ok fnok_nil rfl func119 rfl call119 (D := pl119) ?_ ?_
  · intro args hp K h
    unfold rot32S at h
    split at h
    · exact Nat.le_of_ble_eq_true rfl
    · exact h.elim
  · intro args hp K h
    unfold rot32S at h
    split at h
    · rename_i x k
      obtain ⟨hk, h⟩ := pre_e h
      have hs := rot_s (k := k)
      have hm := Int.emod_lt_of_pos k (show (0 : Int) < 32 by decide)
      have hm0 := Int.emod_nonneg k (show (32 : Int) ≠ 0 by decide)
      have hd : (UInt64.ofNat 32 - (UInt64.ofInt k &&& UInt64.ofNat 31)).toNat = 32 - (k % 32).toNat := by
        rw [UInt64.toNat_sub_of_le _ _ (by rw [UInt64.le_iff_toNat_le, hs]; show _ ≤ 32; omega), hs]; rfl
      repeat ((conv => whnf); first | refine pre_a ?_ | refine cond_ta ?_ | refine cond_fa ?_ | refine same_i ?_)
      conv => whnf
      rw [hs, hd]
      conv => whnf
      refine final_h (hp' := []) [] h ?_
      repeat ((conv => whnf); refine same_i ?_)
      exact trivial
    · exact h.elim
def wordS : Spec := fun args hp K => match args, hp with
  | [.str s], [] => Pre (4 ≤ s.length) (K (.u32 (wd s 0)) [])
  | _, _ => False
theorem word_s : SoundC prog 99 wordS := by
  refine sound_f tyCha_ok fnok_nil rfl func99 rfl call99 (D := pl99) ?_ ?_
  · intro args hp K h
    unfold wordS at h
    split at h
    · exact Nat.le_of_ble_eq_true rfl
    · exact h.elim
  · intro args hp K h
    unfold wordS at h
    split at h
    · rename_i s
      obtain ⟨hs, h⟩ := pre_e h
      repeat ((conv => whnf); first | refine pre_a ?_ | refine cond_ta ?_ | refine cond_fa ?_ | refine same_i ?_)
      conv => whnf
      refine final_h (hp' := []) [] h ?_
      repeat ((conv => whnf); refine same_i ?_)
      exact trivial
    · exact h.elim
def leS : Spec := fun args hp K => match args, hp with
  | [.str s, .int a], [] => Pre (0 ≤ a ∧ a + 4 ≤ s.length ∧ s.length ≤ 9223372036854775807) (K (.u32 (wd s a.toNat)) [])
  | _, _ => False
theorem le_s : SoundC prog 111 leS := by
  refine sound_f tyCha_ok fnok_nil rfl func111 rfl call111 (D := pl111) ?_ ?_
  · intro args hp K h
    unfold leS at h
    split at h
    · exact Nat.le_of_ble_eq_true rfl
    · exact h.elim
  · intro args hp K h
    unfold leS at h
    split at h
    · rename_i s a
      obtain ⟨⟨ha, hs, hs2⟩, h⟩ := pre_e h
      have e1 : (a + 1).toNat = a.toNat + 1 := by omega
      have e2 : (a + 2).toNat = a.toNat + 2 := by omega
      have e3 : (a + 3).toNat = a.toNat + 3 := by omega
      repeat ((conv => whnf); first | refine pre_a ?_ | refine cond_ta ?_ | refine cond_fa ?_ | refine same_i ?_)
      conv => whnf
      rw [e1, e2, e3]
      conv => whnf
      refine final_h (hp' := []) [] h ?_
      repeat ((conv => whnf); refine same_i ?_)
      exact trivial
    · exact h.elim
def leftS : Spec := fun args hp K => match args, hp with
  | [.u32 x, .int k], [] => Pre (0 < k ∧ k < 32) (K (.u32 (rl32 x k.toNat)) [])
  | _, _ => False
theorem left_s : SoundC prog 125 leftS := by
  refine sound_f tyCha_ok fnok_nil rfl func125 rfl call125 (D := pl125) ?_ ?_
  · intro args hp K h
    unfold leftS at h
    split at h
    · exact Nat.le_of_ble_eq_true rfl
    · exact h.elim
  · intro args hp K h
    unfold leftS at h
    split at h
    · rename_i x k
      obtain ⟨hk, h⟩ := pre_e h
      have e1 : (32 - k).toNat = 32 - k.toNat := by omega
      repeat ((conv => whnf); first | refine pre_a ?_ | refine cond_ta ?_ | refine cond_fa ?_ | refine same_i ?_)
      conv => whnf
      rw [e1]
      conv => whnf
      refine final_h (hp' := []) [] h ?_
      repeat ((conv => whnf); refine same_i ?_)
      exact trivial
    · exact h.elim
def quarterS : Spec := fun args hp K => match args, hp with
  | [.ptr 0 0 0 [], .int a, .int b, .int c, .int d], [.mk t [.arr32 16 x]] => Pre (x.length = 16 ∧ (0 ≤ a ∧ a < 16) ∧ (0 ≤ b ∧ b < 16) ∧ (0 ≤ c ∧ c < 16) ∧ (0 ≤ d ∧ d < 16)) (K (.tup []) [.mk t [.arr32 16 (qr x a.toNat b.toNat c.toNat d.toNat)]])
  | _, _ => False
theorem quarter_s : SoundC prog 100 quarterS := by
  refine sound_f tyCha_ok (fnok_cons rot32_s fnok_nil) rfl func100 rfl call100 (D := pl100) ?_ ?_
  · intro args hp K h
    unfold quarterS at h
    split at h
    · exact Nat.le_of_ble_eq_true rfl
    · exact h.elim
  · intro args hp K h
    unfold quarterS at h
    split at h
    · rename_i a b c d t x
      obtain ⟨⟨hx, ha, hb, hc, hd⟩, h⟩ := pre_e h
      repeat ((conv => whnf); first | refine pre_a ?_ | refine cond_ta ?_ | refine cond_fa ?_ | refine same_i ?_)
      conv => whnf
      refine final_h (hp' := [.mk t [.arr32 16 (qr x a.toNat b.toNat c.toNat d.toNat)]]) [0] h ?_
      repeat ((conv => whnf); refine same_i ?_)
      exact trivial
    · exact h.elim
def rquarterS : Spec := fun args hp K => match args, hp with
  | [.arr32 16 x, .int a, .int b, .int c, .int d], [] => Pre (x.length = 16 ∧ (0 ≤ a ∧ a < 16) ∧ (0 ≤ b ∧ b < 16) ∧ (0 ≤ c ∧ c < 16) ∧ (0 ≤ d ∧ d < 16)) (K (.arr32 16 (qr x a.toNat b.toNat c.toNat d.toNat)) [])
  | _, _ => False
theorem rquarter_s : SoundC prog 112 rquarterS := by
  refine sound_f tyCha_ok (fnok_cons left_s fnok_nil) rfl func112 rfl call112 (D := pl112) ?_ ?_
  · intro args hp K h
    unfold rquarterS at h
    split at h
    · exact Nat.le_of_ble_eq_true rfl
    · exact h.elim
  · intro args hp K h
    unfold rquarterS at h
    split at h
    · rename_i x a b c d
      obtain ⟨⟨hx, ha, hb, hc, hd⟩, h⟩ := pre_e h
      repeat ((conv => whnf); first | refine pre_a ?_ | refine cond_ta ?_ | refine cond_fa ?_ | refine same_i ?_)
      conv => whnf
      refine final_h (hp' := []) [] h ?_
      repeat ((conv => whnf); refine same_i ?_)
      exact trivial
    · exact h.elim
def beginS : Spec := fun args hp K => match args, hp with
  | [.str key, .str nonce, .u32 n], [] => Pre (key.length = 32 ∧ nonce.length = 12) (K (.arr32 16 (beg key nonce n)) [])
  | _, _ => False
attribute [local irreducible] qr wd rl32
theorem begin_s : SoundC prog 73 beginS := by
  refine sound_f tyCha_ok (fnok_cons word_s fnok_nil) rfl func73 rfl call73 (D := pl73) ?_ ?_
  · intro args hp K h
    unfold beginS at h
    split at h
    · exact Nat.le_of_ble_eq_true rfl
    · exact h.elim
  · intro args hp K h
    unfold beginS at h
    split at h
    · rename_i key nonce n
      obtain ⟨⟨hk, hn⟩, h⟩ := pre_e h
      repeat ((conv => whnf); first | refine pre_a ?_ | refine cond_ta ?_ | refine cond_fa ?_ | refine same_i ?_)
      conv => whnf
      refine loop_h (Ix (8)) (fun q => ⟨[(0, .str key), (1, .str nonce), (2, .u32 n), (6, .ptr 0 0 0 []), (7, .ptr 1 0 0 []), (11, .int q.i)], [.mk 120 [.arr32 16 (List.replicate 16 0)], .mk 120 [.arr32 16 (ovr c0 4 (fun i => wd key (4 * i)) q.i)]]⟩) (fun q => (8) - q.i) ⟨0, Nat.zero_le _⟩ [0, 1] ?_ ?_
      · repeat ((conv => whnf); refine same_i ?_)
        exact trivial
      · intro q
        have hi := q.hi
        have hI : ((4 : Int) + (q.i : Int)).toNat = 4 + q.i := by omega
        have hl0 := c0_len
        have hlo := ovr_len (l := c0) (a := 4) (i := q.i) (by omega) (fun i => wd key (4 * i))
        by_cases h4 : q.i < 8
        · repeat ((conv => whnf); first | refine pre_a ?_ | refine cond_ta ?_ | refine cond_fa ?_ | refine same_i ?_)
          conv => whnf
          refine ⟨⟨q.i + 1, h4⟩, [0, 1], by show (8) - (q.i + 1) < (8) - q.i; omega, ?_⟩
          repeat ((conv => whnf); refine same_i ?_)
          conv => whnf
          refine same_q (congrArg (fun x => SV.agg [SV.arr32 16 x]) (ovr_step (by omega) ?hv ?hkk)) ?_
          case hkk => show ((4 : Int) + (q.i : Int)).toNat = 4 + q.i; omega
          case hv =>
            show wd (List.drop (4 * (q.i : Int)).toNat key) 0 = _
            rw [show (4 * (q.i : Int)).toNat = 4 * q.i by omega, wd_drop]
          repeat ((conv => whnf); refine same_i ?_)
          exact trivial
        · have e4 : q.i = 8 := by omega
          rw [e4] at hlo
          rw [e4]
          have hl2 : ((ovr c0 4 (fun i => wd key (4 * i)) 8).set 12 n).length = 16 := by rw [List.length_set, hlo]; rfl
          repeat ((conv => whnf); first | refine pre_a ?_ | refine cond_ta ?_ | refine cond_fa ?_ | refine same_i ?_)
          conv => whnf
          refine loop_h (Ix (3)) (fun r => ⟨[(0, .str key), (1, .str nonce), (2, .u32 n), (6, .ptr 0 0 0 []), (7, .ptr 1 0 0 []), (25, .int r.i)], [.mk 120 [.arr32 16 (List.replicate 16 0)], .mk 120 [.arr32 16 (ovr ((ovr c0 4 (fun i => wd key (4 * i)) 8).set 12 n) 13 (fun i => wd nonce (4 * i)) r.i)]]⟩) (fun r => (3) - r.i) ⟨0, Nat.zero_le _⟩ [0, 1] ?_ ?_
          · repeat ((conv => whnf); refine same_i ?_)
            exact trivial
          · intro r
            have hri := r.hi
            have hlr := ovr_len (l := (ovr c0 4 (fun i => wd key (4 * i)) 8).set 12 n) (a := 13) (i := r.i) (by omega) (fun i => wd nonce (4 * i))
            by_cases h5 : r.i < 3
            · repeat ((conv => whnf); first | refine pre_a ?_ | refine cond_ta ?_ | refine cond_fa ?_ | refine same_i ?_)
              conv => whnf
              refine ⟨⟨r.i + 1, h5⟩, [0, 1], by show (3) - (r.i + 1) < (3) - r.i; omega, ?_⟩
              repeat ((conv => whnf); refine same_i ?_)
              conv => whnf
              refine same_q (congrArg (fun x => SV.agg [SV.arr32 16 x]) (ovr_step (by omega) ?hv ?hkk)) ?_
              case hkk => show ((13 : Int) + (r.i : Int)).toNat = 13 + r.i; omega
              case hv =>
                show wd (List.drop (4 * (r.i : Int)).toNat nonce) 0 = _
                rw [show (4 * (r.i : Int)).toNat = 4 * r.i by omega, wd_drop]
              repeat ((conv => whnf); refine same_i ?_)
              exact trivial
            · have e5 : r.i = 3 := by omega
              rw [e5, beg_c0]
              repeat ((conv => whnf); first | refine pre_a ?_ | refine cond_ta ?_ | refine cond_fa ?_ | refine same_i ?_)
              conv => whnf
              refine final_h (hp' := []) [] h ?_
              repeat ((conv => whnf); refine same_i ?_)
              exact trivial
    · exact h.elim
def bytesS : Spec := fun args hp K => match args, hp with
  | [.arr32 16 x], [] => Pre (x.length = 16) (K (.arr8 64 (outB x)) [])
  | _, _ => False
theorem bytes_s : SoundC prog 74 bytesS := by
  refine sound_f tyCha_ok (fnok_cons quarter_s fnok_nil) rfl func74 rfl call74 (D := pl74) ?_ ?_
  · intro args hp K h
    unfold bytesS at h
    split at h
    · exact Nat.le_of_ble_eq_true rfl
    · exact h.elim
  · intro args hp K h
    unfold bytesS at h
    split at h
    · rename_i x
      obtain ⟨hx, h⟩ := pre_e h
      repeat ((conv => whnf); first | refine pre_a ?_ | refine cond_ta ?_ | refine cond_fa ?_ | refine same_i ?_)
      conv => whnf
      refine loop_h (Ix (10)) (fun q => ⟨[(0, .arr32 16 x), (1, .ptr 0 0 0 []), (2, .ptr 1 0 0 []), (3, .ptr 2 0 0 []), (9, .int q.i)], [.mk 120 [.arr32 16 x], .mk 118 [.arr8 64 (List.replicate 64 0)], .mk 120 [.arr32 16 (rnds x q.i)]]⟩) (fun q => (10) - q.i) ⟨0, Nat.zero_le _⟩ [0, 1, 2] ?_ ?_
      · repeat ((conv => whnf); refine same_i ?_)
        exact trivial
      · intro q
        have hi := q.hi
        have hX := rnds_len x q.i
        by_cases h4 : q.i < 10
        · repeat ((conv => whnf); first | refine pre_a ?_ | refine cond_ta ?_ | refine cond_fa ?_ | refine same_i ?_)
          conv => whnf
          generalize hXe : rnds x q.i = X at *
          refine loop_h (Ix (4)) (fun r => ⟨[(0, .arr32 16 x), (1, .ptr 0 0 0 []), (2, .ptr 1 0 0 []), (3, .ptr 2 0 0 []), (9, .int q.i), (11, .int r.i)], [.mk 120 [.arr32 16 x], .mk 118 [.arr8 64 (List.replicate 64 0)], .mk 120 [.arr32 16 (colSt X r.i)]]⟩) (fun r => (4) - r.i) ⟨0, Nat.zero_le _⟩ [0, 1, 2] ?_ ?_
          · repeat ((conv => whnf); refine same_i ?_)
            exact trivial
          · intro r
            have hri := r.hi
            have hc := colSt_len X r.i
            by_cases h5 : r.i < 4
            · have e0 : ((r.i : Int)).toNat = r.i := Int.toNat_natCast _
              have e1 : ((4 : Int) + (r.i : Int)).toNat = 4 + r.i := by omega
              have e2 : ((8 : Int) + (r.i : Int)).toNat = 8 + r.i := by omega
              have e3 : ((12 : Int) + (r.i : Int)).toNat = 12 + r.i := by omega
              have hp5 : (colSt X r.i).length = 16 ∧ (0 ≤ (r.i : Int) ∧ (r.i : Int) < 16) ∧ (0 ≤ (4 : Int) + (r.i : Int) ∧ (4 : Int) + (r.i : Int) < 16) ∧ (0 ≤ (8 : Int) + (r.i : Int) ∧ (8 : Int) + (r.i : Int) < 16) ∧ (0 ≤ (12 : Int) + (r.i : Int) ∧ (12 : Int) + (r.i : Int) < 16) := ⟨by omega, by omega, by omega, by omega, by omega⟩
              repeat ((conv => whnf); first | refine pre_a ?_ | refine cond_ta ?_ | refine cond_fa ?_ | refine same_i ?_)
              conv => whnf
              rw [e0, e1, e2, e3]
              conv => whnf
              refine ⟨⟨r.i + 1, h5⟩, [0, 1, 2], by show (4) - (r.i + 1) < (4) - r.i; omega, ?_⟩
              repeat ((conv => whnf); refine same_i ?_)
              exact trivial
            · have e5 : r.i = 4 := by omega
              rw [e5] at hc
              rw [e5]
              generalize hYe : colSt X 4 = Y at *
              repeat ((conv => whnf); first | refine pre_a ?_ | refine cond_ta ?_ | refine cond_fa ?_ | refine same_i ?_)
              conv => whnf
              refine loop_h (Ix (4)) (fun u => ⟨[(0, .arr32 16 x), (1, .ptr 0 0 0 []), (2, .ptr 1 0 0 []), (3, .ptr 2 0 0 []), (9, .int q.i), (23, .int u.i)], [.mk 120 [.arr32 16 x], .mk 118 [.arr8 64 (List.replicate 64 0)], .mk 120 [.arr32 16 (diaSt Y u.i)]]⟩) (fun u => (4) - u.i) ⟨0, Nat.zero_le _⟩ [0, 1, 2] ?_ ?_
              · repeat ((conv => whnf); refine same_i ?_)
                exact trivial
              · intro u
                have hui := u.hi
                have hd := diaSt_len Y u.i
                by_cases h6 : u.i < 4
                · have e0 : ((u.i : Int)).toNat = u.i := Int.toNat_natCast _
                  have e1 : ((4 : Int) + ((u.i : Int) + 1).tmod 4).toNat = 4 + (u.i + 1) % 4 := by rw [Int.tmod_eq_emod_of_nonneg (by omega)]; omega
                  have e2 : ((8 : Int) + ((u.i : Int) + 2).tmod 4).toNat = 8 + (u.i + 2) % 4 := by rw [Int.tmod_eq_emod_of_nonneg (by omega)]; omega
                  have e3 : ((12 : Int) + ((u.i : Int) + 3).tmod 4).toNat = 12 + (u.i + 3) % 4 := by rw [Int.tmod_eq_emod_of_nonneg (by omega)]; omega
                  have n1 := Int.tmod_nonneg (a := (u.i : Int) + 1) 4 (by omega)
                  have n2 := Int.tmod_nonneg (a := (u.i : Int) + 2) 4 (by omega)
                  have n3 := Int.tmod_nonneg (a := (u.i : Int) + 3) 4 (by omega)
                  have hp5 : (diaSt Y u.i).length = 16 ∧ (0 ≤ (u.i : Int) ∧ (u.i : Int) < 16) ∧ (0 ≤ (4 : Int) + ((u.i : Int) + 1).tmod 4 ∧ (4 : Int) + ((u.i : Int) + 1).tmod 4 < 16) ∧ (0 ≤ (8 : Int) + ((u.i : Int) + 2).tmod 4 ∧ (8 : Int) + ((u.i : Int) + 2).tmod 4 < 16) ∧ (0 ≤ (12 : Int) + ((u.i : Int) + 3).tmod 4 ∧ (12 : Int) + ((u.i : Int) + 3).tmod 4 < 16) := ⟨by omega, by omega, by omega, by omega, by omega⟩
                  repeat ((conv => whnf); first | refine pre_a ?_ | refine cond_ta ?_ | refine cond_fa ?_ | refine same_i ?_)
                  conv => whnf
                  rw [e0, e1, e2, e3]
                  conv => whnf
                  refine ⟨⟨u.i + 1, h6⟩, [0, 1, 2], by show (4) - (u.i + 1) < (4) - u.i; omega, ?_⟩
                  repeat ((conv => whnf); refine same_i ?_)
                  exact trivial
                · have e6 : u.i = 4 := by omega
                  rw [e6, show diaSt Y 4 = rnds x (q.i + 1) by rw [← hYe, ← hXe]; rfl]
                  repeat ((conv => whnf); first | refine pre_a ?_ | refine cond_ta ?_ | refine cond_fa ?_ | refine same_i ?_)
                  conv => whnf
                  refine ⟨⟨q.i + 1, h4⟩, [0, 1, 2], by show (10) - (q.i + 1) < (10) - q.i; omega, ?_⟩
                  repeat ((conv => whnf); refine same_i ?_)
                  exact trivial
        · have e4 : q.i = 10 := by omega
          rw [e4] at hX
          rw [e4]
          repeat ((conv => whnf); first | refine pre_a ?_ | refine cond_ta ?_ | refine cond_fa ?_ | refine same_i ?_)
          conv => whnf
          refine loop_h (Ix (64)) (fun u => ⟨[(0, .arr32 16 x), (1, .ptr 0 0 0 []), (2, .ptr 1 0 0 []), (3, .ptr 2 0 0 []), (6, .ptr 3 0 0 []), (42, .int u.i)], [.mk 120 [.arr32 16 x], .mk 118 [.arr8 64 (List.replicate 64 0)], .mk 120 [.arr32 16 (rnds x 10)], .mk 118 [.arr8 64 (ovr (List.replicate 64 0) 0 (outG x) u.i)]]⟩) (fun u => (64) - u.i) ⟨0, Nat.zero_le _⟩ [0, 1, 2, 3] ?_ ?_
          · repeat ((conv => whnf); refine same_i ?_)
            exact trivial
          · intro u
            have hui := u.hi
            have hd4 : (u.i : Int).tdiv 4 = ((u.i / 4 : Nat) : Int) := by rw [Int.tdiv_eq_ediv_of_nonneg (by omega)]; omega
            have hm4 : (u.i : Int).tmod 4 = ((u.i % 4 : Nat) : Int) := by rw [Int.tmod_eq_emod_of_nonneg (by omega)]; omega
            have hpd : (4 : Int) ≠ 0 ∧ fits ((u.i : Int).tdiv 4) := ⟨by decide, by unfold fits; omega⟩
            have hlo := ovr_len (l := List.replicate 64 (0 : UInt8)) (a := 0) (i := u.i) (by rw [List.length_replicate]; omega) (outG x)
            rw [List.length_replicate] at hlo
            by_cases h6 : u.i < 64
            · repeat ((conv => whnf); first | refine pre_a ?_ | refine cond_ta ?_ | refine cond_fa ?_ | refine same_i ?_)
              conv => whnf
              refine ⟨⟨u.i + 1, h6⟩, [0, 1, 2, 3], by show (64) - (u.i + 1) < (64) - u.i; omega, ?_⟩
              repeat ((conv => whnf); refine same_i ?_)
              conv => whnf
              refine same_q (congrArg (fun x => SV.agg [SV.arr8 64 x]) (ovr_step (by rw [List.length_replicate]; omega) ?hv ?hkk)) ?_
              case hkk => show ((u.i : Int)).toNat = 0 + u.i; omega
              case hv =>
                show ((g32 x ((u.i : Int).tdiv 4).toNat + g32 (rnds x 10) ((u.i : Int).tdiv 4).toNat) >>> UInt32.ofNat (8 * (u.i : Int).tmod 4).toNat).toUInt8 = _
                rw [hd4, hm4, Int.toNat_natCast, show (8 * ((u.i % 4 : Nat) : Int)).toNat = 8 * (u.i % 4) by omega]; rfl
              repeat ((conv => whnf); refine same_i ?_)
              exact trivial
            · have e6 : u.i = 64 := by omega
              rw [e6, ovr_fin (List.length_replicate)]
              repeat ((conv => whnf); first | refine pre_a ?_ | refine cond_ta ?_ | refine cond_fa ?_ | refine same_i ?_)
              conv => whnf
              refine final_h (hp' := []) [] h ?_
              repeat ((conv => whnf); refine same_i ?_)
              exact trivial
    · exact h.elim
end Go.Sym.A

namespace Go.Sym.A
open Go Go.Proofs.Try Go.Sym.Lp Go.Sym.Cha
set_option maxRecDepth 100000
attribute [local irreducible] blk beg outB
/-- the orders of the drawn regions of chacha.may -/
def pl101 : List (Nat × List PStep) := []
/-- the orders of the drawn regions of chacha.Block -/
def pl75 : List (Nat × List PStep) := []
/-- the orders of the drawn regions of chacha.XorIn -/
def pl50 : List (Nat × List PStep) := [(8, [⟨0, []⟩, ⟨1, [0]⟩, ⟨2, []⟩, ⟨3, []⟩, ⟨4, [0, 1, 2, 3]⟩, ⟨5, [0, 1, 2, 3]⟩, ⟨6, [0, 1, 2, 3]⟩, ⟨7, []⟩, ⟨8, []⟩, ⟨9, []⟩])]

def chaMayS : Spec := fun args hp K => match args, hp with
  | [.str key, .int c, .str nonce], [] => K (.bool (decide (key.length = 32 ∧ (0 ≤ c ∧ c ≤ 4294967295) ∧ nonce.length = 12))) []
  | _, _ => False
theorem chaMay_s : SoundC prog 101 chaMayS := by
  refine sound_f tyCha_ok fnok_nil rfl func101 rfl call101 (D := pl101) ?_ ?_
  · intro args hp K h
    unfold chaMayS at h
    split at h
    · exact Nat.le_of_ble_eq_true rfl
    · exact h.elim
  · intro args hp K h
    unfold chaMayS at h
    split at h
    · rename_i key c nonce
      by_cases h1 : key.length = 32
      · by_cases h2 : 0 ≤ c
        · by_cases h3 : c ≤ 4294967295
          · by_cases h4 : nonce.length = 12
            · rw [decide_eq_true ⟨h1, ⟨h2, h3⟩, h4⟩] at h
              have d4 : decide ((nonce.length : Int) = 12) = true := decide_eq_true (by omega)
              repeat ((conv => whnf); first | refine pre_a ?_ | refine cond_ta ?_ | refine cond_fa ?_ | refine same_i ?_)
              conv => whnf
              rw [d4]
              conv => whnf
              refine final_h (hp' := []) [] h ?_
              repeat ((conv => whnf); refine same_i ?_)
              exact trivial
            · rw [decide_eq_false fun hh => h4 hh.2.2] at h
              have d4 : decide ((nonce.length : Int) = 12) = false := decide_eq_false (by omega)
              repeat ((conv => whnf); first | refine pre_a ?_ | refine cond_ta ?_ | refine cond_fa ?_ | refine same_i ?_)
              conv => whnf
              rw [d4]
              conv => whnf
              refine final_h (hp' := []) [] h ?_
              repeat ((conv => whnf); refine same_i ?_)
              exact trivial
          · rw [decide_eq_false fun hh => h3 hh.2.1.2] at h
            repeat ((conv => whnf); first | refine pre_a ?_ | refine cond_ta ?_ | refine cond_fa ?_ | refine same_i ?_)
            conv => whnf
            refine final_h (hp' := []) [] h ?_
            repeat ((conv => whnf); refine same_i ?_)
            exact trivial
        · rw [decide_eq_false fun hh => h2 hh.2.1.1] at h
          repeat ((conv => whnf); first | refine pre_a ?_ | refine cond_ta ?_ | refine cond_fa ?_ | refine same_i ?_)
          conv => whnf
          refine final_h (hp' := []) [] h ?_
          repeat ((conv => whnf); refine same_i ?_)
          exact trivial
      · rw [decide_eq_false fun hh => h1 hh.1] at h
        repeat ((conv => whnf); first | refine pre_a ?_ | refine cond_ta ?_ | refine cond_fa ?_ | refine same_i ?_)
        conv => whnf
        refine final_h (hp' := []) [] h ?_
        repeat ((conv => whnf); refine same_i ?_)
        exact trivial
    · exact h.elim
def chaBlockS : Spec := fun args hp K => match args, hp with
  | [.str key, .int c, .str nonce], [] => Pre (key.length = 32 ∧ (0 ≤ c ∧ c ≤ 4294967295) ∧ nonce.length = 12) (K (.tup [.str (blk key nonce (UInt32.ofInt c)), .int 0]) [])
  | _, _ => False
theorem chaBlock_s : SoundC prog 75 chaBlockS := by
  refine sound_f tyCha_ok (fnok_cons chaMay_s (fnok_cons begin_s (fnok_cons bytes_s fnok_nil))) rfl func75 rfl call75 (D := pl75) ?_ ?_
  · intro args hp K h
    unfold chaBlockS at h
    split at h
    · exact Nat.le_of_ble_eq_true rfl
    · exact h.elim
  · intro args hp K h
    unfold chaBlockS at h
    split at h
    · rename_i key c nonce
      obtain ⟨hp0, h⟩ := pre_e h
      have hd := decide_eq_true hp0
      have hl := beg_len key nonce (UInt32.ofInt c)
      have hk : key.length = 32 ∧ nonce.length = 12 := ⟨hp0.1, hp0.2.2⟩
      have hb := blk_len key nonce (UInt32.ofInt c)
      have e : List.take 64 (List.drop (off []) (outB (beg key nonce (UInt32.ofInt c)))) = blk key nonce (UInt32.ofInt c) := by
        unfold blk; exact List.take_of_length_le (Nat.le_of_eq (outB_len _))
      have hb2 := outB_len (beg key nonce (UInt32.ofInt c))
      repeat ((conv => whnf); first | refine pre_a ?_ | refine cond_ta ?_ | refine cond_fa ?_ | refine same_i ?_ | refine pre_i (by first | exact hd | (rw [hd]; rfl)) ?_ | refine cond_t (by first | exact hd | (rw [hd]; rfl)) ?_ | refine cond_f (by first | exact hd | (rw [hd]; rfl)) ?_)
      conv => whnf
      rw [e]
      conv => whnf
      refine final_h (hp' := []) [] h ?_
      repeat ((conv => whnf); refine same_i ?_)
      exact trivial
    · exact h.elim
structure Xs (n : Nat) where
  t : Nat
  x : Nat
  k : Nat
  c : Nat
  hn : k + 64 * t = n ∨ (k = 0 ∧ n ≤ 64 * t)
  hx : 0 < k → x = 64 * t
  hc : k ≤ c
def xorInS : Spec := fun args hp K => match args, hp with
  | [.str key, .int c, .str nonce, .sl 0 0 0 [] n cap], [.mk t [.arr8 m l]] => Pre (key.length = 32 ∧ nonce.length = 12 ∧ n ≤ l.length ∧ n ≤ cap ∧ n ≤ 9223372036854775807)
      (K (.tup []) [.mk t [.arr8 m (strm key nonce (UInt32.ofInt c) (l.take n) ++ l.drop n)]])
  | _, _ => False
theorem xorIn_s : SoundC prog 50 xorInS := by
  refine sound_f tyCha_ok (fnok_cons begin_s (fnok_cons bytes_s fnok_nil)) rfl func50 rfl call50 (D := pl50) ?_ ?_
  · intro args hp K h
    unfold xorInS at h
    split at h
    · exact Nat.le_of_ble_eq_true rfl
    · exact h.elim
  · intro args hp K h
    unfold xorInS at h
    split at h
    · rename_i key c nonce n cap t m l
      obtain ⟨⟨hk, hn, hl, hcap, hmax⟩, h⟩ := pre_e h
      rw [← strO_all hl] at h
      have hkn : key.length = 32 ∧ nonce.length = 12 := ⟨hk, hn⟩
      repeat ((conv => whnf); first | refine pre_a ?_ | refine cond_ta ?_ | refine cond_fa ?_ | refine same_i ?_)
      conv => whnf
      refine loop_h (Option (Xs n)) (fun q => match q with
        | none => ⟨[(0, .str key), (1, .int c), (2, .str nonce), (3, .sl 0 0 0 [] n cap), (8, .u32 (UInt32.ofInt c))], [.mk t [.arr8 m l]]⟩
        | some s => ⟨[(0, .str key), (1, .int c), (2, .str nonce), (3, .sl 0 0 0 [(s.x, 1)] s.k s.c), (8, .u32 (UInt32.ofInt c + UInt32.ofNat s.t))], [.mk t [.arr8 m (strO key nonce (UInt32.ofInt c) l (n - s.k))]]⟩)
        (fun q => match q with | none => n + 1 | some s => s.k) none [0] ?_ ?_
      · repeat ((conv => whnf); refine same_i ?_)
        exact trivial
      · intro q
        cases q with
        | none =>
          by_cases h4 : 0 < n
          · have hD : 64 * 0 = 0 := rfl
            have hct : UInt32.ofInt c + UInt32.ofNat 0 = UInt32.ofInt c := UInt32.add_zero _
            have hbg := beg_len key nonce (UInt32.ofInt c)
            have hmn : (min (n : Int) 64).toNat = min n 64 := by omega
            repeat ((conv => whnf); first | refine pre_a ?_ | refine cond_ta ?_ | refine cond_fa ?_ | refine same_i ?_)
            conv => whnf
            refine loop_h (Ix ((min n 64))) (fun r => ⟨[(0, .str key), (1, .int c), (2, .str nonce), (3, .sl 0 0 0 [] n cap), (8, .u32 (UInt32.ofInt c)), (9, .ptr 1 0 0 []), (10, .int (min (n : Int) 64)), (27, .int (min (n : Int) 64)), (28, .int r.i)], [.mk t [.arr8 m (strO key nonce (UInt32.ofInt c) l (0 + r.i))], .mk 118 [.arr8 64 (blk key nonce (UInt32.ofInt c))]]⟩) (fun r => ((min n 64)) - r.i) ⟨0, Nat.zero_le _⟩ [0, 1] ?_ ?_
            · repeat ((conv => whnf); refine same_i ?_)
              conv => whnf
              refine same_q (congrArg (fun x => SV.agg [SV.arr8 64 x]) (by unfold blk; rfl)) ?_
              repeat ((conv => whnf); refine same_i ?_)
              exact trivial
            · intro r
              have hri := r.hi
              have hlr : (strO key nonce (UInt32.ofInt c) l (0 + r.i)).length = l.length := ovr_len (l := l) (a := 0) (i := 0 + r.i) (by omega) (strG key nonce (UInt32.ofInt c) l)
              have hbl := blk_len key nonce (UInt32.ofInt c)
              have hR : ((r.i : Int)).toNat = r.i := Int.toNat_natCast _
              by_cases h5 : r.i < min n 64
              · repeat ((conv => whnf); first | refine pre_a ?_ | refine cond_ta ?_ | refine cond_fa ?_ | refine same_i ?_)
                conv => whnf
                refine ⟨⟨r.i + 1, h5⟩, [0, 1], by show ((min n 64)) - (r.i + 1) < ((min n 64)) - r.i; omega, ?_⟩
                repeat ((conv => whnf); refine same_i ?_)
                conv => whnf
                refine same_q (congrArg (fun x => SV.agg [SV.arr8 m x]) (ovr_step (by omega) ?hv ?hkk)) ?_
                case hkk => show r.i = 0 + (0 + r.i); omega
                case hv =>
                  show List.getD (ovr l 0 (strG key nonce (UInt32.ofInt c) l) (0 + r.i)) (r.i) 0 ^^^ List.getD (blk key nonce (UInt32.ofInt c)) r.i 0 = _
                  rw [ovr_get (by omega) _ (by omega)]
                  unfold strG
                  rw [show (0 + r.i) / 64 = 0 by omega, show (0 + r.i) % 64 = r.i by omega, hct, Nat.zero_add]
                repeat ((conv => whnf); refine same_i ?_)
                exact trivial
              · have e5 : r.i = min n 64 := by omega
                rw [e5]
                repeat ((conv => whnf); first | refine pre_a ?_ | refine cond_ta ?_ | refine cond_fa ?_ | refine same_i ?_)
                conv => whnf
                rw [hmn]
                refine ⟨some ⟨0 + 1, slO cap (min n 64), n - min n 64, cap - min n 64, by omega, fun h0 => by
                  have hne : cap ≠ min n 64 := by omega
                  rw [slO_eq hne]; omega, by omega⟩, [0], by show n - min n 64 < n + 1; omega, ?_⟩
                repeat ((conv => whnf); refine same_i ?_)
                conv => whnf
                refine same_q (congrArg (fun k => SV.agg [SV.arr8 m (strO key nonce (UInt32.ofInt c) l k)]) (by show 0 + min n 64 = n - (n - min n 64); omega)) ?_
                repeat ((conv => whnf); refine same_i ?_)
                
                exact trivial
          · have e4 : n = 0 := by omega
            repeat ((conv => whnf); first | refine pre_a ?_ | refine cond_ta ?_ | refine cond_fa ?_ | refine same_i ?_)
            conv => whnf
            refine final_h (hp' := [.mk t [.arr8 m (strO key nonce (UInt32.ofInt c) l n)]]) [0] h ?_
            repeat ((conv => whnf); refine same_i ?_)
            conv => whnf
            refine same_q (congrArg (fun x => SV.agg [SV.arr8 m x]) (by rw [e4]; unfold strO; exact (ovr_zero _ _ _).symm)) ?_
            repeat ((conv => whnf); refine same_i ?_)
            exact trivial
        | some s =>
          have hsn := s.hn
          have hsx := s.hx
          have hsc := s.hc
          have hls := ovr_len (l := l) (a := 0) (i := n - s.k) (by omega) (strG key nonce (UInt32.ofInt c) l)
          by_cases h4 : 0 < s.k
          · have hX := hsx h4
            have hD : n - s.k = 64 * s.t := by omega
            have hbg := beg_len key nonce (UInt32.ofInt c + UInt32.ofNat s.t)
            have hmn : (min (s.k : Int) 64).toNat = min s.k 64 := by omega
            repeat ((conv => whnf); first | refine pre_a ?_ | refine cond_ta ?_ | refine cond_fa ?_ | refine same_i ?_)
            conv => whnf
            refine loop_h (Ix ((min s.k 64))) (fun r => ⟨[(0, .str key), (1, .int c), (2, .str nonce), (3, .sl 0 0 0 [(s.x, 1)] s.k s.c), (8, .u32 (UInt32.ofInt c + UInt32.ofNat s.t)), (9, .ptr 1 0 0 []), (10, .int (min (s.k : Int) 64)), (27, .int (min (s.k : Int) 64)), (28, .int r.i)], [.mk t [.arr8 m (strO key nonce (UInt32.ofInt c) l ((n - s.k) + r.i))], .mk 118 [.arr8 64 (blk key nonce (UInt32.ofInt c + UInt32.ofNat s.t))]]⟩) (fun r => ((min s.k 64)) - r.i) ⟨0, Nat.zero_le _⟩ [0, 1] ?_ ?_
            · repeat ((conv => whnf); refine same_i ?_)
              conv => whnf
              refine same_q (congrArg (fun x => SV.agg [SV.arr8 64 x]) (by unfold blk; rfl)) ?_
              repeat ((conv => whnf); refine same_i ?_)
              exact trivial
            · intro r
              have hri := r.hi
              have hlr : (strO key nonce (UInt32.ofInt c) l ((n - s.k) + r.i)).length = l.length := ovr_len (l := l) (a := 0) (i := (n - s.k) + r.i) (by omega) (strG key nonce (UInt32.ofInt c) l)
              have hbl := blk_len key nonce (UInt32.ofInt c + UInt32.ofNat s.t)
              have hR : ((r.i : Int)).toNat = r.i := Int.toNat_natCast _
              by_cases h5 : r.i < min s.k 64
              · repeat ((conv => whnf); first | refine pre_a ?_ | refine cond_ta ?_ | refine cond_fa ?_ | refine same_i ?_)
                conv => whnf
                refine ⟨⟨r.i + 1, h5⟩, [0, 1], by show ((min s.k 64)) - (r.i + 1) < ((min s.k 64)) - r.i; omega, ?_⟩
                repeat ((conv => whnf); refine same_i ?_)
                conv => whnf
                refine same_q (congrArg (fun x => SV.agg [SV.arr8 m x]) (ovr_step (by omega) ?hv ?hkk)) ?_
                case hkk => show s.x + r.i = 0 + ((n - s.k) + r.i); omega
                case hv =>
                  show List.getD (ovr l 0 (strG key nonce (UInt32.ofInt c) l) ((n - s.k) + r.i)) (s.x + r.i) 0 ^^^ List.getD (blk key nonce (UInt32.ofInt c + UInt32.ofNat s.t)) r.i 0 = _
                  rw [ovr_get (by omega) _ (by omega)]
                  unfold strG
                  rw [show ((n - s.k) + r.i) / 64 = s.t by omega, show ((n - s.k) + r.i) % 64 = r.i by omega, show s.x + r.i = n - s.k + r.i by omega]
                repeat ((conv => whnf); refine same_i ?_)
                exact trivial
              · have e5 : r.i = min s.k 64 := by omega
                rw [e5]
                repeat ((conv => whnf); first | refine pre_a ?_ | refine cond_ta ?_ | refine cond_fa ?_ | refine same_i ?_)
                conv => whnf
                rw [hmn]
                refine ⟨some ⟨s.t + 1, s.x + slO s.c (min s.k 64), s.k - min s.k 64, s.c - min s.k 64, by omega, fun h0 => by
                  have hne : s.c ≠ min s.k 64 := by omega
                  rw [slO_eq hne]; omega, by omega⟩, [0], by show s.k - min s.k 64 < s.k; omega, ?_⟩
                repeat ((conv => whnf); refine same_i ?_)
                conv => whnf
                refine same_q (congrArg (fun k => SV.agg [SV.arr8 m (strO key nonce (UInt32.ofInt c) l k)]) (by show (n - s.k) + min s.k 64 = n - (s.k - min s.k 64); omega)) ?_
                repeat ((conv => whnf); refine same_i ?_)
                conv => whnf
                refine same_q (congrArg SV.u32 (by show (UInt32.ofInt c + UInt32.ofNat s.t) + UInt32.ofNat 1 = UInt32.ofInt c + UInt32.ofNat (s.t + 1); exact u32_add _ _)) ?_
                repeat ((conv => whnf); refine same_i ?_)
                exact trivial
          · have e4 : s.k = 0 := by omega
            repeat ((conv => whnf); first | refine pre_a ?_ | refine cond_ta ?_ | refine cond_fa ?_ | refine same_i ?_)
            conv => whnf
            refine final_h (hp' := [.mk t [.arr8 m (strO key nonce (UInt32.ofInt c) l n)]]) [0] h ?_
            repeat ((conv => whnf); refine same_i ?_)
            conv => whnf
            refine same_q (congrArg (fun k => SV.agg [SV.arr8 m (strO key nonce (UInt32.ofInt c) l k)]) (by show n - s.k = n; omega)) ?_
            repeat ((conv => whnf); refine same_i ?_)
            exact trivial
    · exact h.elim
end Go.Sym.A

namespace Go.Sym.A
open Go Go.Proofs.Try Go.Sym.Lp Go.Sym.Cha
set_option maxRecDepth 100000
attribute [local irreducible] qr wd rl32 blk beg outB
/-- the orders of the drawn regions of ref4.chacha -/
def pl88 : List (Nat × List PStep) := [(27, [⟨0, []⟩, ⟨1, []⟩, ⟨2, []⟩, ⟨3, [0, 1, 2]⟩, ⟨4, [0, 1, 2]⟩, ⟨5, [0, 1, 2]⟩, ⟨6, []⟩, ⟨7, []⟩])]
/-- the orders of the drawn regions of ref4.stream -/
def pl59 : List (Nat × List PStep) := [(9, [⟨0, []⟩, ⟨1, [0]⟩, ⟨2, [0, 1]⟩, ⟨3, [0]⟩, ⟨4, [0, 1, 2, 3]⟩, ⟨5, [0, 1, 2, 3, 4]⟩, ⟨6, [0, 1, 2, 3, 4, 5]⟩, ⟨7, [0, 1, 2, 3, 4]⟩, ⟨8, [0, 1, 2, 3]⟩, ⟨9, [0, 1, 2, 3, 4, 5, 6, 7, 8]⟩, ⟨10, [0, 1, 2, 3, 4, 5, 6, 7, 8, 9]⟩, ⟨11, [0, 1, 2, 3, 4, 5, 6, 7, 8]⟩, ⟨12, [0, 1, 2, 3]⟩, ⟨13, []⟩, ⟨14, []⟩])]

theorem u32_int (n : Nat) : UInt32.ofInt (n : Int) = UInt32.ofNat n := by
  apply UInt32.toNat_inj.1
  unfold UInt32.ofInt
  rw [UInt32.toNat_ofNat', UInt32.toNat_ofNat']
  omega
def rchachaS : Spec := fun args hp K => match args, hp with
  | [.str key, .u32 n, .str nonce], [] => Pre (key.length = 32 ∧ nonce.length = 12) (K (.str (blk key nonce n)) [])
  | _, _ => False
set_option maxHeartbeats 4000000 in
theorem rchacha_s : SoundC prog 88 rchachaS := by
  refine sound_f tyCha_ok (fnok_cons le_s (fnok_cons rquarter_s fnok_nil)) rfl func88 rfl call88 (D := pl88) ?_ ?_
  · intro args hp K h
    unfold rchachaS at h
    split at h
    · exact Nat.le_of_ble_eq_true rfl
    · exact h.elim
  · intro args hp K h
    unfold rchachaS at h
    split at h
    · rename_i key n nonce
      obtain ⟨⟨hk, hn⟩, h⟩ := pre_e h
      repeat ((conv => whnf); first | refine pre_a ?_ | refine cond_ta ?_ | refine cond_fa ?_ | refine same_i ?_)
      conv => whnf
      refine loop_h (Ix (8)) (fun q => ⟨[(0, .str key), (1, .u32 n), (2, .str nonce), (7, .ptr 0 0 0 []), (8, .int q.i)], [.mk 119 [.arr32 16 (ovr c0 4 (fun i => wd key (4 * i)) q.i)]]⟩) (fun q => (8) - q.i) ⟨0, Nat.zero_le _⟩ [0] ?_ ?_
      · repeat ((conv => whnf); refine same_i ?_)
        exact trivial
      · intro q
        have hi := q.hi
        have hI : ((4 : Int) + (q.i : Int)).toNat = 4 + q.i := by omega
        have hl0 := c0_len
        have hlo := ovr_len (l := c0) (a := 4) (i := q.i) (by omega) (fun i => wd key (4 * i))
        by_cases h4 : q.i < 8
        · have hp3 : 0 ≤ 4 * (q.i : Int) ∧ 4 * (q.i : Int) + 4 ≤ (key.length : Int) ∧ key.length ≤ 9223372036854775807 := ⟨by omega, by omega, by omega⟩
          repeat ((conv => whnf); first | refine pre_a ?_ | refine cond_ta ?_ | refine cond_fa ?_ | refine same_i ?_)
          conv => whnf
          refine ⟨⟨q.i + 1, h4⟩, [0], by show (8) - (q.i + 1) < (8) - q.i; omega, ?_⟩
          repeat ((conv => whnf); refine same_i ?_)
          conv => whnf
          refine same_q (congrArg (fun x => SV.agg [SV.arr32 16 x]) (ovr_step (by omega) ?hv ?hkk)) ?_
          case hkk => show ((4 : Int) + (q.i : Int)).toNat = 4 + q.i; omega
          case hv =>
            show wd key (4 * (q.i : Int)).toNat = _
            rw [show (4 * (q.i : Int)).toNat = 4 * q.i by omega]
          repeat ((conv => whnf); refine same_i ?_)
          exact trivial
        · have e4 : q.i = 8 := by omega
          rw [e4] at hlo
          rw [e4]
          have hl2 : ((ovr c0 4 (fun i => wd key (4 * i)) 8).set 12 n).length = 16 := by rw [List.length_set, hlo]; rfl
          repeat ((conv => whnf); first | refine pre_a ?_ | refine cond_ta ?_ | refine cond_fa ?_ | refine same_i ?_)
          conv => whnf
          refine loop_h (Ix (3)) (fun r => ⟨[(0, .str key), (1, .u32 n), (2, .str nonce), (7, .ptr 0 0 0 []), (9, .int r.i)], [.mk 119 [.arr32 16 (ovr ((ovr c0 4 (fun i => wd key (4 * i)) 8).set 12 n) 13 (fun i => wd nonce (4 * i)) r.i)]]⟩) (fun r => (3) - r.i) ⟨0, Nat.zero_le _⟩ [0] ?_ ?_
          · repeat ((conv => whnf); refine same_i ?_)
            exact trivial
          · intro r
            have hri := r.hi
            have hlr := ovr_len (l := (ovr c0 4 (fun i => wd key (4 * i)) 8).set 12 n) (a := 13) (i := r.i) (by omega) (fun i => wd nonce (4 * i))
            by_cases h5 : r.i < 3
            · have hp3 : 0 ≤ 4 * (r.i : Int) ∧ 4 * (r.i : Int) + 4 ≤ (nonce.length : Int) ∧ nonce.length ≤ 9223372036854775807 := ⟨by omega, by omega, by omega⟩
              repeat ((conv => whnf); first | refine pre_a ?_ | refine cond_ta ?_ | refine cond_fa ?_ | refine same_i ?_)
              conv => whnf
              refine ⟨⟨r.i + 1, h5⟩, [0], by show (3) - (r.i + 1) < (3) - r.i; omega, ?_⟩
              repeat ((conv => whnf); refine same_i ?_)
              conv => whnf
              refine same_q (congrArg (fun x => SV.agg [SV.arr32 16 x]) (ovr_step (by omega) ?hv ?hkk)) ?_
              case hkk => show ((13 : Int) + (r.i : Int)).toNat = 13 + r.i; omega
              case hv =>
                show wd nonce (4 * (r.i : Int)).toNat = _
                rw [show (4 * (r.i : Int)).toNat = 4 * r.i by omega]
              repeat ((conv => whnf); refine same_i ?_)
              exact trivial
            · have e5 : r.i = 3 := by omega
              rw [e5, beg_c0]
              have hx := beg_len key nonce n
              have hB : outB (beg key nonce n) = blk key nonce n := by unfold blk; rfl
              rw [← hB] at h
              generalize beg key nonce n = x at *
              clear hlr hri h5 e5 hl2 hlo hI hi h4 e4 hl0 r q
              repeat ((conv => whnf); first | refine pre_a ?_ | refine cond_ta ?_ | refine cond_fa ?_ | refine same_i ?_)
              conv => whnf
              refine loop_h (Ix (10)) (fun q => ⟨[(0, .str key), (1, .u32 n), (2, .str nonce), (7, .ptr 0 0 0 []), (10, .ptr 1 0 0 []), (11, .int q.i)], [.mk 119 [.arr32 16 x], .mk 119 [.arr32 16 (rnds x q.i)]]⟩) (fun q => (10) - q.i) ⟨0, Nat.zero_le _⟩ [0, 1] ?_ ?_
              · repeat ((conv => whnf); refine same_i ?_)
                exact trivial
              · intro q
                have hi := q.hi
                have hX := rnds_len x q.i
                by_cases h4 : q.i < 10
                · repeat ((conv => whnf); first | refine pre_a ?_ | refine cond_ta ?_ | refine cond_fa ?_ | refine same_i ?_)
                  conv => whnf
                  generalize hXe : rnds x q.i = X at *
                  refine loop_h (Ix (4)) (fun r => ⟨[(0, .str key), (1, .u32 n), (2, .str nonce), (7, .ptr 0 0 0 []), (10, .ptr 1 0 0 []), (11, .int q.i), (12, .int r.i)], [.mk 119 [.arr32 16 x], .mk 119 [.arr32 16 (colSt X r.i)]]⟩) (fun r => (4) - r.i) ⟨0, Nat.zero_le _⟩ [0, 1] ?_ ?_
                  · repeat ((conv => whnf); refine same_i ?_)
                    exact trivial
                  · intro r
                    have hri := r.hi
                    have hc := colSt_len X r.i
                    by_cases h5 : r.i < 4
                    · have e0 : ((r.i : Int)).toNat = r.i := Int.toNat_natCast _
                      have e1 : ((4 : Int) + (r.i : Int)).toNat = 4 + r.i := by omega
                      have e2 : ((8 : Int) + (r.i : Int)).toNat = 8 + r.i := by omega
                      have e3 : ((12 : Int) + (r.i : Int)).toNat = 12 + r.i := by omega
                      have hp5 : (colSt X r.i).length = 16 ∧ (0 ≤ (r.i : Int) ∧ (r.i : Int) < 16) ∧ (0 ≤ (4 : Int) + (r.i : Int) ∧ (4 : Int) + (r.i : Int) < 16) ∧ (0 ≤ (8 : Int) + (r.i : Int) ∧ (8 : Int) + (r.i : Int) < 16) ∧ (0 ≤ (12 : Int) + (r.i : Int) ∧ (12 : Int) + (r.i : Int) < 16) := ⟨by omega, by omega, by omega, by omega, by omega⟩
                      repeat ((conv => whnf); first | refine pre_a ?_ | refine cond_ta ?_ | refine cond_fa ?_ | refine same_i ?_)
                      conv => whnf
                      rw [e0, e1, e2, e3]
                      conv => whnf
                      refine ⟨⟨r.i + 1, h5⟩, [0, 1], by show (4) - (r.i + 1) < (4) - r.i; omega, ?_⟩
                      repeat ((conv => whnf); refine same_i ?_)
                      exact trivial
                    · have e5 : r.i = 4 := by omega
                      rw [e5] at hc
                      rw [e5]
                      generalize hYe : colSt X 4 = Y at *
                      repeat ((conv => whnf); first | refine pre_a ?_ | refine cond_ta ?_ | refine cond_fa ?_ | refine same_i ?_)
                      conv => whnf
                      refine loop_h (Ix (4)) (fun u => ⟨[(0, .str key), (1, .u32 n), (2, .str nonce), (7, .ptr 0 0 0 []), (10, .ptr 1 0 0 []), (11, .int q.i), (13, .int u.i)], [.mk 119 [.arr32 16 x], .mk 119 [.arr32 16 (diaSt Y u.i)]]⟩) (fun u => (4) - u.i) ⟨0, Nat.zero_le _⟩ [0, 1] ?_ ?_
                      · repeat ((conv => whnf); refine same_i ?_)
                        exact trivial
                      · intro u
                        have hui := u.hi
                        have hd := diaSt_len Y u.i
                        by_cases h6 : u.i < 4
                        · have e0 : ((u.i : Int)).toNat = u.i := Int.toNat_natCast _
                          have e1 : ((4 : Int) + ((u.i : Int) + 1).tmod 4).toNat = 4 + (u.i + 1) % 4 := by rw [Int.tmod_eq_emod_of_nonneg (by omega)]; omega
                          have e2 : ((8 : Int) + ((u.i : Int) + 2).tmod 4).toNat = 8 + (u.i + 2) % 4 := by rw [Int.tmod_eq_emod_of_nonneg (by omega)]; omega
                          have e3 : ((12 : Int) + ((u.i : Int) + 3).tmod 4).toNat = 12 + (u.i + 3) % 4 := by rw [Int.tmod_eq_emod_of_nonneg (by omega)]; omega
                          have n1 := Int.tmod_nonneg (a := (u.i : Int) + 1) 4 (by omega)
                          have n2 := Int.tmod_nonneg (a := (u.i : Int) + 2) 4 (by omega)
                          have n3 := Int.tmod_nonneg (a := (u.i : Int) + 3) 4 (by omega)
                          have hp5 : (diaSt Y u.i).length = 16 ∧ (0 ≤ (u.i : Int) ∧ (u.i : Int) < 16) ∧ (0 ≤ (4 : Int) + ((u.i : Int) + 1).tmod 4 ∧ (4 : Int) + ((u.i : Int) + 1).tmod 4 < 16) ∧ (0 ≤ (8 : Int) + ((u.i : Int) + 2).tmod 4 ∧ (8 : Int) + ((u.i : Int) + 2).tmod 4 < 16) ∧ (0 ≤ (12 : Int) + ((u.i : Int) + 3).tmod 4 ∧ (12 : Int) + ((u.i : Int) + 3).tmod 4 < 16) := ⟨by omega, by omega, by omega, by omega, by omega⟩
                          repeat ((conv => whnf); first | refine pre_a ?_ | refine cond_ta ?_ | refine cond_fa ?_ | refine same_i ?_)
                          conv => whnf
                          rw [e0, e1, e2, e3]
                          conv => whnf
                          refine ⟨⟨u.i + 1, h6⟩, [0, 1], by show (4) - (u.i + 1) < (4) - u.i; omega, ?_⟩
                          repeat ((conv => whnf); refine same_i ?_)
                          exact trivial
                        · have e6 : u.i = 4 := by omega
                          rw [e6, show diaSt Y 4 = rnds x (q.i + 1) by rw [← hYe, ← hXe]; rfl]
                          repeat ((conv => whnf); first | refine pre_a ?_ | refine cond_ta ?_ | refine cond_fa ?_ | refine same_i ?_)
                          conv => whnf
                          refine ⟨⟨q.i + 1, h4⟩, [0, 1], by show (10) - (q.i + 1) < (10) - q.i; omega, ?_⟩
                          repeat ((conv => whnf); refine same_i ?_)
                          exact trivial
                · have e4 : q.i = 10 := by omega
                  rw [e4] at hX
                  rw [e4]
                  repeat ((conv => whnf); first | refine pre_a ?_ | refine cond_ta ?_ | refine cond_fa ?_ | refine same_i ?_)
                  conv => whnf
                  refine loop_h (Ix (16)) (fun u => ⟨[(0, .str key), (1, .u32 n), (2, .str nonce), (7, .ptr 0 0 0 []), (10, .ptr 1 0 0 []), (14, .sl 2 0 0 [] 64 64), (15, .int u.i)], [.mk 119 [.arr32 16 x], .mk 119 [.arr32 16 (rnds x 10)], .mk 5 [.arr8 64 (ovr (List.replicate 64 0) 0 (outG x) (4 * u.i))]]⟩) (fun u => (16) - u.i) ⟨0, Nat.zero_le _⟩ [0, 1, 2] ?_ ?_
                  · repeat ((conv => whnf); refine same_i ?_)
                    exact trivial
                  · intro u
                    have hui := u.hi
                    have hU : ((u.i : Int)).toNat = u.i := Int.toNat_natCast _
                    by_cases h6 : u.i < 16
                    · repeat ((conv => whnf); first | refine pre_a ?_ | refine cond_ta ?_ | refine cond_fa ?_ | refine same_i ?_)
                      conv => whnf
                      refine loop_h (Ix (4)) (fun v => ⟨[(0, .str key), (1, .u32 n), (2, .str nonce), (7, .ptr 0 0 0 []), (10, .ptr 1 0 0 []), (14, .sl 2 0 0 [] 64 64), (15, .int u.i), (16, .u32 (g32 x u.i + g32 (rnds x 10) u.i)), (17, .int v.i)], [.mk 119 [.arr32 16 x], .mk 119 [.arr32 16 (rnds x 10)], .mk 5 [.arr8 64 (ovr (List.replicate 64 0) 0 (outG x) (4 * u.i + v.i))]]⟩) (fun v => (4) - v.i) ⟨0, Nat.zero_le _⟩ [0, 1, 2] ?_ ?_
                      · repeat ((conv => whnf); refine same_i ?_)
                        exact trivial
                      · intro v
                        have hvi := v.hi
                        have hlo := ovr_len (l := List.replicate 64 (0 : UInt8)) (a := 0) (i := 4 * u.i + v.i) (by rw [List.length_replicate]; omega) (outG x)
                        rw [List.length_replicate] at hlo
                        by_cases h7 : v.i < 4
                        · repeat ((conv => whnf); first | refine pre_a ?_ | refine cond_ta ?_ | refine cond_fa ?_ | refine same_i ?_)
                          conv => whnf
                          refine ⟨⟨v.i + 1, h7⟩, [0, 1, 2], by show (4) - (v.i + 1) < (4) - v.i; omega, ?_⟩
                          repeat ((conv => whnf); refine same_i ?_)
                          conv => whnf
                          refine same_q (congrArg (fun x => SV.agg [SV.arr8 64 x]) (ovr_step (by rw [List.length_replicate]; omega) ?hv ?hkk)) ?_
                          case hkk => show (4 * (u.i : Int) + (v.i : Int)).toNat = 0 + (4 * u.i + v.i); omega
                          case hv =>
                            show ((g32 x u.i + g32 (rnds x 10) u.i) >>> UInt32.ofNat (8 * (v.i : Int)).toNat &&& UInt32.ofNat 255).toUInt8 = outG x (4 * u.i + v.i)
                            unfold outG
                            rw [low8, show (4 * u.i + v.i) / 4 = u.i by omega, show (4 * u.i + v.i) % 4 = v.i by omega, show (8 * (v.i : Int)).toNat = 8 * v.i by omega]
                          repeat ((conv => whnf); refine same_i ?_)
                          exact trivial
                        · have e7 : v.i = 4 := by omega
                          rw [e7]
                          repeat ((conv => whnf); first | refine pre_a ?_ | refine cond_ta ?_ | refine cond_fa ?_ | refine same_i ?_)
                          conv => whnf
                          refine ⟨⟨u.i + 1, h6⟩, [0, 1, 2], by show (16) - (u.i + 1) < (16) - u.i; omega, ?_⟩
                          repeat ((conv => whnf); refine same_i ?_)
                          exact trivial
                    · have e6 : u.i = 16 := by omega
                      have hB2 : List.take 64 (List.drop (off []) (outB x)) = outB x := List.take_of_length_le (Nat.le_of_eq (outB_len _))
                      have hBl := outB_len x
                      rw [e6, ovr_fin (List.length_replicate), show (List.range 64).map (outG x) = outB x by unfold outB; rfl]
                      repeat ((conv => whnf); first | refine pre_a ?_ | refine cond_ta ?_ | refine cond_fa ?_ | refine same_i ?_)
                      conv => whnf
                      rw [hB2]
                      conv => whnf
                      refine final_h (hp' := []) [] h ?_
                      repeat ((conv => whnf); refine same_i ?_)
                      exact trivial
    · exact h.elim
def rstreamS : Spec := fun args hp K => match args, hp with
  | [.str key, .u32 n, .str nonce, .str s], [] => Pre (key.length = 32 ∧ nonce.length = 12 ∧ s.length ≤ 140737488355328) (K (.str (strm key nonce n s)) [])
  | _, _ => False
theorem rstream_s : SoundC prog 59 rstreamS := by
  refine sound_f tyCha_ok (fnok_cons rchacha_s fnok_nil) rfl func59 rfl call59 (D := pl59) ?_ ?_
  · intro args hp K h
    unfold rstreamS at h
    split at h
    · exact Nat.le_of_ble_eq_true rfl
    · exact h.elim
  · intro args hp K h
    unfold rstreamS at h
    split at h
    · rename_i key n nonce s
      obtain ⟨⟨hk, hn, hs⟩, h⟩ := pre_e h
      have hkn : key.length = 32 ∧ nonce.length = 12 := ⟨hk, hn⟩
      have hS : (s.length : Int).toNat = s.length := Int.toNat_natCast _
      repeat ((conv => whnf); first | refine pre_a ?_ | refine cond_ta ?_ | refine cond_fa ?_ | refine same_i ?_)
      conv => whnf
      refine loop_h (Ix (s.length)) (fun q => ⟨[(0, .str key), (1, .u32 n), (2, .str nonce), (3, .str s), (9, .sl 0 0 0 [] s.length s.length), (10, .int (64 * (q.i : Int)))], [.mk 5 [.arr8 s.length (ovr (List.replicate s.length 0) 0 (strG key nonce n s) (min s.length (64 * q.i)))]]⟩) (fun q => (s.length) - q.i) ⟨0, Nat.zero_le _⟩ [0] ?_ ?_
      · repeat ((conv => whnf); refine same_i ?_)
        conv => whnf
        refine same_q (agg8 (by omega) (by rw [hS]; show _ = ovr _ 0 _ (min s.length (64 * 0)); rw [Nat.mul_zero, Nat.min_zero, ovr_zero])) ?_
        repeat ((conv => whnf); refine same_i ?_)
        exact trivial
      · intro q
        have hi := q.hi
        have hlr := List.length_replicate (n := s.length) (a := (0 : UInt8))
        by_cases h4 : 64 * q.i < s.length
        · have hpd : (64 : Int) ≠ 0 ∧ fits ((64 * (q.i : Int)).tdiv 64) := ⟨by decide, by rw [Int.tdiv_eq_ediv_of_nonneg (by omega)]; unfold fits; omega⟩
          have hq : (64 * (q.i : Int)).tdiv 64 = (q.i : Int) := by rw [Int.tdiv_eq_ediv_of_nonneg (by omega)]; omega
          have hu : UInt32.ofInt ((64 * (q.i : Int)).tdiv 64) = UInt32.ofNat q.i := by rw [hq]; exact u32_int _
          have hbl := blk_len key nonce (n + UInt32.ofNat q.i)
          repeat ((conv => whnf); first | refine pre_a ?_ | refine cond_ta ?_ | refine cond_fa ?_ | refine same_i ?_)
          conv => whnf
          rw [hu]
          refine loop_h (Ix ((min 64 (s.length - 64 * q.i)))) (fun r => ⟨[(0, .str key), (1, .u32 n), (2, .str nonce), (3, .str s), (9, .sl 0 0 0 [] s.length s.length), (10, .int (64 * (q.i : Int))), (11, .str (blk key nonce (n + UInt32.ofNat q.i))), (12, .int r.i)], [.mk 5 [.arr8 s.length (ovr (List.replicate s.length 0) 0 (strG key nonce n s) (64 * q.i + r.i))]]⟩) (fun r => ((min 64 (s.length - 64 * q.i))) - r.i) ⟨0, Nat.zero_le _⟩ [0] ?_ ?_
          · repeat ((conv => whnf); refine same_i ?_)
            conv => whnf
            refine same_q (congrArg (fun k => SV.agg [SV.arr8 s.length (ovr (List.replicate s.length 0) 0 (strG key nonce n s) k)]) (by show min s.length (64 * q.i) = 64 * q.i + 0; omega)) ?_
            repeat ((conv => whnf); refine same_i ?_)
            exact trivial
          · intro r
            have hri := r.hi
            have hlo := ovr_len (l := List.replicate s.length (0 : UInt8)) (a := 0) (i := 64 * q.i + r.i) (by omega) (strG key nonce n s)
            rw [hlr] at hlo
            by_cases h5 : r.i < 64
            · by_cases h6 : 64 * q.i + r.i < s.length
              · have h7 : r.i < min 64 (s.length - 64 * q.i) := by omega
                repeat ((conv => whnf); first | refine pre_a ?_ | refine cond_ta ?_ | refine cond_fa ?_ | refine same_i ?_)
                conv => whnf
                refine ⟨⟨r.i + 1, h7⟩, [0], by show ((min 64 (s.length - 64 * q.i))) - (r.i + 1) < ((min 64 (s.length - 64 * q.i))) - r.i; omega, ?_⟩
                repeat ((conv => whnf); refine same_i ?_)
                conv => whnf
                refine same_q (congrArg (fun x => SV.agg [SV.arr8 s.length x]) (ovr_step (by omega) ?hv ?hkk)) ?_
                case hkk => show (64 * (q.i : Int) + (r.i : Int)).toNat = 0 + (64 * q.i + r.i); omega
                case hv =>
                  show s.getD (64 * (q.i : Int) + (r.i : Int)).toNat 0 ^^^ (blk key nonce (n + UInt32.ofNat q.i)).getD ((r.i : Int)).toNat 0 = strG key nonce n s (64 * q.i + r.i)
                  unfold strG
                  rw [show (64 * (q.i : Int) + (r.i : Int)).toNat = 64 * q.i + r.i by omega, Int.toNat_natCast, show (64 * q.i + r.i) / 64 = q.i by omega, show (64 * q.i + r.i) % 64 = r.i by omega]
                repeat ((conv => whnf); refine same_i ?_)
                exact trivial
              · have e5 : 64 * q.i + r.i = s.length := by omega
                repeat ((conv => whnf); first | refine pre_a ?_ | refine cond_ta ?_ | refine cond_fa ?_ | refine same_i ?_)
                conv => whnf
                have hq1 : q.i < s.length := by omega
                conv => whnf
                refine ⟨⟨q.i + 1, hq1⟩, [0], by show (s.length) - (q.i + 1) < (s.length) - q.i; omega, ?_⟩
                repeat ((conv => whnf); refine same_i ?_)
                conv => whnf
                refine same_q (congrArg (fun k => SV.agg [SV.arr8 s.length (ovr (List.replicate s.length 0) 0 (strG key nonce n s) k)]) (by show 64 * q.i + r.i = min s.length (64 * (q.i + 1)); omega)) ?_
                repeat ((conv => whnf); refine same_i ?_)
                exact trivial
            · repeat ((conv => whnf); first | refine pre_a ?_ | refine cond_ta ?_ | refine cond_fa ?_ | refine same_i ?_)
              conv => whnf
              have hq1 : q.i < s.length := by omega
              conv => whnf
              refine ⟨⟨q.i + 1, hq1⟩, [0], by show (s.length) - (q.i + 1) < (s.length) - q.i; omega, ?_⟩
              repeat ((conv => whnf); refine same_i ?_)
              conv => whnf
              refine same_q (congrArg (fun k => SV.agg [SV.arr8 s.length (ovr (List.replicate s.length 0) 0 (strG key nonce n s) k)]) (by show 64 * q.i + r.i = min s.length (64 * (q.i + 1)); omega)) ?_
              repeat ((conv => whnf); refine same_i ?_)
              exact trivial
        · have hlo := ovr_len (l := List.replicate s.length (0 : UInt8)) (a := 0) (i := s.length) (by omega) (strG key nonce n s)
          rw [hlr] at hlo
          have e5 : min s.length (64 * q.i) = s.length := by omega
          have e6 : List.take s.length (List.drop (off []) (ovr (List.replicate s.length 0) 0 (strG key nonce n s) s.length)) = strm key nonce n s := by
            rw [ovr_fin hlr]
            exact List.take_of_length_le (Nat.le_of_eq (map_range_len _ _))
          rw [e5]
          repeat ((conv => whnf); first | refine pre_a ?_ | refine cond_ta ?_ | refine cond_fa ?_ | refine same_i ?_)
          conv => whnf
          rw [e6]
          conv => whnf
          refine final_h (hp' := []) [] h ?_
          repeat ((conv => whnf); refine same_i ?_)
          exact trivial
    · exact h.elim
end Go.Sym.A

/-
  Poly1305: limbs of 26 bits and their number. Plain laws. No program in sight; no condition beyond each lemma's own.
-/
namespace Go.Sym.Pol
open Go.Sym.Lp

/-- 2^130 - 5 -/
def pP : Nat := 1361129467683753853853498429727072845819
def ws : List UInt64 → Nat
  | [a, b, c, d, e] => a.toNat + 67108864 * b.toNat + 4503599627370496 * c.toNat + 302231454903657293676544 * d.toNat + 20282409603651670423947251286016 * e.toNat
  | _ => 0
theorem five {x : List UInt64} (h : x.length = 5) : ∃ a b c d e, x = [a, b, c, d, e] := by
  match x, h with
  | [a, b, c, d, e], _ => exact ⟨a, b, c, d, e, rfl⟩
def M26 : UInt64 := 67108863
theorem sh26 (x : UInt64) : (x >>> (26 : UInt64)).toNat = x.toNat / 67108864 := by
  rw [UInt64.toNat_shiftRight]
  show x.toNat >>> (26 % 64) = _
  rw [Nat.shiftRight_eq_div_pow]
theorem an26 (x : UInt64) : (x &&& M26).toNat = x.toNat % 67108864 := by
  rw [UInt64.toNat_and]
  show x.toNat &&& (2 ^ 26 - 1) = _
  rw [Nat.and_two_pow_sub_one_eq_mod]
theorem ad64 {x y : UInt64} (h : x.toNat + y.toNat < 18446744073709551616) : (x + y).toNat = x.toNat + y.toNat := by
  rw [UInt64.toNat_add]; exact Nat.mod_eq_of_lt h
theorem mu64 {x y : UInt64} (h : x.toNat * y.toNat < 18446744073709551616) : (x * y).toNat = x.toNat * y.toNat := by
  rw [UInt64.toNat_mul]; exact Nat.mod_eq_of_lt h

/-! ### the program's carry: six steps -/
def g64 (x : List UInt64) (i : Nat) : UInt64 := x.getD i 0
def carSt (x : List UInt64) : Nat → List UInt64
  | 0 => x
  | i + 1 =>
    let y := carSt x i
    let c := g64 y (i % 5) >>> (26 : UInt64)
    let z := y.set (i % 5) (g64 y (i % 5) &&& M26)
    if i % 5 = 4 then z.set 0 (g64 z 0 + 5 * c) else z.set (i % 5 + 1) (g64 z (i % 5 + 1) + c)
theorem carSt_len (x : List UInt64) : ∀ i, (carSt x i).length = x.length
  | 0 => rfl
  | i + 1 => by
    simp only [carSt]
    split <;> simp [carSt_len x i]
def car (x : List UInt64) : List UInt64 := carSt x 6
theorem car_eq (a b c d e : UInt64) : car [a, b, c, d, e] =
    (let c0 := a >>> (26 : UInt64); let b1 := b + c0; let c1 := b1 >>> (26 : UInt64); let c' := c + c1; let c2 := c' >>> (26 : UInt64); let d' := d + c2; let c3 := d' >>> (26 : UInt64); let e' := e + c3; let c4 := e' >>> (26 : UInt64)
     let a' := (a &&& M26) + 5 * c4; let c5 := a' >>> (26 : UInt64)
     [a' &&& M26, (b1 &&& M26) + c5, c' &&& M26, d' &&& M26, e' &&& M26]) := rfl
/-- limbs that are not too great are carried to small ones; the number stays, modulo -/
theorem car_val {x : List UInt64} (h : x.length = 5) (hb : ∀ i, i < 5 → (g64 x i).toNat < 1152921504606846976) :
    ∃ k, ws x = ws (car x) + k * pP ∧ (car x).length = 5 ∧ (∀ i, i < 5 → (g64 (car x) i).toNat < 67108864 + 1048576) ∧ (g64 (car x) 4).toNat < 67108864 := by
  obtain ⟨a, b, c, d, e, rfl⟩ := five h
  have ha : a.toNat < 1152921504606846976 := hb 0 (by decide)
  have hb' : b.toNat < 1152921504606846976 := hb 1 (by decide)
  have hc : c.toNat < 1152921504606846976 := hb 2 (by decide)
  have hd : d.toNat < 1152921504606846976 := hb 3 (by decide)
  have he : e.toNat < 1152921504606846976 := hb 4 (by decide)
  rw [car_eq]
  simp only
  have s0 := sh26 a
  generalize a >>> (26 : UInt64) = c0 at *
  have e1 : (b + c0).toNat = b.toNat + c0.toNat := ad64 (by omega)
  generalize b + c0 = b1 at *
  have s1 := sh26 b1
  generalize hb1 : b1 >>> (26 : UInt64) = c1 at *
  have e2 : (c + c1).toNat = c.toNat + c1.toNat := ad64 (by omega)
  generalize c + c1 = c' at *
  have s2 := sh26 c'
  generalize c' >>> (26 : UInt64) = c2 at *
  have e3 : (d + c2).toNat = d.toNat + c2.toNat := ad64 (by omega)
  generalize d + c2 = d' at *
  have s3 := sh26 d'
  generalize d' >>> (26 : UInt64) = c3 at *
  have e4 : (e + c3).toNat = e.toNat + c3.toNat := ad64 (by omega)
  generalize e + c3 = e' at *
  have s4 := sh26 e'
  generalize e' >>> (26 : UInt64) = c4 at *
  have m5 : (5 * c4).toNat = 5 * c4.toNat := mu64 (by show 5 * c4.toNat < _; omega)
  have n0 := an26 a
  generalize a &&& M26 = a0 at *
  have e5 : (a0 + 5 * c4).toNat = a0.toNat + 5 * c4.toNat := by rw [ad64 (by omega), m5]
  generalize a0 + 5 * c4 = a' at *
  have s5 := sh26 a'
  generalize a' >>> (26 : UInt64) = c5 at *
  have n1 := an26 b1
  generalize b1 &&& M26 = b0 at *
  have e6 : (b0 + c5).toNat = b0.toNat + c5.toNat := ad64 (by omega)
  have n2 := an26 a'
  have n3 := an26 c'
  have n4 := an26 d'
  have n5 := an26 e'
  refine ⟨c4.toNat, ?_, rfl, ?_, ?_⟩
  · simp only [ws]
    rw [e6, n2, n3, n4, n5]
    unfold pP
    omega
  · intro i hi
    have : i = 0 ∨ i = 1 ∨ i = 2 ∨ i = 3 ∨ i = 4 := by omega
    rcases this with rfl | rfl | rfl | rfl | rfl
    · show (a' &&& M26).toNat < _; omega
    · show (b0 + c5).toNat < _; omega
    · show (c' &&& M26).toNat < _; omega
    · show (d' &&& M26).toNat < _; omega
    · show (e' &&& M26).toNat < _; omega
  · show (e' &&& M26).toNat < _; omega
/-- limbs carried once are carried to less than 26 bits each -/
theorem car_full {x : List UInt64} (h : x.length = 5) (hb : ∀ i, i < 5 → i ≠ 1 → (g64 x i).toNat < 67108864) (hb1 : (g64 x 1).toNat < 67108864 + 1048576) :
    ∃ k, ws x = ws (car x) + k * pP ∧ (car x).length = 5 ∧ (∀ i, i < 5 → (g64 (car x) i).toNat < 67108864) := by
  obtain ⟨a, b, c, d, e, rfl⟩ := five h
  have ha : a.toNat < 67108864 := hb 0 (by decide) (by decide)
  have hb' : b.toNat < 67108864 + 1048576 := hb1
  have hc : c.toNat < 67108864 := hb 2 (by decide) (by decide)
  have hd : d.toNat < 67108864 := hb 3 (by decide) (by decide)
  have he : e.toNat < 67108864 := hb 4 (by decide) (by decide)
  rw [car_eq]
  simp only
  have s0 := sh26 a
  generalize a >>> (26 : UInt64) = c0 at *
  have e1 : (b + c0).toNat = b.toNat + c0.toNat := ad64 (by omega)
  generalize b + c0 = b1 at *
  have s1 := sh26 b1
  generalize hb1 : b1 >>> (26 : UInt64) = c1 at *
  have e2 : (c + c1).toNat = c.toNat + c1.toNat := ad64 (by omega)
  generalize c + c1 = c' at *
  have s2 := sh26 c'
  generalize c' >>> (26 : UInt64) = c2 at *
  have e3 : (d + c2).toNat = d.toNat + c2.toNat := ad64 (by omega)
  generalize d + c2 = d' at *
  have s3 := sh26 d'
  generalize d' >>> (26 : UInt64) = c3 at *
  have e4 : (e + c3).toNat = e.toNat + c3.toNat := ad64 (by omega)
  generalize e + c3 = e' at *
  have s4 := sh26 e'
  generalize e' >>> (26 : UInt64) = c4 at *
  have m5 : (5 * c4).toNat = 5 * c4.toNat := mu64 (by show 5 * c4.toNat < _; omega)
  have n0 := an26 a
  generalize a &&& M26 = a0 at *
  have e5 : (a0 + 5 * c4).toNat = a0.toNat + 5 * c4.toNat := by rw [ad64 (by omega), m5]
  generalize a0 + 5 * c4 = a' at *
  have s5 := sh26 a'
  generalize a' >>> (26 : UInt64) = c5 at *
  have n1 := an26 b1
  generalize b1 &&& M26 = b0 at *
  have e6 : (b0 + c5).toNat = b0.toNat + c5.toNat := ad64 (by omega)
  have n2 := an26 a'
  have n3 := an26 c'
  have n4 := an26 d'
  have n5 := an26 e'
  refine ⟨c4.toNat, ?_, rfl, ?_⟩
  · simp only [ws]
    rw [e6, n2, n3, n4, n5]
    unfold pP
    omega
  · intro i hi
    have : i = 0 ∨ i = 1 ∨ i = 2 ∨ i = 3 ∨ i = 4 := by omega
    rcases this with rfl | rfl | rfl | rfl | rfl
    · show (a' &&& M26).toNat < _; omega
    · show (b0 + c5).toNat < _; omega
    · show (c' &&& M26).toNat < _; omega
    · show (d' &&& M26).toNat < _; omega
    · show (e' &&& M26).toNat < _; omega
/-! ### products -/
def mulP (x r : List UInt64) (i k : Nat) : UInt64 := if 5 ≤ i + k then g64 x i * g64 r k * 5 else g64 x i * g64 r k
/-- the products summed up so far: n of 25 -/
def prSt (x r : List UInt64) : Nat → List UInt64
  | 0 => [0, 0, 0, 0, 0]
  | n + 1 => (prSt x r n).set ((n / 5 + n % 5) % 5) (g64 (prSt x r n) ((n / 5 + n % 5) % 5) + mulP x r (n / 5) (n % 5))
theorem prSt_len (x r : List UInt64) : ∀ n, (prSt x r n).length = 5
  | 0 => rfl
  | n + 1 => by simp only [prSt, List.length_set]; exact prSt_len x r n
theorem prSt_s (x r : List UInt64) (n : Nat) : prSt x r (n + 1) = (prSt x r n).set ((n / 5 + n % 5) % 5) (g64 (prSt x r n) ((n / 5 + n % 5) % 5) + mulP x r (n / 5) (n % 5)) := rfl
theorem pr_eq (a b c d e r s t u v : UInt64) : prSt [a, b, c, d, e] [r, s, t, u, v] 25 = [0 + a * r + b * v * 5 + c * u * 5 + d * t * 5 + e * s * 5, 0 + a * s + b * r + c * v * 5 + d * u * 5 + e * t * 5, 0 + a * t + b * s + c * r + d * v * 5 + e * u * 5, 0 + a * u + b * t + c * s + d * r + e * v * 5, 0 + a * v + b * u + c * t + d * s + e * r] := by
  have h1 : prSt [a, b, c, d, e] [r, s, t, u, v] 1 = [0 + a * r, 0, 0, 0, 0] := rfl
  have h2 : prSt [a, b, c, d, e] [r, s, t, u, v] 2 = [0 + a * r, 0 + a * s, 0, 0, 0] := by rw [prSt_s _ _ 1, h1]; rfl
  have h3 : prSt [a, b, c, d, e] [r, s, t, u, v] 3 = [0 + a * r, 0 + a * s, 0 + a * t, 0, 0] := by rw [prSt_s _ _ 2, h2]; rfl
  have h4 : prSt [a, b, c, d, e] [r, s, t, u, v] 4 = [0 + a * r, 0 + a * s, 0 + a * t, 0 + a * u, 0] := by rw [prSt_s _ _ 3, h3]; rfl
  have h5 : prSt [a, b, c, d, e] [r, s, t, u, v] 5 = [0 + a * r, 0 + a * s, 0 + a * t, 0 + a * u, 0 + a * v] := by rw [prSt_s _ _ 4, h4]; rfl
  have h6 : prSt [a, b, c, d, e] [r, s, t, u, v] 6 = [0 + a * r, 0 + a * s + b * r, 0 + a * t, 0 + a * u, 0 + a * v] := by rw [prSt_s _ _ 5, h5]; rfl
  have h7 : prSt [a, b, c, d, e] [r, s, t, u, v] 7 = [0 + a * r, 0 + a * s + b * r, 0 + a * t + b * s, 0 + a * u, 0 + a * v] := by rw [prSt_s _ _ 6, h6]; rfl
  have h8 : prSt [a, b, c, d, e] [r, s, t, u, v] 8 = [0 + a * r, 0 + a * s + b * r, 0 + a * t + b * s, 0 + a * u + b * t, 0 + a * v] := by rw [prSt_s _ _ 7, h7]; rfl
  have h9 : prSt [a, b, c, d, e] [r, s, t, u, v] 9 = [0 + a * r, 0 + a * s + b * r, 0 + a * t + b * s, 0 + a * u + b * t, 0 + a * v + b * u] := by rw [prSt_s _ _ 8, h8]; rfl
  have h10 : prSt [a, b, c, d, e] [r, s, t, u, v] 10 = [0 + a * r + b * v * 5, 0 + a * s + b * r, 0 + a * t + b * s, 0 + a * u + b * t, 0 + a * v + b * u] := by rw [prSt_s _ _ 9, h9]; rfl
  have h11 : prSt [a, b, c, d, e] [r, s, t, u, v] 11 = [0 + a * r + b * v * 5, 0 + a * s + b * r, 0 + a * t + b * s + c * r, 0 + a * u + b * t, 0 + a * v + b * u] := by rw [prSt_s _ _ 10, h10]; rfl
  have h12 : prSt [a, b, c, d, e] [r, s, t, u, v] 12 = [0 + a * r + b * v * 5, 0 + a * s + b * r, 0 + a * t + b * s + c * r, 0 + a * u + b * t + c * s, 0 + a * v + b * u] := by rw [prSt_s _ _ 11, h11]; rfl
  have h13 : prSt [a, b, c, d, e] [r, s, t, u, v] 13 = [0 + a * r + b * v * 5, 0 + a * s + b * r, 0 + a * t + b * s + c * r, 0 + a * u + b * t + c * s, 0 + a * v + b * u + c * t] := by rw [prSt_s _ _ 12, h12]; rfl
  have h14 : prSt [a, b, c, d, e] [r, s, t, u, v] 14 = [0 + a * r + b * v * 5 + c * u * 5, 0 + a * s + b * r, 0 + a * t + b * s + c * r, 0 + a * u + b * t + c * s, 0 + a * v + b * u + c * t] := by rw [prSt_s _ _ 13, h13]; rfl
  have h15 : prSt [a, b, c, d, e] [r, s, t, u, v] 15 = [0 + a * r + b * v * 5 + c * u * 5, 0 + a * s + b * r + c * v * 5, 0 + a * t + b * s + c * r, 0 + a * u + b * t + c * s, 0 + a * v + b * u + c * t] := by rw [prSt_s _ _ 14, h14]; rfl
  have h16 : prSt [a, b, c, d, e] [r, s, t, u, v] 16 = [0 + a * r + b * v * 5 + c * u * 5, 0 + a * s + b * r + c * v * 5, 0 + a * t + b * s + c * r, 0 + a * u + b * t + c * s + d * r, 0 + a * v + b * u + c * t] := by rw [prSt_s _ _ 15, h15]; rfl
  have h17 : prSt [a, b, c, d, e] [r, s, t, u, v] 17 = [0 + a * r + b * v * 5 + c * u * 5, 0 + a * s + b * r + c * v * 5, 0 + a * t + b * s + c * r, 0 + a * u + b * t + c * s + d * r, 0 + a * v + b * u + c * t + d * s] := by rw [prSt_s _ _ 16, h16]; rfl
  have h18 : prSt [a, b, c, d, e] [r, s, t, u, v] 18 = [0 + a * r + b * v * 5 + c * u * 5 + d * t * 5, 0 + a * s + b * r + c * v * 5, 0 + a * t + b * s + c * r, 0 + a * u + b * t + c * s + d * r, 0 + a * v + b * u + c * t + d * s] := by rw [prSt_s _ _ 17, h17]; rfl
  have h19 : prSt [a, b, c, d, e] [r, s, t, u, v] 19 = [0 + a * r + b * v * 5 + c * u * 5 + d * t * 5, 0 + a * s + b * r + c * v * 5 + d * u * 5, 0 + a * t + b * s + c * r, 0 + a * u + b * t + c * s + d * r, 0 + a * v + b * u + c * t + d * s] := by rw [prSt_s _ _ 18, h18]; rfl
  have h20 : prSt [a, b, c, d, e] [r, s, t, u, v] 20 = [0 + a * r + b * v * 5 + c * u * 5 + d * t * 5, 0 + a * s + b * r + c * v * 5 + d * u * 5, 0 + a * t + b * s + c * r + d * v * 5, 0 + a * u + b * t + c * s + d * r, 0 + a * v + b * u + c * t + d * s] := by rw [prSt_s _ _ 19, h19]; rfl
  have h21 : prSt [a, b, c, d, e] [r, s, t, u, v] 21 = [0 + a * r + b * v * 5 + c * u * 5 + d * t * 5, 0 + a * s + b * r + c * v * 5 + d * u * 5, 0 + a * t + b * s + c * r + d * v * 5, 0 + a * u + b * t + c * s + d * r, 0 + a * v + b * u + c * t + d * s + e * r] := by rw [prSt_s _ _ 20, h20]; rfl
  have h22 : prSt [a, b, c, d, e] [r, s, t, u, v] 22 = [0 + a * r + b * v * 5 + c * u * 5 + d * t * 5 + e * s * 5, 0 + a * s + b * r + c * v * 5 + d * u * 5, 0 + a * t + b * s + c * r + d * v * 5, 0 + a * u + b * t + c * s + d * r, 0 + a * v + b * u + c * t + d * s + e * r] := by rw [prSt_s _ _ 21, h21]; rfl
  have h23 : prSt [a, b, c, d, e] [r, s, t, u, v] 23 = [0 + a * r + b * v * 5 + c * u * 5 + d * t * 5 + e * s * 5, 0 + a * s + b * r + c * v * 5 + d * u * 5 + e * t * 5, 0 + a * t + b * s + c * r + d * v * 5, 0 + a * u + b * t + c * s + d * r, 0 + a * v + b * u + c * t + d * s + e * r] := by rw [prSt_s _ _ 22, h22]; rfl
  have h24 : prSt [a, b, c, d, e] [r, s, t, u, v] 24 = [0 + a * r + b * v * 5 + c * u * 5 + d * t * 5 + e * s * 5, 0 + a * s + b * r + c * v * 5 + d * u * 5 + e * t * 5, 0 + a * t + b * s + c * r + d * v * 5 + e * u * 5, 0 + a * u + b * t + c * s + d * r, 0 + a * v + b * u + c * t + d * s + e * r] := by rw [prSt_s _ _ 23, h23]; rfl
  have h25 : prSt [a, b, c, d, e] [r, s, t, u, v] 25 = [0 + a * r + b * v * 5 + c * u * 5 + d * t * 5 + e * s * 5, 0 + a * s + b * r + c * v * 5 + d * u * 5 + e * t * 5, 0 + a * t + b * s + c * r + d * v * 5 + e * u * 5, 0 + a * u + b * t + c * s + d * r + e * v * 5, 0 + a * v + b * u + c * t + d * s + e * r] := by rw [prSt_s _ _ 24, h24]; rfl
  exact h25
def times (x r : List UInt64) : List UInt64 := car (prSt x r 25)
theorem prod_le {x y X Y : Nat} (hx : x ≤ X) (hy : y ≤ Y) : x * y ≤ X * Y := Nat.mul_le_mul hx hy
theorem pr_val {x r : List UInt64} (hx : x.length = 5) (hr : r.length = 5) (bx : ∀ i, i < 5 → (g64 x i).toNat < 268435456) (br : ∀ i, i < 5 → (g64 r i).toNat < 67108864) :
    (∃ k, ws x * ws r = ws (prSt x r 25) + k * pP) ∧ ∀ i, i < 5 → (g64 (prSt x r 25) i).toNat < 1152921504606846976 := by
  obtain ⟨a, b, c, d, e, rfl⟩ := five hx
  obtain ⟨r, s, t, u, v, rfl⟩ := five hr
  have ha : a.toNat ≤ 268435455 := Nat.le_of_lt_succ (bx 0 (by decide))
  have hb : b.toNat ≤ 268435455 := Nat.le_of_lt_succ (bx 1 (by decide))
  have hc : c.toNat ≤ 268435455 := Nat.le_of_lt_succ (bx 2 (by decide))
  have hd : d.toNat ≤ 268435455 := Nat.le_of_lt_succ (bx 3 (by decide))
  have he : e.toNat ≤ 268435455 := Nat.le_of_lt_succ (bx 4 (by decide))
  have hr' : r.toNat ≤ 67108863 := Nat.le_of_lt_succ (br 0 (by decide))
  have hs : s.toNat ≤ 67108863 := Nat.le_of_lt_succ (br 1 (by decide))
  have ht : t.toNat ≤ 67108863 := Nat.le_of_lt_succ (br 2 (by decide))
  have hu : u.toNat ≤ 67108863 := Nat.le_of_lt_succ (br 3 (by decide))
  have hv : v.toNat ≤ 67108863 := Nat.le_of_lt_succ (br 4 (by decide))
  rw [pr_eq]
  have one : ∀ {p q : UInt64}, p.toNat ≤ 268435455 → q.toNat ≤ 67108863 → (p * q).toNat = p.toNat * q.toNat ∧ p.toNat * q.toNat ≤ 18014398174429185 := fun {p q} hp hq => by
    have := prod_le hp hq
    have hle : p.toNat * q.toNat ≤ 18014398174429185 := Nat.le_trans this (by decide)
    exact ⟨mu64 (by omega), hle⟩
  have fv : ∀ {p q : UInt64}, p.toNat ≤ 268435455 → q.toNat ≤ 67108863 → (p * q * 5).toNat = p.toNat * q.toNat * 5 ∧ p.toNat * q.toNat ≤ 18014398174429185 := fun hp hq => by
    obtain ⟨h1, h2⟩ := one hp hq
    refine ⟨?_, h2⟩
    rw [mu64 (by rw [h1]; show _ * 5 < _; omega), h1]; rfl
  obtain ⟨q00, b00⟩ := one ha hr'
  obtain ⟨q01, b01⟩ := one ha hs
  obtain ⟨q02, b02⟩ := one ha ht
  obtain ⟨q03, b03⟩ := one ha hu
  obtain ⟨q04, b04⟩ := one ha hv
  obtain ⟨q10, b10⟩ := one hb hr'
  obtain ⟨q11, b11⟩ := one hb hs
  obtain ⟨q12, b12⟩ := one hb ht
  obtain ⟨q13, b13⟩ := one hb hu
  obtain ⟨q14, b14⟩ := fv hb hv
  obtain ⟨q20, b20⟩ := one hc hr'
  obtain ⟨q21, b21⟩ := one hc hs
  obtain ⟨q22, b22⟩ := one hc ht
  obtain ⟨q23, b23⟩ := fv hc hu
  obtain ⟨q24, b24⟩ := fv hc hv
  obtain ⟨q30, b30⟩ := one hd hr'
  obtain ⟨q31, b31⟩ := one hd hs
  obtain ⟨q32, b32⟩ := fv hd ht
  obtain ⟨q33, b33⟩ := fv hd hu
  obtain ⟨q34, b34⟩ := fv hd hv
  obtain ⟨q40, b40⟩ := one he hr'
  obtain ⟨q41, b41⟩ := fv he hs
  obtain ⟨q42, b42⟩ := fv he ht
  obtain ⟨q43, b43⟩ := fv he hu
  obtain ⟨q44, b44⟩ := fv he hv
  have w00 : (0 + a * r).toNat = a.toNat * r.toNat := by rw [ad64 (by rw [q00]; show 0 + _ < _; omega), q00]; show 0 + _ = _; omega
  have w01 : (0 + a * r + b * v * 5).toNat = a.toNat * r.toNat + b.toNat * v.toNat * 5 := by rw [ad64 (by rw [w00, q14]; omega), w00, q14]
  have w02 : (0 + a * r + b * v * 5 + c * u * 5).toNat = a.toNat * r.toNat + b.toNat * v.toNat * 5 + c.toNat * u.toNat * 5 := by rw [ad64 (by rw [w01, q23]; omega), w01, q23]
  have w03 : (0 + a * r + b * v * 5 + c * u * 5 + d * t * 5).toNat = a.toNat * r.toNat + b.toNat * v.toNat * 5 + c.toNat * u.toNat * 5 + d.toNat * t.toNat * 5 := by rw [ad64 (by rw [w02, q32]; omega), w02, q32]
  have w04 : (0 + a * r + b * v * 5 + c * u * 5 + d * t * 5 + e * s * 5).toNat = a.toNat * r.toNat + b.toNat * v.toNat * 5 + c.toNat * u.toNat * 5 + d.toNat * t.toNat * 5 + e.toNat * s.toNat * 5 := by rw [ad64 (by rw [w03, q41]; omega), w03, q41]
  have w10 : (0 + a * s).toNat = a.toNat * s.toNat := by rw [ad64 (by rw [q01]; show 0 + _ < _; omega), q01]; show 0 + _ = _; omega
  have w11 : (0 + a * s + b * r).toNat = a.toNat * s.toNat + b.toNat * r.toNat := by rw [ad64 (by rw [w10, q10]; omega), w10, q10]
  have w12 : (0 + a * s + b * r + c * v * 5).toNat = a.toNat * s.toNat + b.toNat * r.toNat + c.toNat * v.toNat * 5 := by rw [ad64 (by rw [w11, q24]; omega), w11, q24]
  have w13 : (0 + a * s + b * r + c * v * 5 + d * u * 5).toNat = a.toNat * s.toNat + b.toNat * r.toNat + c.toNat * v.toNat * 5 + d.toNat * u.toNat * 5 := by rw [ad64 (by rw [w12, q33]; omega), w12, q33]
  have w14 : (0 + a * s + b * r + c * v * 5 + d * u * 5 + e * t * 5).toNat = a.toNat * s.toNat + b.toNat * r.toNat + c.toNat * v.toNat * 5 + d.toNat * u.toNat * 5 + e.toNat * t.toNat * 5 := by rw [ad64 (by rw [w13, q42]; omega), w13, q42]
  have w20 : (0 + a * t).toNat = a.toNat * t.toNat := by rw [ad64 (by rw [q02]; show 0 + _ < _; omega), q02]; show 0 + _ = _; omega
  have w21 : (0 + a * t + b * s).toNat = a.toNat * t.toNat + b.toNat * s.toNat := by rw [ad64 (by rw [w20, q11]; omega), w20, q11]
  have w22 : (0 + a * t + b * s + c * r).toNat = a.toNat * t.toNat + b.toNat * s.toNat + c.toNat * r.toNat := by rw [ad64 (by rw [w21, q20]; omega), w21, q20]
  have w23 : (0 + a * t + b * s + c * r + d * v * 5).toNat = a.toNat * t.toNat + b.toNat * s.toNat + c.toNat * r.toNat + d.toNat * v.toNat * 5 := by rw [ad64 (by rw [w22, q34]; omega), w22, q34]
  have w24 : (0 + a * t + b * s + c * r + d * v * 5 + e * u * 5).toNat = a.toNat * t.toNat + b.toNat * s.toNat + c.toNat * r.toNat + d.toNat * v.toNat * 5 + e.toNat * u.toNat * 5 := by rw [ad64 (by rw [w23, q43]; omega), w23, q43]
  have w30 : (0 + a * u).toNat = a.toNat * u.toNat := by rw [ad64 (by rw [q03]; show 0 + _ < _; omega), q03]; show 0 + _ = _; omega
  have w31 : (0 + a * u + b * t).toNat = a.toNat * u.toNat + b.toNat * t.toNat := by rw [ad64 (by rw [w30, q12]; omega), w30, q12]
  have w32 : (0 + a * u + b * t + c * s).toNat = a.toNat * u.toNat + b.toNat * t.toNat + c.toNat * s.toNat := by rw [ad64 (by rw [w31, q21]; omega), w31, q21]
  have w33 : (0 + a * u + b * t + c * s + d * r).toNat = a.toNat * u.toNat + b.toNat * t.toNat + c.toNat * s.toNat + d.toNat * r.toNat := by rw [ad64 (by rw [w32, q30]; omega), w32, q30]
  have w34 : (0 + a * u + b * t + c * s + d * r + e * v * 5).toNat = a.toNat * u.toNat + b.toNat * t.toNat + c.toNat * s.toNat + d.toNat * r.toNat + e.toNat * v.toNat * 5 := by rw [ad64 (by rw [w33, q44]; omega), w33, q44]
  have w40 : (0 + a * v).toNat = a.toNat * v.toNat := by rw [ad64 (by rw [q04]; show 0 + _ < _; omega), q04]; show 0 + _ = _; omega
  have w41 : (0 + a * v + b * u).toNat = a.toNat * v.toNat + b.toNat * u.toNat := by rw [ad64 (by rw [w40, q13]; omega), w40, q13]
  have w42 : (0 + a * v + b * u + c * t).toNat = a.toNat * v.toNat + b.toNat * u.toNat + c.toNat * t.toNat := by rw [ad64 (by rw [w41, q22]; omega), w41, q22]
  have w43 : (0 + a * v + b * u + c * t + d * s).toNat = a.toNat * v.toNat + b.toNat * u.toNat + c.toNat * t.toNat + d.toNat * s.toNat := by rw [ad64 (by rw [w42, q31]; omega), w42, q31]
  have w44 : (0 + a * v + b * u + c * t + d * s + e * r).toNat = a.toNat * v.toNat + b.toNat * u.toNat + c.toNat * t.toNat + d.toNat * s.toNat + e.toNat * r.toNat := by rw [ad64 (by rw [w43, q40]; omega), w43, q40]
  refine ⟨⟨b.toNat * v.toNat * 1 + c.toNat * u.toNat * 1 + c.toNat * v.toNat * 67108864 + d.toNat * t.toNat * 1 + d.toNat * u.toNat * 67108864 + d.toNat * v.toNat * 4503599627370496 + e.toNat * s.toNat * 1 + e.toNat * t.toNat * 67108864 + e.toNat * u.toNat * 4503599627370496 + e.toNat * v.toNat * 302231454903657293676544, ?_⟩, ?_⟩
  · simp only [ws]
    rw [w04, w14, w24, w34, w44]
    unfold pP
    clear one fv
    generalize a.toNat = a at *
    generalize b.toNat = b at *
    generalize c.toNat = c at *
    generalize d.toNat = d at *
    generalize e.toNat = e at *
    generalize r.toNat = r at *
    generalize s.toNat = s at *
    generalize t.toNat = t at *
    generalize u.toNat = u at *
    generalize v.toNat = v at *
    clear b00 b01 b02 b03 b04 b10 b11 b12 b13 b14 b20 b21 b22 b23 b24 b30 b31 b32 b33 b34 b40 b41 b42 b43 b44 ha hb hc hd he hr' hs ht hu hv
    grind
  · intro i hi
    have : i = 0 ∨ i = 1 ∨ i = 2 ∨ i = 3 ∨ i = 4 := by omega
    rcases this with rfl | rfl | rfl | rfl | rfl
    · show (UInt64.toNat (_ + _)) < _; rw [w04]; omega
    · show (UInt64.toNat (_ + _)) < _; rw [w14]; omega
    · show (UInt64.toNat (_ + _)) < _; rw [w24]; omega
    · show (UInt64.toNat (_ + _)) < _; rw [w34]; omega
    · show (UInt64.toNat (_ + _)) < _; rw [w44]; omega
end Go.Sym.Pol
namespace Go.Sym.Pol
open Go.Sym.Lp
/-- limbs summed -/
def addL (x y : List UInt64) : List UInt64 := (List.range 5).map fun i => g64 x i + g64 y i
theorem addL_len (x y : List UInt64) : (addL x y).length = 5 := map_range_len _ _
theorem car_len (x : List UInt64) : (car x).length = x.length := carSt_len x 6
theorem times_len (x r : List UInt64) : (times x r).length = 5 := by unfold times; rw [car_len, prSt_len]
theorem carSt_step (x : List UInt64) (i : Nat) (h : ¬ i % 5 = 4) : carSt x (i + 1) = ((carSt x i).set (i % 5) (g64 (carSt x i) (i % 5) &&& M26)).set (i % 5 + 1) (g64 ((carSt x i).set (i % 5) (g64 (carSt x i) (i % 5) &&& M26)) (i % 5 + 1) + g64 (carSt x i) (i % 5) >>> (26 : UInt64)) := by
  simp only [carSt]; rw [if_neg h]
theorem carSt_four (x : List UInt64) (i : Nat) (h : i % 5 = 4) : carSt x (i + 1) = ((carSt x i).set (i % 5) (g64 (carSt x i) (i % 5) &&& M26)).set 0 (g64 ((carSt x i).set (i % 5) (g64 (carSt x i) (i % 5) &&& M26)) 0 + 5 * g64 (carSt x i) (i % 5) >>> (26 : UInt64)) := by
  simp only [carSt]; rw [if_pos h]
/-- the words of a block -/
def ldSt (b : List UInt8) : Nat → List UInt64
  | 0 => [0, 0, 0]
  | i + 1 => (ldSt b i).set (i / 8) (g64 (ldSt b i) (i / 8) ||| (b.getD i 0).toUInt64 <<< UInt64.ofNat (8 * (i % 8)))
theorem ldSt_len (b : List UInt8) : ∀ i, (ldSt b i).length = 3
  | 0 => rfl
  | i + 1 => by simp only [ldSt, List.length_set]; exact ldSt_len b i
def ldW (b : List UInt8) : List UInt64 := (ldSt b b.length).set (b.length / 8) (g64 (ldSt b b.length) (b.length / 8) ||| (1 : UInt64) <<< UInt64.ofNat (8 * (b.length % 8)))
def limb (w : List UInt64) : List UInt64 :=
  [g64 w 0 &&& M26, g64 w 0 >>> (26 : UInt64) &&& M26, (g64 w 0 >>> (52 : UInt64) ||| g64 w 1 <<< (12 : UInt64)) &&& M26, g64 w 1 >>> (14 : UInt64) &&& M26, g64 w 1 >>> (40 : UInt64) ||| g64 w 2 <<< (24 : UInt64)]
def loadL (b : List UInt8) : List UInt64 := limb (ldW b)
theorem loadL_len (b : List UInt8) : (loadL b).length = 5 := rfl
/-- a mac's next state -/
def addB (r x : List UInt64) (b : List UInt8) : List UInt64 := times (addL x (loadL b)) r
theorem addB_len (r x : List UInt64) (b : List UInt8) : (addB r x b).length = 5 := times_len _ _
end Go.Sym.Pol
namespace Go.Sym.Pol
theorem prSt_at (x r : List UInt64) {i k : Nat} (hk : k < 5) : prSt x r (5 * i + k + 1) = (prSt x r (5 * i + k)).set ((i + k) % 5) (g64 (prSt x r (5 * i + k)) ((i + k) % 5) + mulP x r i k) := by
  rw [prSt_s, show (5 * i + k) / 5 = i by omega, show (5 * i + k) % 5 = k by omega]
end Go.Sym.Pol
namespace Go.Sym.Pol
open Go.Sym.Lp
/-- a mac's state behind so many blocks -/
def allSt (r x : List UInt64) (B : List UInt8) : Nat → List UInt64
  | 0 => x
  | t + 1 => addB r (allSt r x B t) ((B.drop (16 * t)).take 16)
def allB (r x : List UInt64) (B : List UInt8) : List UInt64 := allSt r x B ((B.length + 15) / 16)
theorem allSt_len {r x : List UInt64} (hx : x.length = 5) (B : List UInt8) : ∀ t, (allSt r x B t).length = 5
  | 0 => hx
  | _ + 1 => addB_len _ _ _
theorem allB_len {r x : List UInt64} (hx : x.length = 5) (B : List UInt8) : (allB r x B).length = 5 := allSt_len hx B _
theorem chunk {l : List UInt8} {n a : Nat} : ((l.take n).drop a).take 16 = (l.drop a).take (min 16 (n - a)) := by
  rw [List.drop_take, List.take_take]
def whlSt (x : List UInt64) : Nat → List UInt64
  | 0 => x.set 0 (g64 x 0 + 5)
  | i + 1 => ((whlSt x i).set (i + 1) (g64 (whlSt x i) (i + 1) + g64 (whlSt x i) i >>> (26 : UInt64))).set i (g64 ((whlSt x i).set (i + 1) (g64 (whlSt x i) (i + 1) + g64 (whlSt x i) i >>> (26 : UInt64))) i &&& M26)
theorem whlSt_len (x : List UInt64) : ∀ i, (whlSt x i).length = x.length
  | 0 => by simp [whlSt]
  | i + 1 => by simp only [whlSt, List.length_set]; exact whlSt_len x i
theorem whlSt_s (x : List UInt64) (i : Nat) : whlSt x (i + 1) = ((whlSt x i).set (i + 1) (g64 (whlSt x i) (i + 1) + g64 (whlSt x i) i >>> (26 : UInt64))).set i (g64 ((whlSt x i).set (i + 1) (g64 (whlSt x i) (i + 1) + g64 (whlSt x i) i >>> (26 : UInt64))) i &&& M26) := rfl
/-- the least number, by limbs -/
def whole (x : List UInt64) : List UInt64 :=
  if 0 < (g64 (whlSt (car (car x)) 4) 4 >>> (26 : UInt64)).toNat then (whlSt (car (car x)) 4).set 4 (g64 (whlSt (car (car x)) 4) 4 &&& M26) else car (car x)
theorem whole_len {x : List UInt64} (h : x.length = 5) : (whole x).length = 5 := by
  unfold whole; split
  · rw [List.length_set, whlSt_len, car_len, car_len, h]
  · rw [car_len, car_len, h]
def lowW (x : List UInt64) : UInt64 := g64 x 0 ||| g64 x 1 <<< (26 : UInt64) ||| g64 x 2 <<< (52 : UInt64)
def highW (x : List UInt64) : UInt64 := g64 x 2 >>> (12 : UInt64) ||| g64 x 3 <<< (14 : UInt64) ||| g64 x 4 <<< (40 : UInt64)
/-- the bytes written out, and what is carried -/
def tgSt (lo hi : UInt64) (key : List UInt8) : Nat → List UInt8 × UInt64
  | 0 => (List.replicate 16 0, 0)
  | i + 1 =>
    let c := (tgSt lo hi key i).2 + (((if 8 ≤ i then hi else lo) >>> UInt64.ofNat (8 * (i % 8)) &&& 255) + (key.getD (16 + i) 0).toUInt64)
    ((tgSt lo hi key i).1.set i c.toUInt8, c >>> (8 : UInt64))
theorem tgSt_len (lo hi : UInt64) (key : List UInt8) : ∀ i, (tgSt lo hi key i).1.length = 16
  | 0 => rfl
  | i + 1 => by simp only [tgSt, List.length_set]; exact tgSt_len lo hi key i
def tagOf (x : List UInt64) (key : List UInt8) : List UInt8 := (tgSt (lowW (whole x)) (highW (whole x)) key 16).1
theorem tagOf_len (x : List UInt64) (key : List UInt8) : (tagOf x key).length = 16 := tgSt_len _ _ _ 16
end Go.Sym.Pol
namespace Go.Sym.Pol
section
variable (lo hi : UInt64) (key : List UInt8) {i : Nat}
theorem tg_zero : tgSt lo hi key 0 = (List.replicate 16 0, 0) := rfl
theorem tg_hi (h : 8 ≤ i) : tgSt lo hi key (i + 1) = ((tgSt lo hi key i).1.set i ((tgSt lo hi key i).2 + ((hi >>> UInt64.ofNat (8 * (i % 8)) &&& 255) + (key.getD (16 + i) 0).toUInt64)).toUInt8, ((tgSt lo hi key i).2 + ((hi >>> UInt64.ofNat (8 * (i % 8)) &&& 255) + (key.getD (16 + i) 0).toUInt64)) >>> (8 : UInt64)) := by
  simp only [tgSt]; rw [if_pos h]
theorem tg_lo (h : ¬ 8 ≤ i) : tgSt lo hi key (i + 1) = ((tgSt lo hi key i).1.set i ((tgSt lo hi key i).2 + ((lo >>> UInt64.ofNat (8 * (i % 8)) &&& 255) + (key.getD (16 + i) 0).toUInt64)).toUInt8, ((tgSt lo hi key i).2 + ((lo >>> UInt64.ofNat (8 * (i % 8)) &&& 255) + (key.getD (16 + i) 0).toUInt64)) >>> (8 : UInt64)) := by
  simp only [tgSt]; rw [if_neg h]
end
end Go.Sym.Pol
namespace Go.Sym.Pol
open Go.Sym.Lp
def cA (b : List UInt8) : Nat → List UInt8
  | 0 => b
  | j + 1 => (cA b j).set (3 + 4 * j) ((cA b j).getD (3 + 4 * j) 0 &&& UInt8.ofNat 15)
def cC (b : List UInt8) : Nat → List UInt8
  | 0 => b
  | j + 1 => (cC b j).set (4 + 4 * j) ((cC b j).getD (4 + 4 * j) 0 &&& UInt8.ofNat 252)
theorem cA_len (b : List UInt8) : ∀ j, (cA b j).length = b.length
  | 0 => rfl
  | j + 1 => by simp only [cA, List.length_set]; exact cA_len b j
theorem cC_len (b : List UInt8) : ∀ j, (cC b j).length = b.length
  | 0 => rfl
  | j + 1 => by simp only [cC, List.length_set]; exact cC_len b j
theorem set_front {b tl : List UInt8} {k : Nat} (h : k < b.length) (m : UInt8) : (b ++ tl).set k ((b ++ tl).getD k 0 &&& m) = b.set k (b.getD k 0 &&& m) ++ tl := by
  rw [List.set_append_left _ _ h, List.getD_eq_getElem?_getD, List.getElem?_append_left h, ← List.getD_eq_getElem?_getD]
def rOf (key : List UInt8) : List UInt64 := (loadL (cC (cA (key.take 16) 4) 3)).set 4 (g64 (loadL (cC (cA (key.take 16) 4) 3)) 4 &&& UInt64.ofNat 16777215)
theorem rOf_len (key : List UInt8) : (rOf key).length = 5 := by unfold rOf; rw [List.length_set]; exact loadL_len _
def fillB (n : Nat) : List UInt8 := List.replicate ((16 - n % 16) % 16) 0
def len8 (n : Nat) : List UInt8 := [UInt8.ofInt (n : Int), UInt8.ofInt ((n : Int) / 2 ^ 8), UInt8.ofInt ((n : Int) / 2 ^ 16), UInt8.ofInt ((n : Int) / 2 ^ 24), 0, 0, 0, 0]
/-- the bytes that a mac is of, in three parts -/
def macSt (r : List UInt64) (aad b : List UInt8) : List UInt64 :=
  allB r (allB r (allB r [0, 0, 0, 0, 0] (aad ++ fillB aad.length)) (b.take (b.length - b.length % 16))) (b.drop (b.length - b.length % 16) ++ fillB b.length ++ len8 aad.length ++ len8 b.length)
end Go.Sym.Pol
namespace Go.Sym.Pol
theorem fillB_len (n : Nat) : (fillB n).length = (16 - n % 16) % 16 := by unfold fillB; exact List.length_replicate
theorem len8_len (n : Nat) : (len8 n).length = 8 := rfl
end Go.Sym.Pol

namespace Go.Sym.A
open Go Go.Proofs.Try Go.Sym.Lp Go.Sym.Pol
set_option maxRecDepth 100000
attribute [local irreducible] ldSt carSt prSt
/-- the orders of the drawn regions of poly.number.carry -/
def pl121 : List (Nat × List PStep) := [(4, [⟨0, []⟩, ⟨1, [0]⟩, ⟨2, [0]⟩, ⟨3, [1, 2]⟩, ⟨4, []⟩, ⟨5, []⟩, ⟨6, []⟩, ⟨7, [1, 2, 3, 4, 5, 6]⟩, ⟨8, []⟩, ⟨9, []⟩]), (6, [⟨0, []⟩, ⟨1, []⟩, ⟨2, []⟩, ⟨3, []⟩, ⟨4, [0, 1, 2, 3]⟩, ⟨5, [0, 1, 2, 3]⟩, ⟨6, []⟩, ⟨7, [1, 2, 3, 4, 5, 6]⟩, ⟨8, []⟩, ⟨9, []⟩]), (7, [⟨0, []⟩, ⟨1, [0]⟩, ⟨2, [0]⟩, ⟨3, [0]⟩, ⟨4, [1, 2, 3]⟩, ⟨5, []⟩, ⟨6, []⟩, ⟨7, [0, 1, 2, 3, 4, 5, 6]⟩, ⟨8, []⟩, ⟨9, [1, 2, 3, 4, 5, 6, 7, 8]⟩, ⟨10, []⟩, ⟨11, []⟩])]
/-- the orders of the drawn regions of poly.number.times -/
def pl120 : List (Nat × List PStep) := [(7, [⟨0, []⟩, ⟨1, [0]⟩, ⟨2, [1]⟩, ⟨3, []⟩, ⟨4, []⟩, ⟨5, [0, 1, 2, 3, 4]⟩, ⟨6, [0, 1, 2, 3, 4, 5]⟩, ⟨7, [0, 1, 2, 3, 4, 6]⟩, ⟨8, [0, 1, 2, 3, 4]⟩, ⟨9, [0, 1, 2, 3, 4]⟩, ⟨10, []⟩, ⟨11, []⟩])]
/-- the orders of the drawn regions of poly.load -/
def pl102 : List (Nat × List PStep) := [(5, [⟨0, []⟩, ⟨1, []⟩, ⟨2, []⟩, ⟨3, []⟩, ⟨4, [0, 1, 2, 3]⟩, ⟨5, [0, 1, 2, 3]⟩, ⟨6, [0, 1, 2, 3, 4, 5]⟩, ⟨7, [0, 1, 2, 3, 4, 5]⟩, ⟨8, [0, 1, 2, 3, 4, 5]⟩, ⟨9, [0, 1, 2, 3]⟩, ⟨10, []⟩, ⟨11, []⟩, ⟨12, []⟩]), (7, [⟨0, []⟩, ⟨1, []⟩, ⟨2, []⟩, ⟨3, []⟩, ⟨4, []⟩, ⟨5, [0, 1, 2, 3, 4]⟩, ⟨6, [0, 1, 2, 3, 4]⟩, ⟨7, [0, 1, 2, 3, 4]⟩, ⟨8, [0, 1, 2, 3, 4]⟩, ⟨9, [0, 1, 2, 3, 4]⟩, ⟨10, []⟩, ⟨11, []⟩, ⟨12, []⟩])]
/-- the orders of the drawn regions of poly.sum.add -/
def pl103 : List (Nat × List PStep) := [(4, [⟨0, []⟩, ⟨1, [0]⟩, ⟨2, [1]⟩, ⟨3, [1]⟩, ⟨4, []⟩, ⟨5, []⟩, ⟨6, [0, 1, 2, 3, 4, 5]⟩, ⟨7, [0, 1, 2, 3, 4, 5]⟩, ⟨8, [0, 1, 2, 3, 4, 5]⟩, ⟨9, []⟩, ⟨10, [1, 2, 3, 4, 5, 6, 7, 8, 9]⟩, ⟨11, [1, 2, 3, 4, 5, 6, 7, 8, 9]⟩, ⟨12, []⟩, ⟨13, []⟩]), (6, [⟨0, []⟩, ⟨1, []⟩, ⟨2, []⟩, ⟨3, [0, 1, 2]⟩, ⟨4, [0, 1, 2]⟩, ⟨5, [0, 1, 2]⟩, ⟨6, []⟩])]
def tyPol : List (Nat × TyI) := [(3, ty3), (4, ty4), (5, ty5), (9, ty9), (34, ty34), (91, ty91), (35, ty35), (103, ty103), (153, ty153), (177, ty177), (156, ty156), (124, ty124), (175, ty175), (152, ty152)]
theorem tyPol_ok : ∀ t i, look tyPol t = some i → TyOK prog t i := (tyok_cons ty3_ok (tyok_cons ty4_ok (tyok_cons ty5_ok (tyok_cons ty9_ok (tyok_cons ty34_ok (tyok_cons ty91_ok (tyok_cons ty35_ok (tyok_cons ty103_ok (tyok_cons ty153_ok (tyok_cons ty177_ok (tyok_cons ty156_ok (tyok_cons ty124_ok (tyok_cons ty175_ok (tyok_cons ty152_ok tyok_nil))))))))))))))

def carryS : Spec := fun args hp K => match args, hp with
  | [.ptr 0 0 0 []], [.mk t [.arr64 5 x]] => Pre (x.length = 5) (K (.tup []) [.mk t [.arr64 5 (car x)]])
  | _, _ => False
theorem carry_s : SoundC prog 121 carryS := by
  refine sound_f tyPol_ok fnok_nil rfl func121 rfl call121 (D := pl121) ?_ ?_
  · intro args hp K h
    unfold carryS at h
    split at h
    · exact Nat.le_of_ble_eq_true rfl
    · exact h.elim
  · intro args hp K h
    unfold carryS at h
    split at h
    · rename_i t x
      obtain ⟨hx, h⟩ := pre_e h
      repeat ((conv => whnf); first | refine pre_a ?_ | refine cond_ta ?_ | refine cond_fa ?_ | refine same_i ?_)
      conv => whnf
      refine loop_h (Ix (6)) (fun q => ⟨[(0, .ptr 0 0 0 []), (4, .int q.i)], [.mk t [.arr64 5 (carSt x q.i)]]⟩) (fun q => (6) - q.i) ⟨0, Nat.zero_le _⟩ [0] ?_ ?_
      · repeat ((conv => whnf); refine same_i ?_)
        conv => whnf
        refine same_q (congrArg (fun x => SV.agg [SV.arr64 5 x]) (show x = carSt x 0 by unfold carSt; rfl)) ?_
        repeat ((conv => whnf); refine same_i ?_)
        exact trivial
      · intro q
        have hi := q.hi
        have hl := carSt_len x q.i
        have hm : (q.i : Int).tmod 5 = ((q.i % 5 : Nat) : Int) := by rw [Int.tmod_eq_emod_of_nonneg (by omega)]; omega
        have hI : ((q.i : Int).tmod 5).toNat = q.i % 5 := by omega
        have hJ : ((q.i : Int).tmod 5 + 1).toNat = q.i % 5 + 1 := by omega
        by_cases h4 : q.i < 6
        · by_cases h5 : q.i % 5 = 4
          · repeat ((conv => whnf); first | refine pre_a ?_ | refine cond_ta ?_ | refine cond_fa ?_ | refine same_i ?_)
            conv => whnf
            rw [hI]
            conv => whnf
            refine ⟨⟨q.i + 1, h4⟩, [0], by show (6) - (q.i + 1) < (6) - q.i; omega, ?_⟩
            repeat ((conv => whnf); refine same_i ?_)
            conv => whnf
            refine same_q (congrArg (fun x => SV.agg [SV.arr64 5 x]) (carSt_four x q.i h5).symm) ?_
            repeat ((conv => whnf); refine same_i ?_)
            exact trivial
          · repeat ((conv => whnf); first | refine pre_a ?_ | refine cond_ta ?_ | refine cond_fa ?_ | refine same_i ?_)
            conv => whnf
            rw [hI, hJ]
            conv => whnf
            refine ⟨⟨q.i + 1, h4⟩, [0], by show (6) - (q.i + 1) < (6) - q.i; omega, ?_⟩
            repeat ((conv => whnf); refine same_i ?_)
            conv => whnf
            refine same_q (congrArg (fun x => SV.agg [SV.arr64 5 x]) (carSt_step x q.i h5).symm) ?_
            repeat ((conv => whnf); refine same_i ?_)
            exact trivial
        · have e4 : q.i = 6 := by omega
          rw [e4, show carSt x 6 = car x by unfold car; rfl]
          repeat ((conv => whnf); first | refine pre_a ?_ | refine cond_ta ?_ | refine cond_fa ?_ | refine same_i ?_)
          conv => whnf
          refine final_h (hp' := [.mk t [.arr64 5 (car x)]]) [0] h ?_
          repeat ((conv => whnf); refine same_i ?_)
          exact trivial
    · exact h.elim
def loadS : Spec := fun args hp K => match args, hp with
  | [.sl 0 0 0 o n c], [.mk t [.arr8 m l]] => Pre (n ≤ 16 ∧ off o + n ≤ l.length) (K (.arr64 5 (loadL ((l.drop (off o)).take n))) [.mk t [.arr8 m l]])
  | _, _ => False
theorem load_s : SoundC prog 102 loadS := by
  refine sound_f tyPol_ok fnok_nil rfl func102 rfl call102 (D := pl102) ?_ ?_
  · intro args hp K h
    unfold loadS at h
    split at h
    · exact Nat.le_of_ble_eq_true rfl
    · exact h.elim
  · intro args hp K h
    unfold loadS at h
    split at h
    · rename_i o n c t m l
      obtain ⟨⟨hn, hl⟩, h⟩ := pre_e h
      have hB : ((l.drop (off o)).take n).length = n := by rw [List.length_take, List.length_drop]; omega
      repeat ((conv => whnf); first | refine pre_a ?_ | refine cond_ta ?_ | refine cond_fa ?_ | refine same_i ?_)
      conv => whnf
      refine loop_h (Ix (n)) (fun q => ⟨[(0, .sl 0 0 0 o n c), (2, .ptr 1 0 0 []), (3, .ptr 2 0 0 []), (6, .sl 0 0 0 o n c), (7, .int n), (8, .int q.i)], [.mk t [.arr8 m l], .mk 153 [.arr64 5 [0, 0, 0, 0, 0]], .mk 175 [.arr64 3 (ldSt ((l.drop (off o)).take n) q.i)]]⟩) (fun q => (n) - q.i) ⟨0, Nat.zero_le _⟩ [0, 1, 2] ?_ ?_
      · repeat ((conv => whnf); refine same_i ?_)
        conv => whnf
        refine same_q (congrArg (fun x => SV.agg [SV.arr64 3 x]) (show [0, 0, 0] = ldSt _ 0 by unfold ldSt; rfl)) ?_
        repeat ((conv => whnf); refine same_i ?_)
        exact trivial
      · intro q
        have hi := q.hi
        have hw := ldSt_len ((l.drop (off o)).take n) q.i
        have hI : ((q.i : Int)).toNat = q.i := Int.toNat_natCast _
        have hd8 : (q.i : Int).tdiv 8 = ((q.i / 8 : Nat) : Int) := by rw [Int.tdiv_eq_ediv_of_nonneg (by omega)]; omega
        have hm8 : (q.i : Int).tmod 8 = ((q.i % 8 : Nat) : Int) := by rw [Int.tmod_eq_emod_of_nonneg (by omega)]; omega
        have hpd : (8 : Int) ≠ 0 ∧ fits ((q.i : Int).tdiv 8) := ⟨by decide, by unfold fits; omega⟩
        by_cases h4 : q.i < n
        · repeat ((conv => whnf); first | refine pre_a ?_ | refine cond_ta ?_ | refine cond_fa ?_ | refine same_i ?_)
          conv => whnf
          refine ⟨⟨q.i + 1, h4⟩, [0, 1, 2], by show (n) - (q.i + 1) < (n) - q.i; omega, ?_⟩
          repeat ((conv => whnf); refine same_i ?_)
          conv => whnf
          refine same_q (congrArg (fun x => SV.agg [SV.arr64 3 x]) ?hv) ?_
          case hv =>
            show (ldSt _ q.i).set ((q.i : Int).tdiv 8).toNat (g64 (ldSt _ q.i) ((q.i : Int).tdiv 8).toNat ||| (l.getD (off (addO o q.i 1)) 0).toUInt64 <<< UInt64.ofNat (8 * (q.i : Int).tmod 8).toNat) = ldSt _ (q.i + 1)
            rw [off_addO, hd8, hm8, Int.toNat_natCast, show (8 * ((q.i % 8 : Nat) : Int)).toNat = 8 * (q.i % 8) by omega, Nat.mul_one, ← part_get (n := n) h4]
            simp only [ldSt]
          repeat ((conv => whnf); refine same_i ?_)
          exact trivial
        · have e4 : q.i = n := by omega
          have hn8 : (n : Int).tdiv 8 = ((n / 8 : Nat) : Int) := by rw [Int.tdiv_eq_ediv_of_nonneg (by omega)]; omega
          have hk8 : (n : Int).tmod 8 = ((n % 8 : Nat) : Int) := by rw [Int.tmod_eq_emod_of_nonneg (by omega)]; omega
          have hpn : (8 : Int) ≠ 0 ∧ fits ((n : Int).tdiv 8) := ⟨by decide, by unfold fits; omega⟩
          rw [e4] at hw
          rw [e4]
          have hnn : ((n : Int).tdiv 8).toNat = n / 8 := by omega
          have hnk : (8 * (n : Int).tmod 8).toNat = 8 * (n % 8) := by omega
          repeat ((conv => whnf); first | refine pre_a ?_ | refine cond_ta ?_ | refine cond_fa ?_ | refine same_i ?_)
          conv => whnf
          rw [hnn, hnk]
          conv => whnf
          refine final_h (hp' := [.mk t [.arr8 m l]]) [0] h ?_
          repeat ((conv => whnf); refine same_i ?_)
          conv => whnf
          refine same_q (congrArg (SV.arr64 5) (show _ = loadL ((l.drop (off o)).take n) by unfold loadL ldW; rw [hB]; rfl)) ?_
          repeat ((conv => whnf); refine same_i ?_)
          exact trivial
    · exact h.elim
def timesS : Spec := fun args hp K => match args, hp with
  | [.ptr 0 1 5 [], .ptr 0 0 0 []], [.mk t [.arr64 5 r, .arr64 5 x]] => Pre (r.length = 5 ∧ x.length = 5) (K (.tup []) [.mk t [.arr64 5 r, .arr64 5 (times x r)]])
  | _, _ => False
theorem times_s : SoundC prog 120 timesS := by
  refine sound_f tyPol_ok (fnok_cons carry_s fnok_nil) rfl func120 rfl call120 (D := pl120) ?_ ?_
  · intro args hp K h
    unfold timesS at h
    split at h
    · exact Nat.le_of_ble_eq_true rfl
    · exact h.elim
  · intro args hp K h
    unfold timesS at h
    split at h
    · rename_i t r x
      obtain ⟨⟨hr, hx⟩, h⟩ := pre_e h
      repeat ((conv => whnf); first | refine pre_a ?_ | refine cond_ta ?_ | refine cond_fa ?_ | refine same_i ?_)
      conv => whnf
      refine loop_h (Ix (5)) (fun q => ⟨[(0, .ptr 0 1 5 []), (1, .ptr 0 0 0 []), (4, .ptr 1 0 0 []), (8, .int q.i)], [.mk t [.arr64 5 r, .arr64 5 x], .mk 153 [.arr64 5 (prSt x r (5 * q.i))]]⟩) (fun q => (5) - q.i) ⟨0, Nat.zero_le _⟩ [0, 1] ?_ ?_
      · repeat ((conv => whnf); refine same_i ?_)
        conv => whnf
        refine same_q (congrArg (fun x => SV.agg [SV.arr64 5 x]) (show [0, 0, 0, 0, 0] = prSt x r 0 by unfold prSt; rfl)) ?_
        repeat ((conv => whnf); refine same_i ?_)
        exact trivial
      · intro q
        have hi := q.hi
        by_cases h4 : q.i < 5
        · repeat ((conv => whnf); first | refine pre_a ?_ | refine cond_ta ?_ | refine cond_fa ?_ | refine same_i ?_)
          conv => whnf
          refine loop_h (Ix (5)) (fun k => ⟨[(0, .ptr 0 1 5 []), (1, .ptr 0 0 0 []), (4, .ptr 1 0 0 []), (8, .int q.i), (5, .int q.i), (11, .int k.i)], [.mk t [.arr64 5 r, .arr64 5 x], .mk 153 [.arr64 5 (prSt x r (5 * q.i + k.i))]]⟩) (fun k => (5) - k.i) ⟨0, Nat.zero_le _⟩ [0, 1] ?_ ?_
          · repeat ((conv => whnf); refine same_i ?_)
            exact trivial
          · intro k
            have hki := k.hi
            have hl := prSt_len x r (5 * q.i + k.i)
            have hm : ((q.i : Int) + (k.i : Int)).tmod 5 = (((q.i + k.i) % 5 : Nat) : Int) := by rw [Int.tmod_eq_emod_of_nonneg (by omega)]; omega
            have hI : (((q.i : Int) + (k.i : Int)).tmod 5).toNat = (q.i + k.i) % 5 := by omega
            by_cases h5 : k.i < 5
            · have hat := prSt_at x r (i := q.i) (k := k.i) h5
              by_cases h6 : 5 ≤ q.i + k.i
              · unfold mulP at hat
                rw [if_pos h6] at hat
                repeat ((conv => whnf); first | refine pre_a ?_ | refine cond_ta ?_ | refine cond_fa ?_ | refine same_i ?_)
                conv => whnf
                rw [hI]
                conv => whnf
                refine ⟨⟨k.i + 1, h5⟩, [0, 1], by show (5) - (k.i + 1) < (5) - k.i; omega, ?_⟩
                repeat ((conv => whnf); refine same_i ?_)
                conv => whnf
                refine same_q (congrArg (fun x => SV.agg [SV.arr64 5 x]) hat.symm) ?_
                repeat ((conv => whnf); refine same_i ?_)
                exact trivial
              · unfold mulP at hat
                rw [if_neg h6] at hat
                repeat ((conv => whnf); first | refine pre_a ?_ | refine cond_ta ?_ | refine cond_fa ?_ | refine same_i ?_)
                conv => whnf
                rw [hI]
                conv => whnf
                refine ⟨⟨k.i + 1, h5⟩, [0, 1], by show (5) - (k.i + 1) < (5) - k.i; omega, ?_⟩
                repeat ((conv => whnf); refine same_i ?_)
                conv => whnf
                refine same_q (congrArg (fun x => SV.agg [SV.arr64 5 x]) hat.symm) ?_
                repeat ((conv => whnf); refine same_i ?_)
                exact trivial
            · have e5 : k.i = 5 := by omega
              rw [e5, show 5 * q.i + 5 = 5 * (q.i + 1) by omega]
              repeat ((conv => whnf); first | refine pre_a ?_ | refine cond_ta ?_ | refine cond_fa ?_ | refine same_i ?_)
              conv => whnf
              refine ⟨⟨q.i + 1, h4⟩, [0, 1], by show (5) - (q.i + 1) < (5) - q.i; omega, ?_⟩
              repeat ((conv => whnf); refine same_i ?_)
              exact trivial
        · have e4 : q.i = 5 := by omega
          have hl := prSt_len x r (5 * 5)
          have hcl : (car (prSt x r (5 * 5))).length = 5 := by rw [car_len]; exact hl
          rw [e4]
          repeat ((conv => whnf); first | refine pre_a ?_ | refine cond_ta ?_ | refine cond_fa ?_ | refine same_i ?_)
          conv => whnf
          refine final_h (hp' := [.mk t [.arr64 5 r, .arr64 5 (times x r)]]) [0] h ?_
          repeat ((conv => whnf); refine same_i ?_)
          exact trivial
    · exact h.elim
def addS : Spec := fun args hp K => match args, hp with
  | [.ptr 0 0 0 [], .sl 1 0 0 o n c], [.mk t0 [.arr64 5 r, .arr64 5 x], .mk t [.arr8 m l]] => Pre (r.length = 5 ∧ x.length = 5 ∧ n ≤ 16 ∧ off o + n ≤ l.length) (K (.tup []) [.mk t0 [.arr64 5 r, .arr64 5 (addB r x ((l.drop (off o)).take n))], .mk t [.arr8 m l]])
  | _, _ => False
theorem padd_s : SoundC prog 103 addS := by
  refine sound_f tyPol_ok (fnok_cons load_s (fnok_cons times_s fnok_nil)) rfl func103 rfl call103 (D := pl103) ?_ ?_
  · intro args hp K h
    unfold addS at h
    split at h
    · exact Nat.le_of_ble_eq_true rfl
    · exact h.elim
  · intro args hp K h
    unfold addS at h
    split at h
    · rename_i o n c t0 r x t m l
      obtain ⟨⟨hr, hx, hn, hl⟩, h⟩ := pre_e h
      obtain ⟨y, hy⟩ : ∃ y, y = loadL ((l.drop (off o)).take n) := ⟨_, rfl⟩
      have hyl : y.length = 5 := by rw [hy]; exact loadL_len _
      have hA : addB r x ((l.drop (off o)).take n) = times (addL x y) r := by unfold addB; rw [hy]
      rw [hA] at h
      repeat ((conv => whnf); first | refine pre_a ?_ | refine cond_ta ?_ | refine cond_fa ?_ | refine same_i ?_)
      conv => whnf
      rw [← hy]
      refine loop_h (Ix (5)) (fun q => ⟨[(0, .ptr 0 0 0 []), (1, .sl 1 0 0 o n c), (4, .ptr 2 0 0 []), (8, .int q.i)], [.mk t0 [.arr64 5 r, .arr64 5 (ovr x 0 (fun i => g64 x i + g64 y i) q.i)], .mk t [.arr8 m l], .mk 153 [.arr64 5 y]]⟩) (fun q => (5) - q.i) ⟨0, Nat.zero_le _⟩ [0, 1, 2] ?_ ?_
      · repeat ((conv => whnf); refine same_i ?_)
        exact trivial
      · intro q
        have hi := q.hi
        have hlo := ovr_len (l := x) (a := 0) (i := q.i) (by omega) (fun i => g64 x i + g64 y i)
        by_cases h4 : q.i < 5
        · repeat ((conv => whnf); first | refine pre_a ?_ | refine cond_ta ?_ | refine cond_fa ?_ | refine same_i ?_)
          conv => whnf
          refine ⟨⟨q.i + 1, h4⟩, [0, 1, 2], by show (5) - (q.i + 1) < (5) - q.i; omega, ?_⟩
          repeat ((conv => whnf); refine same_i ?_)
          conv => whnf
          refine same_q (congrArg (fun z => SV.agg [SV.arr64 5 r, SV.arr64 5 z]) (ovr_step (by omega) ?hv ?hkk)) ?_
          case hkk => show q.i = 0 + q.i; omega
          case hv =>
            show g64 (ovr x 0 _ q.i) q.i + g64 y q.i = g64 x q.i + g64 y q.i
            unfold g64
            rw [ovr_get (by omega) _ (by omega)]
          repeat ((conv => whnf); refine same_i ?_)
          exact trivial
        · have e4 : q.i = 5 := by omega
          have hal := addL_len x y
          rw [e4, ovr_fin hx, show (List.range 5).map (fun i => g64 x i + g64 y i) = addL x y by unfold addL; rfl]
          repeat ((conv => whnf); first | refine pre_a ?_ | refine cond_ta ?_ | refine cond_fa ?_ | refine same_i ?_)
          conv => whnf
          refine final_h (hp' := [.mk t0 [.arr64 5 r, .arr64 5 (times (addL x y) r)], .mk t [.arr8 m l]]) [0, 1] h ?_
          repeat ((conv => whnf); refine same_i ?_)
          exact trivial
    · exact h.elim
end Go.Sym.A

namespace Go.Sym.A
open Go Go.Proofs.Try Go.Sym.Lp Go.Sym.Pol
set_option maxRecDepth 100000
attribute [local irreducible] addB car whole tgSt
/-- the orders of the drawn regions of poly.sum.all -/
def pl77 : List (Nat × List PStep) := []
/-- the orders of the drawn regions of poly.number.whole -/
def pl105 : List (Nat × List PStep) := [(8, [⟨0, []⟩, ⟨1, []⟩, ⟨2, []⟩, ⟨3, []⟩, ⟨4, [0, 1, 2, 3]⟩, ⟨5, [0, 1, 2, 3]⟩, ⟨6, [0, 1, 2, 3]⟩, ⟨7, [0, 1, 2, 3]⟩, ⟨8, []⟩, ⟨9, []⟩, ⟨10, []⟩])]
/-- the orders of the drawn regions of poly.sum.tag -/
def pl80 : List (Nat × List PStep) := [(12, [⟨0, []⟩, ⟨1, [0]⟩, ⟨2, [0, 1]⟩, ⟨3, [0, 1]⟩, ⟨4, [0, 1]⟩, ⟨5, [0]⟩, ⟨6, [0]⟩, ⟨7, [0, 1, 2, 3, 4, 5, 6]⟩, ⟨8, [0, 1, 2, 3, 4, 5, 6, 7]⟩, ⟨9, [0, 1, 2, 3, 4, 5, 6, 7]⟩, ⟨10, [0, 1, 2, 3, 4, 5, 6]⟩, ⟨11, [0, 1, 2, 3, 4, 5, 6]⟩, ⟨12, [0]⟩, ⟨13, []⟩, ⟨14, []⟩])]

structure Ps (n : Nat) where
  t : Nat
  x : Nat
  k : Nat
  c : Nat
  hn : k + 16 * t = n ∨ (k = 0 ∧ t = (n + 15) / 16)
  hx : 0 < k → x = 16 * t
  hc : k ≤ c
def allS : Spec := fun args hp K => match args, hp with
  | [.ptr 0 0 0 [], .sl 1 0 0 [] n c], [.mk t0 [.arr64 5 r, .arr64 5 x], .mk t [.arr8 m l]] => Pre (r.length = 5 ∧ x.length = 5 ∧ n ≤ l.length ∧ n ≤ c) (K (.tup []) [.mk t0 [.arr64 5 r, .arr64 5 (allB r x (l.take n))], .mk t [.arr8 m l]])
  | _, _ => False
theorem pall_s : SoundC prog 77 allS := by
  refine sound_f tyPol_ok (fnok_cons padd_s fnok_nil) rfl func77 rfl call77 (D := pl77) ?_ ?_
  · intro args hp K h
    unfold allS at h
    split at h
    · exact Nat.le_of_ble_eq_true rfl
    · exact h.elim
  · intro args hp K h
    unfold allS at h
    split at h
    · rename_i n c t0 r x t m l
      obtain ⟨⟨hr, hx, hl, hc⟩, h⟩ := pre_e h
      have hB : (l.take n).length = n := by rw [List.length_take]; omega
      repeat ((conv => whnf); first | refine pre_a ?_ | refine cond_ta ?_ | refine cond_fa ?_ | refine same_i ?_)
      conv => whnf
      refine loop_h (Option (Ps n)) (fun q => match q with
        | none => ⟨[(0, .ptr 0 0 0 []), (1, .sl 1 0 0 [] n c)], [.mk t0 [.arr64 5 r, .arr64 5 x], .mk t [.arr8 m l]]⟩
        | some s => ⟨[(0, .ptr 0 0 0 []), (1, .sl 1 0 0 [(s.x, 1)] s.k s.c)], [.mk t0 [.arr64 5 r, .arr64 5 (allSt r x (l.take n) s.t)], .mk t [.arr8 m l]]⟩)
        (fun q => match q with | none => n + 1 | some s => s.k) none [0, 1] ?_ ?_
      · repeat ((conv => whnf); refine same_i ?_)
        exact trivial
      · intro q
        cases q with
        | none =>
          by_cases h4 : 0 < n
          · have hmn : (min (n : Int) 16).toNat = min n 16 := by omega
            have hD : 16 * 0 = 0 := rfl
            have hxl := allSt_len (r := r) hx (l.take n) 0
            have hp4 : r.length = 5 ∧ (allSt r x (l.take n) 0).length = 5 ∧ min n 16 ≤ 16 ∧ off [] + min n 16 ≤ l.length := ⟨hr, hxl, by omega, by show 0 + _ ≤ _; omega⟩
            repeat ((conv => whnf); first | refine pre_a ?_ | refine cond_ta ?_ | refine cond_fa ?_ | refine same_i ?_)
            conv => whnf
            rw [hmn]
            repeat ((conv => whnf); first | refine pre_a ?_ | refine cond_ta ?_ | refine cond_fa ?_ | refine same_i ?_)
            conv => whnf
            rw [show (l.drop (off [])).take (min n 16) = ((l.take n).drop (16 * 0)).take 16 by
              rw [chunk, show 16 * 0 = 0 by omega, show min 16 (n - 0) = min n 16 by omega]
              rfl]
            refine ⟨some ⟨0 + 1, slO c (min n 16), n - min n 16, c - min n 16, by omega, fun h0 => by
              have hne : c ≠ min n 16 := by omega
              rw [slO_eq hne]; omega, by omega⟩, [0, 1], by show n - min n 16 < n + 1; omega, ?_⟩
            repeat ((conv => whnf); refine same_i ?_)
            exact trivial
          · have e4 : n = 0 := by omega
            repeat ((conv => whnf); first | refine pre_a ?_ | refine cond_ta ?_ | refine cond_fa ?_ | refine same_i ?_)
            conv => whnf
            refine final_h (hp' := [.mk t0 [.arr64 5 r, .arr64 5 (allB r x (l.take n))], .mk t [.arr8 m l]]) [0, 1] h ?_
            repeat ((conv => whnf); refine same_i ?_)
            conv => whnf
            refine same_q (congrArg (fun y => SV.agg [SV.arr64 5 r, SV.arr64 5 y]) (show allSt r x (l.take n) 0 = allB r x (l.take n) by unfold allB; rw [hB]; congr 1; omega)) ?_
            repeat ((conv => whnf); refine same_i ?_)
            exact trivial
        | some s =>
          have hsn := s.hn
          have hsx := s.hx
          have hsc := s.hc
          by_cases h4 : 0 < s.k
          · have hmn : (min (s.k : Int) 16).toNat = min s.k 16 := by omega
            have hX := hsx h4
            have hxl := allSt_len (r := r) hx (l.take n) s.t
            have hp4 : r.length = 5 ∧ (allSt r x (l.take n) s.t).length = 5 ∧ min s.k 16 ≤ 16 ∧ off [(s.x, 1)] + min s.k 16 ≤ l.length := ⟨hr, hxl, by omega, by show s.x + _ ≤ _; omega⟩
            repeat ((conv => whnf); first | refine pre_a ?_ | refine cond_ta ?_ | refine cond_fa ?_ | refine same_i ?_)
            conv => whnf
            rw [hmn]
            repeat ((conv => whnf); first | refine pre_a ?_ | refine cond_ta ?_ | refine cond_fa ?_ | refine same_i ?_)
            conv => whnf
            rw [show (l.drop (off [(s.x, 1)])).take (min s.k 16) = ((l.take n).drop (16 * s.t)).take 16 by
              rw [chunk, show 16 * s.t = s.x by omega, show min 16 (n - s.x) = min s.k 16 by omega]
              rfl]
            refine ⟨some ⟨s.t + 1, s.x + slO s.c (min s.k 16), s.k - min s.k 16, s.c - min s.k 16, by omega, fun h0 => by
              have hne : s.c ≠ min s.k 16 := by omega
              rw [slO_eq hne]; omega, by omega⟩, [0, 1], by show s.k - min s.k 16 < s.k; omega, ?_⟩
            repeat ((conv => whnf); refine same_i ?_)
            exact trivial
          · have e4 : s.k = 0 := by omega
            repeat ((conv => whnf); first | refine pre_a ?_ | refine cond_ta ?_ | refine cond_fa ?_ | refine same_i ?_)
            conv => whnf
            refine final_h (hp' := [.mk t0 [.arr64 5 r, .arr64 5 (allB r x (l.take n))], .mk t [.arr8 m l]]) [0, 1] h ?_
            repeat ((conv => whnf); refine same_i ?_)
            conv => whnf
            refine same_q (congrArg (fun y => SV.agg [SV.arr64 5 r, SV.arr64 5 y]) (show allSt r x (l.take n) s.t = allB r x (l.take n) by unfold allB; rw [hB]; congr 1; omega)) ?_
            repeat ((conv => whnf); refine same_i ?_)
            exact trivial
    · exact h.elim
def wholeS : Spec := fun args hp K => match args, hp with
  | [.arr64 5 x], [] => Pre (x.length = 5) (K (.arr64 5 (whole x)) [])
  | _, _ => False
theorem whole_s : SoundC prog 105 wholeS := by
  refine sound_f tyPol_ok (fnok_cons carry_s fnok_nil) rfl func105 rfl call105 (D := pl105) ?_ ?_
  · intro args hp K h
    unfold wholeS at h
    split at h
    · exact Nat.le_of_ble_eq_true rfl
    · exact h.elim
  · intro args hp K h
    unfold wholeS at h
    split at h
    · rename_i x
      obtain ⟨hx, h⟩ := pre_e h
      obtain ⟨y, hy⟩ : ∃ y, y = car (car x) := ⟨_, rfl⟩
      have hxl : (car x).length = 5 := by rw [car_len]; exact hx
      have hyl : y.length = 5 := by rw [hy, car_len, car_len]; exact hx
      have hw : whole x = if 0 < (g64 (whlSt y 4) 4 >>> (26 : UInt64)).toNat then (whlSt y 4).set 4 (g64 (whlSt y 4) 4 &&& M26) else y := by unfold whole; rw [← hy]
      rw [hw] at h
      repeat ((conv => whnf); first | refine pre_a ?_ | refine cond_ta ?_ | refine cond_fa ?_ | refine same_i ?_)
      conv => whnf
      rw [← hy]
      repeat ((conv => whnf); first | refine pre_a ?_ | refine cond_ta ?_ | refine cond_fa ?_ | refine same_i ?_)
      conv => whnf
      refine loop_h (Ix (4)) (fun q => ⟨[(0, .arr64 5 x), (1, .ptr 0 0 0 []), (2, .ptr 1 0 0 []), (3, .ptr 2 0 0 []), (12, .int q.i)], [.mk 153 [.arr64 5 y], .mk 153 [.arr64 5 [0, 0, 0, 0, 0]], .mk 153 [.arr64 5 (whlSt y q.i)]]⟩) (fun q => (4) - q.i) ⟨0, Nat.zero_le _⟩ [0, 1, 2] ?_ ?_
      · repeat ((conv => whnf); refine same_i ?_)
        exact trivial
      · intro q
        have hi := q.hi
        have hl := whlSt_len y q.i
        have hI : ((q.i : Int) + 1).toNat = q.i + 1 := by omega
        have hJ : ((q.i : Int)).toNat = q.i := Int.toNat_natCast _
        by_cases h4 : q.i < 4
        · repeat ((conv => whnf); first | refine pre_a ?_ | refine cond_ta ?_ | refine cond_fa ?_ | refine same_i ?_)
          conv => whnf
          refine ⟨⟨q.i + 1, h4⟩, [0, 1, 2], by show (4) - (q.i + 1) < (4) - q.i; omega, ?_⟩
          repeat ((conv => whnf); refine same_i ?_)
          exact trivial
        · have e4 : q.i = 4 := by omega
          rw [e4] at hl
          rw [e4]
          by_cases h5 : 0 < (g64 (whlSt y 4) 4 >>> (26 : UInt64)).toNat
          · rw [if_pos h5] at h
            have hd : decide (UInt64.ofNat 0 < g64 (whlSt y 4) 4 >>> (26 : UInt64)) = true := decide_eq_true (by rw [UInt64.lt_iff_toNat_lt]; exact h5)
            repeat ((conv => whnf); first | refine pre_a ?_ | refine cond_ta ?_ | refine cond_fa ?_ | refine same_i ?_ | refine pre_i (by first | exact hd) ?_ | refine cond_t (by first | exact hd) ?_ | refine cond_f (by first | exact hd) ?_)
            conv => whnf
            refine final_h (hp' := []) [] h ?_
            repeat ((conv => whnf); refine same_i ?_)
            exact trivial
          · rw [if_neg h5] at h
            have hd : decide (UInt64.ofNat 0 < g64 (whlSt y 4) 4 >>> (26 : UInt64)) = false := decide_eq_false (by rw [UInt64.lt_iff_toNat_lt]; exact h5)
            repeat ((conv => whnf); first | refine pre_a ?_ | refine cond_ta ?_ | refine cond_fa ?_ | refine same_i ?_ | refine pre_i (by first | exact hd) ?_ | refine cond_t (by first | exact hd) ?_ | refine cond_f (by first | exact hd) ?_)
            conv => whnf
            refine final_h (hp' := []) [] h ?_
            repeat ((conv => whnf); refine same_i ?_)
            exact trivial
    · exact h.elim
def ptagS : Spec := fun args hp K => match args, hp with
  | [.ptr 0 0 0 [], .str key], [.mk t0 [.arr64 5 r, .arr64 5 x]] => Pre (x.length = 5 ∧ key.length = 32) (K (.str (tagOf x key)) [.mk t0 [.arr64 5 r, .arr64 5 x]])
  | _, _ => False
theorem ptag_s : SoundC prog 80 ptagS := by
  refine sound_f tyPol_ok (fnok_cons whole_s fnok_nil) rfl func80 rfl call80 (D := pl80) ?_ ?_
  · intro args hp K h
    unfold ptagS at h
    split at h
    · exact Nat.le_of_ble_eq_true rfl
    · exact h.elim
  · intro args hp K h
    unfold ptagS at h
    split at h
    · rename_i key t0 r x
      obtain ⟨⟨hx, hk⟩, h⟩ := pre_e h
      have hwl := whole_len hx
      repeat ((conv => whnf); first | refine pre_a ?_ | refine cond_ta ?_ | refine cond_fa ?_ | refine same_i ?_)
      conv => whnf
      refine loop_h (Ix (16)) (fun q => ⟨[(0, .ptr 0 0 0 []), (1, .str key), (6, .u64 (lowW (whole x))), (7, .u64 (highW (whole x))), (8, .sl 2 0 0 [] 16 16), (9, .u64 (tgSt (lowW (whole x)) (highW (whole x)) key q.i).2), (40, .int 16), (41, .int q.i)], [.mk t0 [.arr64 5 r, .arr64 5 x], .mk 153 [.arr64 5 (whole x)], .mk 5 [.arr8 16 (tgSt (lowW (whole x)) (highW (whole x)) key q.i).1]]⟩) (fun q => (16) - q.i) ⟨0, Nat.zero_le _⟩ [0, 1, 2] ?_ ?_
      · repeat ((conv => whnf); refine same_i ?_)
        conv => whnf
        refine same_q (by show _ = SV.agg [SV.arr8 16 (tgSt _ _ _ 0).1]; rw [tg_zero]; rfl) ?_
        repeat ((conv => whnf); refine same_i ?_)
        conv => whnf
        refine same_q (by show _ = SV.u64 (tgSt _ _ _ 0).2; rw [tg_zero]; rfl) ?_
        repeat ((conv => whnf); refine same_i ?_)
        exact trivial
      · intro q
        have hi := q.hi
        have hl := tgSt_len (lowW (whole x)) (highW (whole x)) key q.i
        have hm8 : (q.i : Int).tmod 8 = ((q.i % 8 : Nat) : Int) := by rw [Int.tmod_eq_emod_of_nonneg (by omega)]; omega
        have hk8 : (8 * (q.i : Int).tmod 8).toNat = 8 * (q.i % 8) := by omega
        have hI : ((16 : Int) + (q.i : Int)).toNat = 16 + q.i := by omega
        by_cases h4 : q.i < 16
        · by_cases h5 : 8 ≤ q.i
          · repeat ((conv => whnf); first | refine pre_a ?_ | refine cond_ta ?_ | refine cond_fa ?_ | refine same_i ?_)
            conv => whnf
            rw [hk8, hI]
            conv => whnf
            refine ⟨⟨q.i + 1, h4⟩, [0, 1, 2], by show (16) - (q.i + 1) < (16) - q.i; omega, ?_⟩
            repeat ((conv => whnf); refine same_i ?_)
            conv => whnf
            refine same_q (by show _ = SV.agg [SV.arr8 16 (tgSt _ _ _ (q.i + 1)).1]; rw [tg_hi _ _ _ h5]; rfl) ?_
            repeat ((conv => whnf); refine same_i ?_)
            conv => whnf
            refine same_q (by show _ = SV.u64 (tgSt _ _ _ (q.i + 1)).2; rw [tg_hi _ _ _ h5]; rfl) ?_
            repeat ((conv => whnf); refine same_i ?_)
            exact trivial
          · repeat ((conv => whnf); first | refine pre_a ?_ | refine cond_ta ?_ | refine cond_fa ?_ | refine same_i ?_)
            conv => whnf
            rw [hk8, hI]
            conv => whnf
            refine ⟨⟨q.i + 1, h4⟩, [0, 1, 2], by show (16) - (q.i + 1) < (16) - q.i; omega, ?_⟩
            repeat ((conv => whnf); refine same_i ?_)
            conv => whnf
            refine same_q (by show _ = SV.agg [SV.arr8 16 (tgSt _ _ _ (q.i + 1)).1]; rw [tg_lo _ _ _ h5]; rfl) ?_
            repeat ((conv => whnf); refine same_i ?_)
            conv => whnf
            refine same_q (by show _ = SV.u64 (tgSt _ _ _ (q.i + 1)).2; rw [tg_lo _ _ _ h5]; rfl) ?_
            repeat ((conv => whnf); refine same_i ?_)
            exact trivial
        · have e4 : q.i = 16 := by omega
          rw [e4] at hl
          have hT : List.take 16 (List.drop (off []) (tgSt (lowW (whole x)) (highW (whole x)) key 16).1) = tagOf x key := by unfold tagOf; exact List.take_of_length_le (Nat.le_of_eq hl)
          rw [e4]
          repeat ((conv => whnf); first | refine pre_a ?_ | refine cond_ta ?_ | refine cond_fa ?_ | refine same_i ?_)
          conv => whnf
          rw [hT]
          conv => whnf
          refine final_h (hp' := [.mk t0 [.arr64 5 r, .arr64 5 x]]) [0] h ?_
          repeat ((conv => whnf); refine same_i ?_)
          exact trivial
    · exact h.elim
end Go.Sym.A


namespace Go.Sym.A
open Go Go.Proofs.Try Go.Sym.Lp Go.Sym.Pol Go.Sym.Cha
set_option maxRecDepth 100000
attribute [local irreducible] addB car whole tgSt loadL allB blk
/-- the orders of the drawn regions of poly.newSum -/
def pl76 : List (Nat × List PStep) := []
/-- the orders of the drawn regions of poly.fill -/
def pl78 : List (Nat × List PStep) := []
/-- the orders of the drawn regions of poly.length -/
def pl79 : List (Nat × List PStep) := [(2, [⟨0, []⟩, ⟨1, []⟩, ⟨2, []⟩, ⟨3, [0, 1, 2]⟩, ⟨4, [0, 1, 2]⟩, ⟨5, [0, 1, 2]⟩, ⟨6, [0, 1, 2, 3, 4, 5]⟩, ⟨7, [0, 1, 2, 3, 4, 5]⟩, ⟨8, [0, 1, 2, 3, 4, 5]⟩, ⟨9, [0, 1, 2, 3, 4, 5, 6, 7, 8]⟩, ⟨10, [0, 1, 2, 3, 4, 5, 6, 7, 8]⟩, ⟨11, [0, 1, 2, 3, 4, 5, 6, 7, 8]⟩, ⟨12, []⟩, ⟨13, []⟩, ⟨14, []⟩])]
/-- the orders of the drawn regions of wire.Bytes -/
def pl104 : List (Nat × List PStep) := []

def newSumS : Spec := fun args hp K => match args, hp with
  | [.str key], [] => Pre (16 ≤ key.length) (K (.ptr 0 0 0 []) [.mk 156 [.arr64 5 (rOf key), .arr64 5 [0, 0, 0, 0, 0]]])
  | _, _ => False
theorem newSum_s : SoundC prog 76 newSumS := by
  refine sound_f tyPol_ok (fnok_cons load_s fnok_nil) rfl func76 rfl call76 (D := pl76) ?_ ?_
  · intro args hp K h
    unfold newSumS at h
    split at h
    · exact Nat.le_of_ble_eq_true rfl
    · exact h.elim
  · intro args hp K h
    unfold newSumS at h
    split at h
    · rename_i key
      obtain ⟨hk, h⟩ := pre_e h
      obtain ⟨b, hb⟩ : ∃ b, b = key.take (Int.toNat 16) := ⟨_, rfl⟩
      have hbl : b.length = 16 := by rw [hb, List.length_take]; show min 16 _ = 16; omega
      repeat ((conv => whnf); first | refine pre_a ?_ | refine cond_ta ?_ | refine cond_fa ?_ | refine same_i ?_)
      conv => whnf
      refine all_i fun tl => ?_
      repeat ((conv => whnf); first | refine pre_a ?_ | refine cond_ta ?_ | refine cond_fa ?_ | refine same_i ?_)
      conv => whnf
      rw [← hb]
      refine loop_h (Ix (4)) (fun q => ⟨[(0, .str key), (3, .sl 0 0 0 [] b.length (b.length + tl.length)), (4, .int (3 + 4 * (q.i : Int)))], [.mk 5 [.arr8 (b.length + tl.length) (cA b q.i ++ tl)]]⟩) (fun q => (4) - q.i) ⟨0, Nat.zero_le _⟩ [0] ?_ ?_
      · repeat ((conv => whnf); refine same_i ?_)
        exact trivial
      · intro q
        have hi := q.hi
        have hl := cA_len b q.i
        have hI : ((3 : Int) + 4 * (q.i : Int)).toNat = 3 + 4 * q.i := by omega
        by_cases h4 : q.i < 4
        · repeat ((conv => whnf); first | refine pre_a ?_ | refine cond_ta ?_ | refine cond_fa ?_ | refine same_i ?_)
          conv => whnf
          refine ⟨⟨q.i + 1, h4⟩, [0], by show (4) - (q.i + 1) < (4) - q.i; omega, ?_⟩
          repeat ((conv => whnf); refine same_i ?_)
          conv => whnf
          refine same_q (congrArg (fun x => SV.agg [SV.arr8 (b.length + tl.length) x]) ?hv) ?_
          case hv =>
            show (cA b q.i ++ tl).set ((3 : Int) + 4 * (q.i : Int)).toNat ((cA b q.i ++ tl).getD ((3 : Int) + 4 * (q.i : Int)).toNat 0 &&& UInt8.ofNat 15) = cA b (q.i + 1) ++ tl
            rw [hI, set_front (by omega)]
            simp only [cA]
          repeat ((conv => whnf); refine same_i ?_)
          exact trivial
        · have e4 : q.i = 4 := by omega
          rw [e4] at hl
          rw [e4]
          repeat ((conv => whnf); first | refine pre_a ?_ | refine cond_ta ?_ | refine cond_fa ?_ | refine same_i ?_)
          conv => whnf
          refine loop_h (Ix (3)) (fun r => ⟨[(0, .str key), (3, .sl 0 0 0 [] b.length (b.length + tl.length)), (5, .int (4 + 4 * (r.i : Int)))], [.mk 5 [.arr8 (b.length + tl.length) (cC (cA b 4) r.i ++ tl)]]⟩) (fun r => (3) - r.i) ⟨0, Nat.zero_le _⟩ [0] ?_ ?_
          · repeat ((conv => whnf); refine same_i ?_)
            exact trivial
          · intro r
            have hri := r.hi
            have hlr := cC_len (cA b 4) r.i
            by_cases h5 : r.i < 3
            · have hI : ((4 : Int) + 4 * (r.i : Int)).toNat = 4 + 4 * r.i := by omega
              repeat ((conv => whnf); first | refine pre_a ?_ | refine cond_ta ?_ | refine cond_fa ?_ | refine same_i ?_)
              conv => whnf
              refine ⟨⟨r.i + 1, h5⟩, [0], by show (3) - (r.i + 1) < (3) - r.i; omega, ?_⟩
              repeat ((conv => whnf); refine same_i ?_)
              conv => whnf
              refine same_q (congrArg (fun x => SV.agg [SV.arr8 (b.length + tl.length) x]) ?hv) ?_
              case hv =>
                show (cC (cA b 4) r.i ++ tl).set ((4 : Int) + 4 * (r.i : Int)).toNat ((cC (cA b 4) r.i ++ tl).getD ((4 : Int) + 4 * (r.i : Int)).toNat 0 &&& UInt8.ofNat 252) = cC (cA b 4) (r.i + 1) ++ tl
                rw [hI, set_front (by omega)]
                simp only [cC]
              repeat ((conv => whnf); refine same_i ?_)
              exact trivial
            · have e5 : r.i = 3 := by omega
              rw [e5] at hlr
              have hP : 16 ≤ 16 ∧ 0 + 16 ≤ (cC (cA b 4) 3 ++ tl).length := ⟨by omega, by rw [List.length_append]; omega⟩
              have hT : List.take b.length (List.drop (off []) (cC (cA b 4) 3 ++ tl)) = cC (cA b 4) 3 := by
                show List.take b.length (cC (cA b 4) 3 ++ tl) = _
                exact List.take_left' (by omega)
              have hrO : (loadL (cC (cA b 4) 3)).set 4 (g64 (loadL (cC (cA b 4) 3)) 4 &&& UInt64.ofNat 16777215) = rOf key := by rw [hb]; rfl
              have hll := loadL_len (cC (cA b 4) 3)
              rw [e5]
              repeat ((conv => whnf); first | refine pre_a ?_ | refine cond_ta ?_ | refine cond_fa ?_ | refine same_i ?_)
              conv => whnf
              rw [hT]
              repeat ((conv => whnf); first | refine pre_a ?_ | refine cond_ta ?_ | refine cond_fa ?_ | refine same_i ?_)
              conv => whnf
              refine final_h (hp' := [.mk 156 [.arr64 5 (rOf key), .arr64 5 [0, 0, 0, 0, 0]]]) [2] h ?_
              repeat ((conv => whnf); refine same_i ?_)
              conv => whnf
              refine same_q (congrArg (fun y => SV.agg [SV.arr64 5 y, SV.arr64 5 [0, 0, 0, 0, 0]]) hrO) ?_
              repeat ((conv => whnf); refine same_i ?_)
              exact trivial
    · exact h.elim
def fillS : Spec := fun args hp K => match args, hp with
  | [.int n], [] => Pre (0 ≤ n) (K (.str (fillB n.toNat)) [])
  | _, _ => False
theorem fill_s : SoundC prog 78 fillS := by
  refine sound_f tyPol_ok fnok_nil rfl func78 rfl call78 (D := pl78) ?_ ?_
  · intro args hp K h
    unfold fillS at h
    split at h
    · exact Nat.le_of_ble_eq_true rfl
    · exact h.elim
  · intro args hp K h
    unfold fillS at h
    split at h
    · rename_i n
      obtain ⟨hn, h⟩ := pre_e h
      have hm : n.tmod 16 = ((n.toNat % 16 : Nat) : Int) := by rw [Int.tmod_eq_emod_of_nonneg hn]; omega
      have hm2 : ((16 : Int) - n.tmod 16).tmod 16 = (((16 - n.toNat % 16) % 16 : Nat) : Int) := by rw [hm, Int.tmod_eq_emod_of_nonneg (by omega)]; omega
      repeat ((conv => whnf); first | refine pre_a ?_ | refine cond_ta ?_ | refine cond_fa ?_ | refine same_i ?_)
      conv => whnf
      rw [hm2, Int.toNat_natCast]
      conv => whnf
      refine final_h (hp' := []) [] h ?_
      repeat ((conv => whnf); refine same_i ?_)
      conv => whnf
      refine same_q (congrArg SV.str (by unfold fillB; show List.take _ (List.drop 0 (List.replicate _ 0)) = _; rw [List.drop_zero]; exact List.take_of_length_le (by rw [List.length_replicate]; exact Nat.le_refl _))) ?_
      repeat ((conv => whnf); refine same_i ?_)
      exact trivial
    · exact h.elim
theorem one8 (v : UInt8) : List.take 1 (List.drop (off []) ((List.replicate 1 0).set (off [(0, ty5.sz)]) v)) = [v] := rfl
def wbytesS : Spec := fun args hp K => match args, hp with
  | [.int x, .int k], [] => Pre (k = 4 ∨ k = 2) (K (.str (if k = 4 then [UInt8.ofInt (x / 2 ^ 24), UInt8.ofInt (x / 2 ^ 16), UInt8.ofInt (x / 2 ^ 8), UInt8.ofInt x] else [UInt8.ofInt (x / 2 ^ 8), UInt8.ofInt x])) [])
  | _, _ => False
theorem wbytes_s : SoundC prog 104 wbytesS := by
  refine sound_f tyPol_ok fnok_nil rfl func104 rfl call104 (D := pl104) ?_ ?_
  · intro args hp K h
    unfold wbytesS at h
    split at h
    · exact Nat.le_of_ble_eq_true rfl
    · exact h.elim
  · intro args hp K h
    unfold wbytesS at h
    split at h
    · rename_i x k
      obtain ⟨hk, h⟩ := pre_e h
      rcases hk with rfl | rfl
      · rw [if_pos rfl] at h
        repeat ((conv => whnf); first | refine pre_a ?_ | refine cond_ta ?_ | refine cond_fa ?_ | refine same_i ?_)
        conv => whnf
        refine all_i fun t1 => ?_
        rw [one8]
        repeat ((conv => whnf); first | refine pre_a ?_ | refine cond_ta ?_ | refine cond_fa ?_ | refine same_i ?_)
        conv => whnf
        rw [one8]
        refine pre_i ⟨by simp, by simp <;> omega, by simp <;> omega⟩ ?_
        repeat ((conv => whnf); first | refine pre_a ?_ | refine cond_ta ?_ | refine cond_fa ?_ | refine same_i ?_)
        conv => whnf
        refine all_i fun t2 => ?_
        repeat ((conv => whnf); first | refine pre_a ?_ | refine cond_ta ?_ | refine cond_fa ?_ | refine same_i ?_)
        conv => whnf
        rw [one8]
        refine all_i fun t3 => ?_
        repeat ((conv => whnf); first | refine pre_a ?_ | refine cond_ta ?_ | refine cond_fa ?_ | refine same_i ?_)
        conv => whnf
        rw [one8]
        refine all_i fun t4 => ?_
        repeat ((conv => whnf); first | refine pre_a ?_ | refine cond_ta ?_ | refine cond_fa ?_ | refine same_i ?_)
        conv => whnf
        refine final_h (hp' := []) [] h ?_
        repeat ((conv => whnf); refine same_i ?_)
        exact trivial
      · rw [if_neg (by decide)] at h
        repeat ((conv => whnf); first | refine pre_a ?_ | refine cond_ta ?_ | refine cond_fa ?_ | refine same_i ?_)
        conv => whnf
        refine all_i fun t1 => ?_
        rw [one8]
        repeat ((conv => whnf); first | refine pre_a ?_ | refine cond_ta ?_ | refine cond_fa ?_ | refine same_i ?_)
        conv => whnf
        rw [one8]
        refine pre_i ⟨by simp, by simp <;> omega, by simp <;> omega⟩ ?_
        repeat ((conv => whnf); first | refine pre_a ?_ | refine cond_ta ?_ | refine cond_fa ?_ | refine same_i ?_)
        conv => whnf
        refine all_i fun t2 => ?_
        repeat ((conv => whnf); first | refine pre_a ?_ | refine cond_ta ?_ | refine cond_fa ?_ | refine same_i ?_)
        conv => whnf
        refine final_h (hp' := []) [] h ?_
        repeat ((conv => whnf); refine same_i ?_)
        exact trivial
    · exact h.elim
def lengthS : Spec := fun args hp K => match args, hp with
  | [.int n], [] => Pre (0 ≤ n) (K (.str (len8 n.toNat)) [])
  | _, _ => False
theorem length_s : SoundC prog 79 lengthS := by
  refine sound_f tyPol_ok (fnok_cons wbytes_s fnok_nil) rfl func79 rfl call79 (D := pl79) ?_ ?_
  · intro args hp K h
    unfold lengthS at h
    split at h
    · exact Nat.le_of_ble_eq_true rfl
    · exact h.elim
  · intro args hp K h
    unfold lengthS at h
    split at h
    · rename_i n
      obtain ⟨hn, h⟩ := pre_e h
      obtain ⟨k, rfl⟩ := Int.eq_ofNat_of_zero_le hn
      rw [Int.toNat_natCast] at h
      repeat ((conv => whnf); first | refine pre_a ?_ | refine cond_ta ?_ | refine cond_fa ?_ | refine same_i ?_)
      conv => whnf
      refine all_i fun tl => ?_
      rw [if_pos rfl]
      repeat ((conv => whnf); first | refine pre_a ?_ | refine cond_ta ?_ | refine cond_fa ?_ | refine same_i ?_)
      conv => whnf
      refine final_h (hp' := []) [] h ?_
      repeat ((conv => whnf); refine same_i ?_)
      exact trivial
    · exact h.elim
end Go.Sym.A

namespace Go.Sym.A
open Go Go.Proofs.Try Go.Sym.Lp Go.Sym.Pol Go.Sym.Cha
set_option maxRecDepth 100000
attribute [local irreducible] allB blk tagOf rOf fillB len8 strm
/-- the orders of the drawn regions of poly.may -/
def pl49 : List (Nat × List PStep) := []
/-- the orders of the drawn regions of poly.Tag -/
def pl51 : List (Nat × List PStep) := [(6, [⟨0, []⟩, ⟨1, [0]⟩, ⟨2, [0, 1]⟩, ⟨3, [0, 1]⟩, ⟨4, [0, 1, 2, 3]⟩, ⟨5, [0, 1, 2, 3]⟩, ⟨6, [0, 1, 2, 3]⟩, ⟨7, [0, 1]⟩, ⟨8, [0]⟩, ⟨9, [0]⟩, ⟨10, [0, 1, 2, 3, 4, 5, 6, 7, 8, 9]⟩, ⟨11, [0, 1, 2, 3, 4, 5, 6, 7, 8, 9]⟩, ⟨14, [0, 1, 2, 3, 4, 5, 6, 7, 8, 9, 10, 11]⟩, ⟨15, [0, 1, 2, 3, 4, 5, 6, 7, 8, 9, 10, 11]⟩, ⟨18, [0, 1, 2, 3, 4, 5, 6, 7, 8, 9, 10, 11, 14, 15]⟩, ⟨19, [0, 1, 2, 3, 4, 5, 6, 7, 8, 9, 10, 11, 14, 15]⟩, ⟨12, [0, 1, 2, 3, 4, 5, 6, 7, 8, 9, 14, 15, 18, 19]⟩, ⟨13, [0, 14, 15, 18, 19]⟩, ⟨16, [0, 1, 2, 3, 4, 5, 6, 7, 8, 9, 18, 19, 13]⟩, ⟨17, [0, 18, 19]⟩, ⟨20, [0, 1, 2, 3, 4, 5, 6, 7, 8, 9, 13, 17]⟩, ⟨21, [0]⟩, ⟨22, [0]⟩, ⟨23, []⟩])]
/-- the orders of the drawn regions of poly.Seal -/
def pl22 : List (Nat × List PStep) := [(5, [⟨0, []⟩, ⟨1, []⟩, ⟨2, [0, 1]⟩, ⟨3, [0, 1, 2]⟩, ⟨4, [0, 1, 2, 3]⟩, ⟨5, [0, 1, 2, 3, 4]⟩, ⟨6, [0, 1]⟩, ⟨7, []⟩, ⟨8, []⟩, ⟨9, []⟩])]
/-- the orders of the drawn regions of poly.Open -/
def pl23 : List (Nat × List PStep) := [(5, [⟨0, []⟩, ⟨1, [0]⟩, ⟨2, [0, 1]⟩, ⟨3, [0, 1, 2]⟩, ⟨5, [0, 1, 2, 3]⟩, ⟨6, [0, 1, 2, 3, 5]⟩, ⟨7, [0, 1, 2, 3]⟩, ⟨4, [5, 6, 7]⟩, ⟨8, []⟩])]

/-- a text's tag -/
def polyTag (key nonce aad b : List UInt8) : List UInt8 :=
  tagOf (macSt (rOf ((blk key nonce 0).take 32)) aad b) ((blk key nonce 0).take 32)
def ptagAllS : Spec := fun args hp K => match args, hp with
  | [.str key, .str nonce, .str aad, .sl 0 0 0 [] n c], [.mk t [.arr8 m l]] => Pre (key.length = 32 ∧ nonce.length = 12 ∧ aad.length ≤ 65536 ∧ n ≤ 65536 ∧ n ≤ l.length ∧ n ≤ c)
      (K (.str (polyTag key nonce aad (l.take n))) [.mk t [.arr8 m l]])
  | _, _ => False
theorem pTag_s : SoundC prog 51 ptagAllS := by
  refine sound_f tyPol_ok (fnok_cons chaBlock_s (fnok_cons newSum_s (fnok_cons pall_s (fnok_cons fill_s (fnok_cons length_s (fnok_cons ptag_s fnok_nil)))))) rfl func51 rfl call51 (D := pl51) ?_ ?_
  · intro args hp K h
    unfold ptagAllS at h
    split at h
    · exact Nat.le_of_ble_eq_true rfl
    · exact h.elim
  · intro args hp K h
    unfold ptagAllS at h
    split at h
    · rename_i key nonce aad n c t m l
      obtain ⟨⟨hk, hn, ha, hn2, hl, hc⟩, h⟩ := pre_e h
      have hkn : key.length = 32 ∧ (0 ≤ (0 : Int) ∧ (0 : Int) ≤ 4294967295) ∧ nonce.length = 12 := ⟨hk, by decide, hn⟩
      have hbl := blk_len key nonce (UInt32.ofInt 0)
      obtain ⟨own, ho⟩ : ∃ own, own = (blk key nonce (UInt32.ofInt 0)).take (Int.toNat 32) := ⟨_, rfl⟩
      have hol : own.length = 32 := by rw [ho, List.length_take, hbl]; rfl
      have hB : (l.take n).length = n := by rw [List.length_take]; omega
      have hG : polyTag key nonce aad (l.take n) = tagOf (macSt (rOf own) aad (l.take n)) own := by rw [ho]; unfold polyTag; rfl
      rw [hG] at h
      have hrl := rOf_len own
      have hm : (n : Int).tmod 16 = ((n % 16 : Nat) : Int) := by rw [Int.tmod_eq_emod_of_nonneg (by omega)]; omega
      have hA : ((aad.length : Int)).toNat = aad.length := Int.toNat_natCast _
      have hN : ((n : Int)).toNat = n := Int.toNat_natCast _
      have hfa := fillB_len aad.length
      have hfn := fillB_len n
      have h8a := len8_len aad.length
      have h8n := len8_len n
      repeat ((conv => whnf); first | refine pre_a ?_ | refine cond_ta ?_ | refine cond_fa ?_ | refine same_i ?_)
      conv => whnf
      rw [← ho, hA]
      clear hbl
      unfold macSt at h
      rw [hB] at h
      obtain ⟨rest, hrest⟩ : ∃ rest, rest = (l.take n).drop (n - n % 16) := ⟨_, rfl⟩
      have ht2 : (l.take n).take (n - n % 16) = l.take (n - n % 16) := by rw [List.take_take, Nat.min_eq_left (by omega)]
      rw [← hrest, ht2] at h
      generalize hbe : blk key nonce (UInt32.ofInt 0) = BB at *
      clear hG
      generalize rOf own = r at *
      generalize fillB aad.length = fa at *
      obtain ⟨s1, hs1⟩ : ∃ s1, s1 = aad ++ fa := ⟨_, rfl⟩
      have hs1l : s1.length ≤ 65600 := by rw [hs1, List.length_append, hfa]; omega
      have z5 : ([0, 0, 0, 0, 0] : List UInt64).length = 5 := rfl
      refine pre_i (by rw [hfa]; omega) ?_
      rw [← hs1]
      repeat ((conv => whnf); first | refine pre_a ?_ | refine cond_ta ?_ | refine cond_fa ?_ | refine same_i ?_)
      conv => whnf
      refine all_i fun t1 => ?_
      have e1 : List.take s1.length (s1 ++ t1) = s1 := List.take_left' rfl
      have hk2 : ((n : Int) - (n : Int).tmod 16).toNat = n - n % 16 := by omega
      have hsl := slO_le c ((n : Int) - (n : Int).tmod 16).toNat
      have hx1 := allB_len (r := r) z5 (List.take s1.length (s1 ++ t1))
      have hx2 := allB_len (r := r) hx1 (List.take ((n : Int) - (n : Int).tmod 16).toNat l)
      have hp1 : r.length = 5 ∧ ([0, 0, 0, 0, 0] : List UInt64).length = 5 ∧ s1.length ≤ (s1 ++ t1).length ∧ s1.length ≤ s1.length + t1.length := ⟨hrl, rfl, by rw [List.length_append]; omega, by omega⟩
      have hp2 : r.length = 5 ∧ (allB r [0, 0, 0, 0, 0] (List.take s1.length (s1 ++ t1))).length = 5 ∧ ((n : Int) - (n : Int).tmod 16).toNat ≤ l.length ∧ ((n : Int) - (n : Int).tmod 16).toNat ≤ c := ⟨hrl, hx1, by omega, by omega⟩
      have hp3 : off (addO [] (slO c ((n : Int) - (n : Int).tmod 16).toNat) ty5.sz) + (n - ((n : Int) - (n : Int).tmod 16).toNat) ≤ l.length := by
        show slO c ((n : Int) - (n : Int).tmod 16).toNat + _ ≤ _; omega
      have hrl3 : (List.take (n - ((n : Int) - (n : Int).tmod 16).toNat) (List.drop (off (addO [] (slO c ((n : Int) - (n : Int).tmod 16).toNat) ty5.sz)) l)).length ≤ 16 := by
        rw [List.length_take]; omega
      have hf1 : (fillB ((n : Int)).toNat).length ≤ 16 := by rw [fillB_len]; omega
      have h81 : (len8 ((aad.length : Int)).toNat).length = 8 := len8_len _
      have h82 : (len8 ((n : Int)).toNat).length = 8 := len8_len _
      have hn0 : 0 ≤ (n : Int) := by omega
      have ha0 : 0 ≤ (aad.length : Int) := by omega
      have hRR : List.take (n - ((n : Int) - (n : Int).tmod 16).toNat) (List.drop (off (addO [] (slO c ((n : Int) - (n : Int).tmod 16).toNat) ty5.sz)) l) = rest := by
        rw [hk2, hrest, List.drop_take]
        show List.take _ (List.drop (slO c (n - n % 16)) l) = _
        by_cases hc2 : c = n - n % 16
        · rw [show n - (n - n % 16) = 0 by omega, List.take_zero, List.take_zero]
        · rw [slO_eq hc2]
      repeat ((conv => whnf); first | refine pre_a ?_ | refine cond_ta ?_ | refine cond_fa ?_ | refine same_i ?_)
      conv => whnf
      refine all_i fun t2 => ?_
      repeat ((conv => whnf); first | refine pre_a ?_ | refine cond_ta ?_ | refine cond_fa ?_ | refine same_i ?_)
      conv => whnf
      refine pre_i ⟨allB_len hx2 _, hol⟩ ?_
      repeat ((conv => whnf); first | refine pre_a ?_ | refine cond_ta ?_ | refine cond_fa ?_ | refine same_i ?_)
      conv => whnf
      have hS : List.take s1.length (s1 ++ t1) = aad ++ fa := by rw [e1, hs1]
      have hfin : tagOf (allB r (allB r (allB r [0, 0, 0, 0, 0] (List.take s1.length (s1 ++ t1))) (List.take ((n : Int) - (n : Int).tmod 16).toNat l)) (List.take (List.take (n - ((n : Int) - (n : Int).tmod 16).toNat) (List.drop (off (addO [] (slO c ((n : Int) - (n : Int).tmod 16).toNat) ty5.sz)) l) ++ fillB ((n : Int)).toNat ++ len8 ((aad.length : Int)).toNat ++ len8 ((n : Int)).toNat).length ((List.take (n - ((n : Int) - (n : Int).tmod 16).toNat) (List.drop (off (addO [] (slO c ((n : Int) - (n : Int).tmod 16).toNat) ty5.sz)) l) ++ fillB ((n : Int)).toNat ++ len8 ((aad.length : Int)).toNat ++ len8 ((n : Int)).toNat) ++ t2))) own = tagOf (allB r (allB r (allB r [0, 0, 0, 0, 0] (aad ++ fa)) (l.take (n - n % 16))) (rest ++ fillB n ++ len8 aad.length ++ len8 n)) own := by
        rw [List.take_left' (l₂ := t2) rfl, hRR, hS, hk2, hA, hN]
      conv => whnf
      refine final_h (hp' := [.mk t [.arr8 m l]]) [0] h ?_
      repeat ((conv => whnf); refine same_i ?_)
      conv => whnf
      refine same_q (congrArg SV.str hfin) ?_
      repeat ((conv => whnf); refine same_i ?_)
      exact trivial
    · exact h.elim
def pmayS : Spec := fun args hp K => match args, hp with
  | [.str key, .str nonce, .str aad, .int most, .int long], [] => K (.bool (decide (key.length = 32 ∧ nonce.length = 12 ∧ aad.length ≤ 65536 ∧ long ≤ most))) []
  | _, _ => False
theorem pmay_s : SoundC prog 49 pmayS := by
  refine sound_f tyPol_ok fnok_nil rfl func49 rfl call49 (D := pl49) ?_ ?_
  · intro args hp K h
    unfold pmayS at h
    split at h
    · exact Nat.le_of_ble_eq_true rfl
    · exact h.elim
  · intro args hp K h
    unfold pmayS at h
    split at h
    · rename_i key nonce aad most long
      by_cases h1 : key.length = 32
      · by_cases h2 : nonce.length = 12
        · by_cases h3 : aad.length ≤ 65536
          · by_cases h4 : long ≤ most
            · rw [decide_eq_true ⟨h1, h2, h3, h4⟩] at h
              have d4 : decide (long ≤ most) = true := decide_eq_true h4
              repeat ((conv => whnf); first | refine pre_a ?_ | refine cond_ta ?_ | refine cond_fa ?_ | refine same_i ?_)
              conv => whnf
              rw [d4]
              conv => whnf
              refine final_h (hp' := []) [] h ?_
              repeat ((conv => whnf); refine same_i ?_)
              exact trivial
            · rw [decide_eq_false fun hh => h4 hh.2.2.2] at h
              have d4 : decide (long ≤ most) = false := decide_eq_false h4
              repeat ((conv => whnf); first | refine pre_a ?_ | refine cond_ta ?_ | refine cond_fa ?_ | refine same_i ?_)
              conv => whnf
              rw [d4]
              conv => whnf
              refine final_h (hp' := []) [] h ?_
              repeat ((conv => whnf); refine same_i ?_)
              exact trivial
          · rw [decide_eq_false fun hh => h3 hh.2.2.1] at h
            repeat ((conv => whnf); first | refine pre_a ?_ | refine cond_ta ?_ | refine cond_fa ?_ | refine same_i ?_)
            conv => whnf
            refine final_h (hp' := []) [] h ?_
            repeat ((conv => whnf); refine same_i ?_)
            exact trivial
        · rw [decide_eq_false fun hh => h2 hh.2.1] at h
          repeat ((conv => whnf); first | refine pre_a ?_ | refine cond_ta ?_ | refine cond_fa ?_ | refine same_i ?_)
          conv => whnf
          refine final_h (hp' := []) [] h ?_
          repeat ((conv => whnf); refine same_i ?_)
          exact trivial
      · rw [decide_eq_false fun hh => h1 hh.1] at h
        repeat ((conv => whnf); first | refine pre_a ?_ | refine cond_ta ?_ | refine cond_fa ?_ | refine same_i ?_)
        conv => whnf
        refine final_h (hp' := []) [] h ?_
        repeat ((conv => whnf); refine same_i ?_)
        exact trivial
    · exact h.elim
end Go.Sym.A

namespace Go.Sym.A
open Go Go.Proofs.Try Go.Sym.Lp Go.Sym.Pol Go.Sym.Cha
set_option maxRecDepth 100000
attribute [local irreducible] polyTag strm blk

/-- a text that is sealed with ChaCha20-Poly1305 -/
def polySeal (key nonce aad s : List UInt8) : List UInt8 :=
  strm key nonce 1 s ++ polyTag key nonce aad (strm key nonce 1 s)
theorem polyTag_len (key nonce aad b : List UInt8) : (polyTag key nonce aad b).length = 16 := by
  unfold polyTag
  exact tagOf_len _ _
def polySealS : Spec := fun args hp K => match args, hp with
  | [.str key, .str nonce, .str aad, .str s], [] =>
      if key.length = 32 ∧ nonce.length = 12 ∧ aad.length ≤ 65536 ∧ (s.length : Int) ≤ 65536 then
        K (.tup [.str (polySeal key nonce aad s), .int 0]) []
      else K (.tup [.str [], .int 700]) []
  | _, _ => False
theorem polySeal_s : SoundC prog 22 polySealS := by
  refine sound_f tyPol_ok (fnok_cons pmay_s (fnok_cons xorIn_s (fnok_cons pTag_s fnok_nil))) rfl func22 rfl call22 (D := pl22) ?_ ?_
  · intro args hp K h
    unfold polySealS at h
    split at h
    · exact Nat.le_of_ble_eq_true rfl
    · exact h.elim
  · intro args hp K h
    unfold polySealS at h
    split at h
    · rename_i key nonce aad s
      by_cases h0 : key.length = 32 ∧ nonce.length = 12 ∧ aad.length ≤ 65536 ∧ (s.length : Int) ≤ 65536
      · rw [if_pos h0] at h
        have hd := decide_eq_true h0
        have hsl : s.length ≤ 65536 := by omega
        have hst := strm_len key nonce 1 s
        repeat ((conv => whnf); first | refine pre_a ?_ | refine cond_ta ?_ | refine cond_fa ?_ | refine same_i ?_ | refine pre_i (by first | exact hd | (rw [hd]; rfl)) ?_ | refine cond_t (by first | exact hd | (rw [hd]; rfl)) ?_ | refine cond_f (by first | exact hd | (rw [hd]; rfl)) ?_)
        conv => whnf
        refine all_i fun t1 => ?_
        have e1 : List.take s.length (s ++ t1) = s := List.take_left' rfl
        have e2 : List.drop s.length (s ++ t1) = t1 := List.drop_left' rfl
        have hp1 : key.length = 32 ∧ nonce.length = 12 ∧ s.length ≤ (s ++ t1).length ∧ s.length ≤ s.length + t1.length ∧ s.length ≤ 9223372036854775807 := ⟨h0.1, h0.2.1, by rw [List.length_append]; omega, by omega, by omega⟩
        have hX : strm key nonce (UInt32.ofInt 1) (List.take s.length (s ++ t1)) ++ List.drop s.length (s ++ t1) = strm key nonce 1 s ++ t1 := by rw [e1, e2]; rfl
        have hXl : (strm key nonce (UInt32.ofInt 1) (List.take s.length (s ++ t1)) ++ List.drop s.length (s ++ t1)).length = s.length + t1.length := by rw [hX, List.length_append, hst]
        have hp2 : off [] + s.length ≤ (strm key nonce (UInt32.ofInt 1) (List.take s.length (s ++ t1)) ++ List.drop s.length (s ++ t1)).length := by rw [hXl]; show 0 + _ ≤ _; omega
        have hp3 : key.length = 32 ∧ nonce.length = 12 ∧ aad.length ≤ 65536 ∧ s.length ≤ 65536 ∧ s.length ≤ (strm key nonce (UInt32.ofInt 1) (List.take s.length (s ++ t1)) ++ List.drop s.length (s ++ t1)).length ∧ s.length ≤ s.length + t1.length := ⟨h0.1, h0.2.1, h0.2.2.1, by omega, by omega, by omega⟩
        have hT : (List.take s.length (List.drop (off []) (strm key nonce (UInt32.ofInt 1) (List.take s.length (s ++ t1)) ++ List.drop s.length (s ++ t1)))) = strm key nonce 1 s := by
          rw [hX]; show List.take _ (List.drop 0 _) = _; rw [List.drop_zero]; exact List.take_left' hst
        have hT2 : List.take s.length (strm key nonce (UInt32.ofInt 1) (List.take s.length (s ++ t1)) ++ List.drop s.length (s ++ t1)) = strm key nonce 1 s := by
          rw [hX]; exact List.take_left' hst
        have hp4 : (List.take s.length (List.drop (off []) (strm key nonce (UInt32.ofInt 1) (List.take s.length (s ++ t1)) ++ List.drop s.length (s ++ t1)))).length + (polyTag key nonce aad (List.take s.length (strm key nonce (UInt32.ofInt 1) (List.take s.length (s ++ t1)) ++ List.drop s.length (s ++ t1)))).length < 9223372036854775808 := by
          rw [polyTag_len, List.length_take]; omega
        have hfin : (List.take s.length (List.drop (off []) (strm key nonce (UInt32.ofInt 1) (List.take s.length (s ++ t1)) ++ List.drop s.length (s ++ t1)))) ++ polyTag key nonce aad (List.take s.length (strm key nonce (UInt32.ofInt 1) (List.take s.length (s ++ t1)) ++ List.drop s.length (s ++ t1))) = polySeal key nonce aad s := by
          rw [hT, hT2]; rfl
        repeat ((conv => whnf); first | refine pre_a ?_ | refine cond_ta ?_ | refine cond_fa ?_ | refine same_i ?_)
        conv => whnf
        conv => whnf
        refine final_h (hp' := []) [] h ?_
        repeat ((conv => whnf); refine same_i ?_)
        conv => whnf
        refine same_q (congrArg (fun y => SV.tup [SV.str y, SV.int 0]) hfin) ?_
        repeat ((conv => whnf); refine same_i ?_)
        exact trivial
      · rw [if_neg h0] at h
        have hd := decide_eq_false h0
        repeat ((conv => whnf); first | refine pre_a ?_ | refine cond_ta ?_ | refine cond_fa ?_ | refine same_i ?_ | refine pre_i (by first | exact hd | (rw [hd]; rfl)) ?_ | refine cond_t (by first | exact hd | (rw [hd]; rfl)) ?_ | refine cond_f (by first | exact hd | (rw [hd]; rfl)) ?_)
        conv => whnf
        refine final_h (hp' := []) [] h ?_
        repeat ((conv => whnf); refine same_i ?_)
        exact trivial
    · exact h.elim
def polyOpenS : Spec := fun args hp K => match args, hp with
  | [.str key, .str nonce, .str aad, .str s], [] => Pre (s.length < 9223372036854775808) <|
      if (key.length = 32 ∧ nonce.length = 12 ∧ aad.length ≤ 65536 ∧ (s.length : Int) - 16 ≤ 65536) ∧ 16 ≤ s.length ∧ polyTag key nonce aad (s.take (s.length - 16)) = s.drop (s.length - 16) then
        K (.tup [.str (strm key nonce 1 (s.take (s.length - 16))), .int 0]) []
      else K (.tup [.str [], .int 700]) []
  | _, _ => False
theorem polyOpen_s : SoundC prog 23 polyOpenS := by
  refine sound_f tyPol_ok (fnok_cons pmay_s (fnok_cons xorIn_s (fnok_cons pTag_s fnok_nil))) rfl func23 rfl call23 (D := pl23) ?_ ?_
  · intro args hp K h
    unfold polyOpenS at h
    split at h
    · exact Nat.le_of_ble_eq_true rfl
    · exact h.elim
  · intro args hp K h
    unfold polyOpenS at h
    split at h
    · rename_i key nonce aad s
      obtain ⟨hs63, h⟩ := pre_e h
      by_cases h0 : key.length = 32 ∧ nonce.length = 12 ∧ aad.length ≤ 65536 ∧ (s.length : Int) - 16 ≤ 65536
      · have hd := decide_eq_true h0
        by_cases h1 : 16 ≤ s.length
        · have hn : ((s.length : Int) - 16).toNat = s.length - 16 := by omega
          have d1 : decide ((s.length : Int) - 16 < 0) = false := decide_eq_false (by omega)
          obtain ⟨B, hB⟩ : ∃ B, B = s.take (s.length - 16) := ⟨_, rfl⟩
          have hBl : B.length = s.length - 16 := by rw [hB, List.length_take]; omega
          rw [← hB] at h
          repeat ((conv => whnf); first | refine pre_a ?_ | refine cond_ta ?_ | refine cond_fa ?_ | refine same_i ?_ | refine pre_i (by first | exact hd | (rw [hd]; rfl)) ?_ | refine cond_t (by first | exact hd | (rw [hd]; rfl)) ?_ | refine cond_f (by first | exact hd | (rw [hd]; rfl)) ?_)
          conv => whnf
          refine all_i fun t1 => ?_
          have hT : (List.take ((s.length : Int) - 16).toNat s) = B := by rw [hB, hn]
          have hTl : (List.take ((s.length : Int) - 16).toNat s).length = s.length - 16 := by rw [hT, hBl]
          have hp1 : key.length = 32 ∧ nonce.length = 12 ∧ aad.length ≤ 65536 ∧ (List.take ((s.length : Int) - 16).toNat s).length ≤ 65536 ∧ (List.take ((s.length : Int) - 16).toNat s).length ≤ ((List.take ((s.length : Int) - 16).toNat s) ++ t1).length ∧ (List.take ((s.length : Int) - 16).toNat s).length ≤ (List.take ((s.length : Int) - 16).toNat s).length + t1.length := ⟨h0.1, h0.2.1, h0.2.2.1, by omega, by rw [List.length_append]; omega, by omega⟩
          have hp2 : key.length = 32 ∧ nonce.length = 12 ∧ (List.take ((s.length : Int) - 16).toNat s).length ≤ ((List.take ((s.length : Int) - 16).toNat s) ++ t1).length ∧ (List.take ((s.length : Int) - 16).toNat s).length ≤ (List.take ((s.length : Int) - 16).toNat s).length + t1.length ∧ (List.take ((s.length : Int) - 16).toNat s).length ≤ 9223372036854775807 := ⟨h0.1, h0.2.1, by rw [List.length_append]; omega, by omega, by omega⟩
          repeat ((conv => whnf); first | refine pre_a ?_ | refine cond_ta ?_ | refine cond_fa ?_ | refine same_i ?_)
          conv => whnf
          have hTk : List.take (List.take ((s.length : Int) - 16).toNat s).length ((List.take ((s.length : Int) - 16).toNat s) ++ t1) = B := by rw [List.take_left' rfl]; exact hT
          by_cases hq : polyTag key nonce aad B = s.drop (s.length - 16)
          · rw [if_pos ⟨h0, h1, hq⟩] at h
            have hdq : decide (polyTag key nonce aad (List.take (List.take ((s.length : Int) - 16).toNat s).length ((List.take ((s.length : Int) - 16).toNat s) ++ t1)) = List.drop ((s.length : Int) - 16).toNat s) = true := decide_eq_true (by rw [hTk, hn]; exact hq)
            repeat ((conv => whnf); first | refine pre_a ?_ | refine cond_ta ?_ | refine cond_fa ?_ | refine same_i ?_ | refine pre_i (by first | exact hdq | (rw [hdq]; rfl)) ?_ | refine cond_t (by first | exact hdq | (rw [hdq]; rfl)) ?_ | refine cond_f (by first | exact hdq | (rw [hdq]; rfl)) ?_)
            conv => whnf
            have hX : (strm key nonce (UInt32.ofInt 1) (List.take (List.take ((s.length : Int) - 16).toNat s).length ((List.take ((s.length : Int) - 16).toNat s) ++ t1)) ++ List.drop (List.take ((s.length : Int) - 16).toNat s).length ((List.take ((s.length : Int) - 16).toNat s) ++ t1)) = strm key nonce 1 B ++ t1 := by rw [hTk, List.drop_left' rfl]; rfl
            have hp3 : off [] + (List.take ((s.length : Int) - 16).toNat s).length ≤ (strm key nonce (UInt32.ofInt 1) (List.take (List.take ((s.length : Int) - 16).toNat s).length ((List.take ((s.length : Int) - 16).toNat s) ++ t1)) ++ List.drop (List.take ((s.length : Int) - 16).toNat s).length ((List.take ((s.length : Int) - 16).toNat s) ++ t1)).length := by rw [hX, List.length_append, strm_len, hBl, hTl]; show 0 + _ ≤ _; omega
            have hF : List.take (List.take ((s.length : Int) - 16).toNat s).length (List.drop (off []) (strm key nonce (UInt32.ofInt 1) (List.take (List.take ((s.length : Int) - 16).toNat s).length ((List.take ((s.length : Int) - 16).toNat s) ++ t1)) ++ List.drop (List.take ((s.length : Int) - 16).toNat s).length ((List.take ((s.length : Int) - 16).toNat s) ++ t1))) = strm key nonce 1 B := by
              rw [hX, hTl]; show List.take _ (List.drop 0 _) = _; rw [List.drop_zero]; exact List.take_left' (by rw [strm_len, hBl])
            repeat ((conv => whnf); first | refine pre_a ?_ | refine cond_ta ?_ | refine cond_fa ?_ | refine same_i ?_)
            conv => whnf
            conv => whnf
            refine final_h (hp' := []) [] h ?_
            repeat ((conv => whnf); refine same_i ?_)
            conv => whnf
            refine same_q (congrArg (fun y => SV.tup [SV.str y, SV.int 0]) hF) ?_
            repeat ((conv => whnf); refine same_i ?_)
            exact trivial
          · rw [if_neg fun hh => hq hh.2.2] at h
            have hdq : decide (polyTag key nonce aad (List.take (List.take ((s.length : Int) - 16).toNat s).length ((List.take ((s.length : Int) - 16).toNat s) ++ t1)) = List.drop ((s.length : Int) - 16).toNat s) = false := decide_eq_false (by rw [hTk, hn]; exact hq)
            repeat ((conv => whnf); first | refine pre_a ?_ | refine cond_ta ?_ | refine cond_fa ?_ | refine same_i ?_ | refine pre_i (by first | exact hdq | (rw [hdq]; rfl)) ?_ | refine cond_t (by first | exact hdq | (rw [hdq]; rfl)) ?_ | refine cond_f (by first | exact hdq | (rw [hdq]; rfl)) ?_)
            conv => whnf
            refine final_h (hp' := []) [] h ?_
            repeat ((conv => whnf); refine same_i ?_)
            exact trivial
        · rw [if_neg fun hh => h1 hh.2.1] at h
          repeat ((conv => whnf); first | refine pre_a ?_ | refine cond_ta ?_ | refine cond_fa ?_ | refine same_i ?_ | refine pre_i (by first | exact hd | (rw [hd]; rfl)) ?_ | refine cond_t (by first | exact hd | (rw [hd]; rfl)) ?_ | refine cond_f (by first | exact hd | (rw [hd]; rfl)) ?_)
          conv => whnf
          refine final_h (hp' := []) [] h ?_
          repeat ((conv => whnf); refine same_i ?_)
          exact trivial
      · rw [if_neg fun hh => h0 hh.1] at h
        have hd := decide_eq_false h0
        repeat ((conv => whnf); first | refine pre_a ?_ | refine cond_ta ?_ | refine cond_fa ?_ | refine same_i ?_ | refine pre_i (by first | exact hd | (rw [hd]; rfl)) ?_ | refine cond_t (by first | exact hd | (rw [hd]; rfl)) ?_ | refine cond_f (by first | exact hd | (rw [hd]; rfl)) ?_)
        conv => whnf
        refine final_h (hp' := []) [] h ?_
        repeat ((conv => whnf); refine same_i ?_)
        exact trivial
    · exact h.elim
end Go.Sym.A

/-
  Poly1305 as the document's reference writes it: bits and limbs. Plain laws. No program in sight.
-/
namespace Go.Sym.Pol
open Go.Sym.Lp

/-- the reference's carry: the limbs and what is carried -/
def rcSt (x : List UInt64) : Nat → List UInt64 × UInt64
  | 0 => (x, 0)
  | i + 1 =>
    ((((rcSt x i).1.set i (g64 (rcSt x i).1 i + (rcSt x i).2)).set i (g64 ((rcSt x i).1.set i (g64 (rcSt x i).1 i + (rcSt x i).2)) i &&& M26)),
      g64 ((rcSt x i).1.set i (g64 (rcSt x i).1 i + (rcSt x i).2)) i >>> (26 : UInt64))
theorem rcSt_len (x : List UInt64) : ∀ i, (rcSt x i).1.length = x.length
  | 0 => rfl
  | i + 1 => by simp only [rcSt, List.length_set]; exact rcSt_len x i
def rcd (x : List UInt64) : List UInt64 := (rcSt x 5).1.set 0 (g64 (rcSt x 5).1 0 + 5 * (rcSt x 5).2)
theorem rcd_len (x : List UInt64) : (rcd x).length = x.length := by unfold rcd; rw [List.length_set, rcSt_len]
/-- the reference's product -/
def rtimes (x r : List UInt64) : List UInt64 := rcd (rcd (prSt x r 25))
theorem rtimes_len (x r : List UInt64) : (rtimes x r).length = 5 := by unfold rtimes; rw [rcd_len, rcd_len, prSt_len]
theorem rcd_eq (a b c d e : UInt64) : rcd [a, b, c, d, e] =
    (let a0 := a + 0; let c0 := a0 >>> (26 : UInt64); let b1 := b + c0; let c1 := b1 >>> (26 : UInt64); let c' := c + c1; let c2 := c' >>> (26 : UInt64); let d' := d + c2; let c3 := d' >>> (26 : UInt64); let e' := e + c3; let c4 := e' >>> (26 : UInt64)
     [(a0 &&& M26) + 5 * c4, b1 &&& M26, c' &&& M26, d' &&& M26, e' &&& M26]) := rfl
end Go.Sym.Pol
namespace Go.Sym.Pol
open Go.Sym.Lp
/-- a bit of a number in limbs -/
def bitX (X : List UInt64) (j : Nat) : Nat := (g64 X (j / 26)).toNat / 2 ^ (j % 26) % 2
/-- the low bits of a byte -/
def rbv (X : List UInt64) (i : Nat) : Nat → Nat
  | 0 => 0
  | k + 1 => rbv X i k + bitX X (8 * i + k) * 2 ^ k
theorem rbv_lt (X : List UInt64) (i : Nat) : ∀ k, rbv X i k < 2 ^ k
  | 0 => Nat.one_pos
  | k + 1 => by
    have h := rbv_lt X i k
    have hb : bitX X (8 * i + k) ≤ 1 := by unfold bitX; omega
    have hm : bitX X (8 * i + k) * 2 ^ k ≤ 1 * 2 ^ k := Nat.mul_le_mul hb (Nat.le_refl _)
    rw [rbv, Nat.pow_succ]
    omega
/-- the bytes written out, and what is carried -/
def rts (X : List UInt64) (s : List UInt8) : Nat → List UInt8 × Nat
  | 0 => (List.replicate 16 0, 0)
  | i + 1 => ((rts X s i).1.set i (UInt8.ofNat ((rts X s i).2 + rbv X i 8 + (s.getD i 0).toNat)), ((rts X s i).2 + rbv X i 8 + (s.getD i 0).toNat) / 256)
theorem rts_len (X : List UInt64) (s : List UInt8) : ∀ i, (rts X s i).1.length = 16
  | 0 => rfl
  | i + 1 => by simp only [rts, List.length_set]; exact rts_len X s i
theorem rts_le (X : List UInt64) (s : List UInt8) : ∀ i, (rts X s i).2 ≤ 1
  | 0 => Nat.zero_le _
  | i + 1 => by
    have h1 := rts_le X s i
    have h2 : rbv X i 8 < 256 := rbv_lt X i 8
    have h3 : (s.getD i 0).toNat < 256 := (s.getD i 0).toNat_lt
    simp only [rts]
    omega
/-- the least number, by limbs, as the reference finds it -/
def rwhole (x : List UInt64) : List UInt64 :=
  if UInt64.ofNat 0 < (rcSt ((rcd (rcd x)).set 0 (g64 (rcd (rcd x)) 0 + 5)) 5).2 then (rcSt ((rcd (rcd x)).set 0 (g64 (rcd (rcd x)) 0 + 5)) 5).1 else rcd (rcd x)
def rfin (x : List UInt64) (s : List UInt8) : List UInt8 := (rts (rwhole x) s 16).1
end Go.Sym.Pol
namespace Go.Sym.Pol
theorem bit64 (a : UInt64) {k : Nat} (h : k < 64) : (a >>> UInt64.ofNat k &&& UInt64.ofNat 1).toNat = a.toNat / 2 ^ k % 2 := by
  rw [UInt64.toNat_and, UInt64.toNat_shiftRight, UInt64.toNat_ofNat', Nat.mod_eq_of_lt (a := k) (by omega), Nat.mod_eq_of_lt h]
  show a.toNat >>> k &&& (2 ^ 1 - 1) = _
  rw [Nat.and_two_pow_sub_one_eq_mod, Nat.shiftRight_eq_div_pow]
end Go.Sym.Pol
