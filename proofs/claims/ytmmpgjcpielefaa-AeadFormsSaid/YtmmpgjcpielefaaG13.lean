/-
  Contracts of functions of the program, each said of symbolic values, and plain laws; no condition beyond each statement's own.
-/
import Derived.Test.YtmmpgjcpielefaaG12
import Derived.Test.YtmmpgjcpielefaaG11
set_option linter.unusedSimpArgs false
set_option linter.unusedVariables false
namespace Go.Sym.A
open Go Go.Proofs.Try Go.Sym.Lp Go.Sym.Pol Go.Sym.Cha
set_option maxRecDepth 100000
attribute [local irreducible] polyTag strm blk prSt rcd
/-- the orders of the drawn regions of ref4.filled -/
def pl90 : List (Nat × List PStep) := []
/-- the orders of the drawn regions of ref4.little -/
def pl91 : List (Nat × List PStep) := []
/-- the orders of the drawn regions of ref4.carried -/
def pl126 : List (Nat × List PStep) := []
/-- the orders of the drawn regions of ref4.product -/
def pl113 : List (Nat × List PStep) := [(8, [⟨0, []⟩, ⟨1, []⟩, ⟨2, []⟩, ⟨3, [0, 1, 2]⟩, ⟨4, [0, 1, 2]⟩, ⟨5, [0, 1, 2]⟩, ⟨6, []⟩, ⟨7, []⟩])]

def rfilledS : Spec := fun args hp K => match args, hp with
  | [.str s], [] => Pre (s.length < 9223372036854775000) (K (.str (s ++ fillB s.length)) [])
  | _, _ => False
theorem rfilled_s : SoundC prog 90 rfilledS := by
  refine sound_f tyPol_ok fnok_nil rfl func90 rfl call90 (D := pl90) ?_ ?_
  · intro args hp K h
    unfold rfilledS at h
    split at h
    · exact Nat.le_of_ble_eq_true rfl
    · exact h.elim
  · intro args hp K h
    unfold rfilledS at h
    split at h
    · rename_i s
      obtain ⟨hs, h⟩ := pre_e h
      have hm : (s.length : Int).tmod 16 = ((s.length % 16 : Nat) : Int) := by rw [Int.tmod_eq_emod_of_nonneg (by omega)]; omega
      have hm2 : ((16 : Int) - (s.length : Int).tmod 16).tmod 16 = (((16 - s.length % 16) % 16 : Nat) : Int) := by
        rw [hm, Int.tmod_eq_emod_of_nonneg (by omega)]; omega
      repeat ((conv => whnf); first | refine pre_a ?_ | refine cond_ta ?_ | refine cond_fa ?_ | refine same_i ?_)
      conv => whnf
      conv => whnf
      refine final_h (hp' := []) [] h ?_
      repeat ((conv => whnf); refine same_i ?_)
      conv => whnf
      refine same_q (congrArg SV.str (by rw [hm2, Int.toNat_natCast]; unfold fillB; show s ++ List.take _ (List.drop 0 _) = _; rw [List.drop_zero, List.take_of_length_le (by rw [List.length_replicate]; exact Nat.le_refl _)])) ?_
      repeat ((conv => whnf); refine same_i ?_)
      exact trivial
    · exact h.elim
def rcarriedS : Spec := fun args hp K => match args, hp with
  | [.arr64 5 x], [] => Pre (x.length = 5) (K (.arr64 5 (rcd x)) [])
  | _, _ => False
theorem rcarried_s : SoundC prog 126 rcarriedS := by
  refine sound_f tyPol_ok fnok_nil rfl func126 rfl call126 (D := pl126) ?_ ?_
  · intro args hp K h
    unfold rcarriedS at h
    split at h
    · exact Nat.le_of_ble_eq_true rfl
    · exact h.elim
  · intro args hp K h
    unfold rcarriedS at h
    split at h
    · rename_i x
      obtain ⟨hx, h⟩ := pre_e h
      unfold rcd at h
      repeat ((conv => whnf); first | refine pre_a ?_ | refine cond_ta ?_ | refine cond_fa ?_ | refine same_i ?_)
      conv => whnf
      refine loop_h (Ix (5)) (fun q => ⟨[(1, .ptr 0 0 0 []), (2, .ptr 1 0 0 []), (3, .u64 (rcSt x q.i).2), (4, .int q.i)], [.mk 152 [.arr64 5 (rcSt x q.i).1], .mk 152 [.arr64 5 [0, 0, 0, 0, 0]]]⟩) (fun q => (5) - q.i) ⟨0, Nat.zero_le _⟩ [0, 1] ?_ ?_
      · repeat ((conv => whnf); refine same_i ?_)
        exact trivial
      · intro q
        have hi := q.hi
        have hl := rcSt_len x q.i
        have hI : ((q.i : Int)).toNat = q.i := Int.toNat_natCast _
        by_cases h4 : q.i < 5
        · repeat ((conv => whnf); first | refine pre_a ?_ | refine cond_ta ?_ | refine cond_fa ?_ | refine same_i ?_)
          conv => whnf
          refine ⟨⟨q.i + 1, h4⟩, [0, 1], by show (5) - (q.i + 1) < (5) - q.i; omega, ?_⟩
          repeat ((conv => whnf); refine same_i ?_)
          exact trivial
        · have e4 : q.i = 5 := by omega
          have hl5 := rcSt_len x 5
          rw [e4]
          repeat ((conv => whnf); first | refine pre_a ?_ | refine cond_ta ?_ | refine cond_fa ?_ | refine same_i ?_)
          conv => whnf
          refine final_h (hp' := []) [] h ?_
          repeat ((conv => whnf); refine same_i ?_)
          exact trivial
    · exact h.elim
def rproductS : Spec := fun args hp K => match args, hp with
  | [.arr64 5 x, .arr64 5 r], [] => Pre (x.length = 5 ∧ r.length = 5) (K (.arr64 5 (rtimes x r)) [])
  | _, _ => False
theorem rproduct_s : SoundC prog 113 rproductS := by
  refine sound_f tyPol_ok (fnok_cons rcarried_s fnok_nil) rfl func113 rfl call113 (D := pl113) ?_ ?_
  · intro args hp K h
    unfold rproductS at h
    split at h
    · exact Nat.le_of_ble_eq_true rfl
    · exact h.elim
  · intro args hp K h
    unfold rproductS at h
    split at h
    · rename_i x r
      obtain ⟨⟨hx, hr⟩, h⟩ := pre_e h
      repeat ((conv => whnf); first | refine pre_a ?_ | refine cond_ta ?_ | refine cond_fa ?_ | refine same_i ?_)
      conv => whnf
      refine loop_h (Ix (5)) (fun q => ⟨[(2, .ptr 0 0 0 []), (3, .ptr 1 0 0 []), (4, .ptr 2 0 0 []), (5, .ptr 3 0 0 []), (6, .int q.i)], [.mk 152 [.arr64 5 x], .mk 152 [.arr64 5 r], .mk 152 [.arr64 5 [0, 0, 0, 0, 0]], .mk 152 [.arr64 5 (prSt x r (5 * q.i))]]⟩) (fun q => (5) - q.i) ⟨0, Nat.zero_le _⟩ [0, 1, 2, 3] ?_ ?_
      · repeat ((conv => whnf); refine same_i ?_)
        conv => whnf
        refine same_q (congrArg (fun x => SV.agg [SV.arr64 5 x]) (show [0, 0, 0, 0, 0] = prSt x r 0 by unfold prSt; rfl)) ?_
        repeat ((conv => whnf); refine same_i ?_)
        exact trivial
      · intro q
        have hi := q.hi
        have hl := prSt_len x r (5 * q.i)
        by_cases h4 : q.i < 5
        · repeat ((conv => whnf); first | refine pre_a ?_ | refine cond_ta ?_ | refine cond_fa ?_ | refine same_i ?_)
          conv => whnf
          refine loop_h (Ix (5)) (fun p => ⟨[(2, .ptr 0 0 0 []), (3, .ptr 1 0 0 []), (4, .ptr 2 0 0 []), (5, .ptr 3 0 0 []), (6, .int q.i), (7, .int p.i)], [.mk 152 [.arr64 5 x], .mk 152 [.arr64 5 r], .mk 152 [.arr64 5 [0, 0, 0, 0, 0]], .mk 152 [.arr64 5 (prSt x r (5 * q.i + p.i))]]⟩) (fun p => (5) - p.i) ⟨0, Nat.zero_le _⟩ [0, 1, 2, 3] ?_ ?_
          · repeat ((conv => whnf); refine same_i ?_)
            exact trivial
          · intro p
            have hip := p.hi
            have hlp := prSt_len x r (5 * q.i + p.i)
            have hm : ((q.i : Int) + (p.i : Int)).tmod 5 = (((q.i + p.i) % 5 : Nat) : Int) := by rw [Int.tmod_eq_emod_of_nonneg (by omega)]; omega
            have hI : (((q.i : Int) + (p.i : Int)).tmod 5).toNat = (q.i + p.i) % 5 := by omega
            by_cases h5 : p.i < 5
            · have hps := prSt_at x r (i := q.i) (k := p.i) h5
              by_cases h6 : 4 < q.i + p.i
              · have hmu : mulP x r q.i p.i = UInt64.ofNat 5 * (g64 x q.i * g64 r p.i) := by unfold mulP; rw [if_pos (by omega), UInt64.mul_comm]; rfl
                rw [hmu] at hps
                repeat ((conv => whnf); first | refine pre_a ?_ | refine cond_ta ?_ | refine cond_fa ?_ | refine same_i ?_)
                conv => whnf
                rw [hI]
                conv => whnf
                refine ⟨⟨p.i + 1, h5⟩, [0, 1, 2, 3], by show (5) - (p.i + 1) < (5) - p.i; omega, ?_⟩
                repeat ((conv => whnf); refine same_i ?_)
                conv => whnf
                refine same_q (congrArg (fun x => SV.agg [SV.arr64 5 x]) hps.symm) ?_
                repeat ((conv => whnf); refine same_i ?_)
                exact trivial
              · have hmu : mulP x r q.i p.i = g64 x q.i * g64 r p.i := by unfold mulP; rw [if_neg (by omega)]
                rw [hmu] at hps
                repeat ((conv => whnf); first | refine pre_a ?_ | refine cond_ta ?_ | refine cond_fa ?_ | refine same_i ?_)
                conv => whnf
                rw [hI]
                conv => whnf
                refine ⟨⟨p.i + 1, h5⟩, [0, 1, 2, 3], by show (5) - (p.i + 1) < (5) - p.i; omega, ?_⟩
                repeat ((conv => whnf); refine same_i ?_)
                conv => whnf
                refine same_q (congrArg (fun x => SV.agg [SV.arr64 5 x]) hps.symm) ?_
                repeat ((conv => whnf); refine same_i ?_)
                exact trivial
            · have e5 : p.i = 5 := by omega
              rw [e5]
              repeat ((conv => whnf); first | refine pre_a ?_ | refine cond_ta ?_ | refine cond_fa ?_ | refine same_i ?_)
              conv => whnf
              refine ⟨⟨q.i + 1, h4⟩, [0, 1, 2, 3], by show (5) - (q.i + 1) < (5) - q.i; omega, ?_⟩
              repeat ((conv => whnf); refine same_i ?_)
              exact trivial
        · have e4 : q.i = 5 := by omega
          have hp1 : (prSt x r (5 * 5)).length = 5 := prSt_len x r _
          have hp2 : (rcd (prSt x r (5 * 5))).length = 5 := by rw [rcd_len]; exact hp1
          unfold rtimes at h
          rw [e4]
          repeat ((conv => whnf); first | refine pre_a ?_ | refine cond_ta ?_ | refine cond_fa ?_ | refine same_i ?_)
          conv => whnf
          refine final_h (hp' := []) [] h ?_
          repeat ((conv => whnf); refine same_i ?_)
          exact trivial
    · exact h.elim
def lit (n : Int) (i : Nat) : UInt8 := UInt8.ofInt (ibits BinOp.and (n / 2 ^ (8 * (i : Int)).toNat) 255)
theorem lit_len8 {n : Int} (h0 : 0 ≤ n) (h1 : n ≤ 2147483647) : (List.range 8).map (lit n) = len8 n.toNat := by
  have hL : ∀ i, lit n i = UInt8.ofInt (n / 2 ^ (8 * i)) := fun i => by
    unfold lit
    have e : (8 * (i : Int)).toNat = 8 * i := by omega
    rw [e]
    exact Go.Sym.Ib.u8_255 (Int.ediv_nonneg h0 (Int.le_of_lt (Int.pow_pos (by decide))))
  have e : ((n.toNat : Nat) : Int) = n := Int.toNat_of_nonneg h0
  have l0 : lit n 0 = UInt8.ofInt n := by rw [hL]; show UInt8.ofInt (n / 1) = _; rw [Int.ediv_one]
  have z4 : lit n 4 = 0 := by rw [hL, show n / 2 ^ (8 * 4) = 0 by show n / 4294967296 = 0; omega]; rfl
  have z5 : lit n 5 = 0 := by rw [hL, show n / 2 ^ (8 * 5) = 0 by show n / 1099511627776 = 0; omega]; rfl
  have z6 : lit n 6 = 0 := by rw [hL, show n / 2 ^ (8 * 6) = 0 by show n / 281474976710656 = 0; omega]; rfl
  have z7 : lit n 7 = 0 := by rw [hL, show n / 2 ^ (8 * 7) = 0 by show n / 72057594037927936 = 0; omega]; rfl
  unfold len8
  rw [e]
  show [lit n 0, lit n 1, lit n 2, lit n 3, lit n 4, lit n 5, lit n 6, lit n 7] = _
  rw [l0, hL 1, hL 2, hL 3, z4, z5, z6, z7]
def rlittleS : Spec := fun args hp K => match args, hp with
  | [.int n], [] => Pre (0 ≤ n ∧ n ≤ 2147483647) (K (.str (len8 n.toNat)) [])
  | _, _ => False
theorem rlittle_s : SoundC prog 91 rlittleS := by
  refine sound_f tyPol_ok fnok_nil rfl func91 rfl call91 (D := pl91) ?_ ?_
  · intro args hp K h
    unfold rlittleS at h
    split at h
    · exact Nat.le_of_ble_eq_true rfl
    · exact h.elim
  · intro args hp K h
    unfold rlittleS at h
    split at h
    · rename_i n
      obtain ⟨⟨hn0, hn⟩, h⟩ := pre_e h
      repeat ((conv => whnf); first | refine pre_a ?_ | refine cond_ta ?_ | refine cond_fa ?_ | refine same_i ?_)
      conv => whnf
      refine loop_h (Ix (8)) (fun q => ⟨[(0, .int n), (3, .sl 0 0 0 [] 8 8), (4, .int q.i)], [.mk 5 [.arr8 8 (ovr (List.replicate 8 0) 0 (lit n) q.i)]]⟩) (fun q => (8) - q.i) ⟨0, Nat.zero_le _⟩ [0] ?_ ?_
      · repeat ((conv => whnf); refine same_i ?_)
        exact trivial
      · intro q
        have hi := q.hi
        have hlo := ovr_len (l := List.replicate 8 (0 : UInt8)) (a := 0) (i := q.i) (by rw [List.length_replicate]; omega) (lit n)
        rw [List.length_replicate] at hlo
        by_cases h4 : q.i < 8
        · repeat ((conv => whnf); first | refine pre_a ?_ | refine cond_ta ?_ | refine cond_fa ?_ | refine same_i ?_)
          conv => whnf
          conv => whnf
          refine ⟨⟨q.i + 1, h4⟩, [0], by show (8) - (q.i + 1) < (8) - q.i; omega, ?_⟩
          repeat ((conv => whnf); refine same_i ?_)
          conv => whnf
          refine same_q (congrArg (fun x => SV.agg [SV.arr8 8 x]) (ovr_step (by rw [List.length_replicate]; omega) rfl ?hkk)) ?_
          case hkk => show ((q.i : Int)).toNat = 0 + q.i; omega
          repeat ((conv => whnf); refine same_i ?_)
          exact trivial
        · have e4 : q.i = 8 := by omega
          have hF : List.take 8 (List.drop (off []) (ovr (List.replicate 8 0) 0 (lit n) 8)) = len8 n.toNat := by
            rw [ovr_fin (List.length_replicate)]
            show List.take 8 (List.drop 0 _) = _
            rw [List.drop_zero, List.take_of_length_le (Nat.le_of_eq (map_range_len _ _))]
            exact lit_len8 hn0 hn
          rw [e4]
          repeat ((conv => whnf); first | refine pre_a ?_ | refine cond_ta ?_ | refine cond_fa ?_ | refine same_i ?_)
          conv => whnf
          conv => whnf
          refine final_h (hp' := []) [] h ?_
          repeat ((conv => whnf); refine same_i ?_)
          conv => whnf
          refine same_q (congrArg SV.str hF) ?_
          repeat ((conv => whnf); refine same_i ?_)
          exact trivial
    · exact h.elim
end Go.Sym.A

/-
  GCM: what stands behind a key's words is not used. Plain laws. No program in sight.
-/
namespace Go.Sym.Gcm
open Go.Sym Go.Sym.Lp Go.Sym.Aes
theorem addK_tail {W t x : List UInt8} {r : Nat} (h : 16 * r + 16 ≤ W.length) : addK (W ++ t) r x = addK W r x := by
  unfold addK
  refine map_range_congr fun j hj => ?_
  congr 1
  rw [List.getD_eq_getElem?_getD, List.getElem?_append_left (by omega), ← List.getD_eq_getElem?_getD]
theorem encSt_tail {W t x : List UInt8} {R : Nat} (h : W.length = 16 * R) : ∀ r, r < R → encSt (W ++ t) R x r = encSt W R x r
  | 0, hr => addK_tail (by omega)
  | r + 1, hr => by
    simp only [encSt, rnd]
    rw [encSt_tail h r (by omega), addK_tail (by omega)]
theorem enc_tail {W t x : List UInt8} {R : Nat} (h : W.length = 16 * R) (h1 : 1 ≤ R) : enc (W ++ t) R x = enc W R x := encSt_tail h (R - 1) (by omega)
theorem gst_tail {W t s nonce : List UInt8} {R : Nat} {n : UInt32} (h : W.length = 16 * R) (h1 : 1 ≤ R) : gst (W ++ t) R nonce n s = gst W R nonce n s := by
  unfold gst
  refine map_range_congr fun j hj => ?_
  unfold stG kb
  rw [enc_tail h h1]
theorem gH_tail {W t : List UInt8} {R : Nat} (h : W.length = 16 * R) (h1 : 1 ≤ R) : gH (W ++ t) R = gH W R := by
  unfold gH
  rw [enc_tail h h1]
theorem gfill_B (n : Nat) : gfill n = Go.Sym.Pol.fillB n := rfl
theorem gTxt_ref {aad b : List UInt8} (ha : aad.length ≤ 65536) (hb : b.length ≤ 70000) :
    aad ++ Go.Sym.Pol.fillB aad.length ++ (b ++ Go.Sym.Pol.fillB b.length) ++ (beB (8 * (aad.length : Int)) 8 ++ beB (8 * (b.length : Int)) 8) = gTxt aad b := by
  unfold gTxt
  rw [show (8 * (aad.length : Int)) = ((8 * aad.length : Nat) : Int) by omega, show (8 * (b.length : Int)) = ((8 * b.length : Nat) : Int) by omega, wr_be (by omega) (by omega)]
  rfl
theorem gTxt_div (aad b : List UInt8) : (gTxt aad b).length / 16 = gN aad b := by
  rw [gTxt_len]; omega
end Go.Sym.Gcm

namespace Go.Sym.A
open Go Go.Proofs.Try Go.Sym.Lp Go.Sym.Gcm Go.Sym.Aes Go.Sym.Pol
set_option maxRecDepth 100000
attribute [local irreducible] Go.Sym.Gcm.ld half hf4 fold enc ks box gmul wr gst ghSt fillB beB
/-- the orders of the drawn regions of ref4.tag -/
def pl64 : List (Nat × List PStep) := []
/-- the orders of the drawn regions of ref4.gcmMay -/
def pl61 : List (Nat × List PStep) := []

def rtagS : Spec := fun args hp K => match args, hp with
  | [.sl 0 0 0 [] n c, .str nonce, .str aad, .str b], [.mk t [.arr8 N W]] => ∃ R, (n = 4 * R ∧ 1 ≤ R ∧ R ≤ 100 ∧ 16 * R ≤ W.length ∧ nonce.length = 12 ∧ aad.length ≤ 65536 ∧ b.length ≤ 70000) ∧ K (.str (gtg W R (gH W R) nonce aad b)) [.mk t [.arr8 N W]]
  | _, _ => False
theorem rtag_s : SoundC prog 64 rtagS := by
  refine sound_f tyGcm_ok (fnok_cons be_s (fnok_cons rcipher_s (fnok_cons rcounter_s (fnok_cons ghash_s (fnok_cons rfilled_s fnok_nil))))) rfl func64 rfl call64 (D := pl64) ?_ ?_
  · intro args hp K h
    unfold rtagS at h
    split at h
    · exact Nat.le_of_ble_eq_true rfl
    · exact h.elim
  · intro args hp K h
    unfold rtagS at h
    split at h
    · rename_i n c nonce aad b t N W
      obtain ⟨R, ⟨rfl, hR1, hR2, hW, hn, ha, hb⟩, h⟩ := h
      have hfa := fillB_len aad.length
      have hfb := fillB_len b.length
      repeat ((conv => whnf); first | refine pre_a ?_ | refine cond_ta ?_ | refine cond_fa ?_ | refine same_i ?_)
      conv => whnf
      refine ⟨R, ⟨rfl, hR1, hR2, rfl, hW⟩, ?_⟩
      have hbl : (beB (8 * (aad.length : Int)) (Int.toNat 8)).length + (beB (8 * (b.length : Int)) (Int.toNat 8)).length < 9223372036854775808 := by rw [beB_len, beB_len]; decide
      have hbe : (beB (8 * (aad.length : Int)) (Int.toNat 8) ++ beB (8 * (b.length : Int)) (Int.toNat 8)).length = 16 := by rw [List.length_append, beB_len, beB_len]; rfl
      have hal : (aad ++ fillB aad.length).length ≤ 70000 := by rw [List.length_append]; omega
      have hcl : (b ++ fillB b.length).length ≤ 80000 := by rw [List.length_append]; omega
      have hac : ((aad ++ fillB aad.length) ++ (b ++ fillB b.length)).length ≤ 150000 := by rw [List.length_append]; omega
      have hel := enc_len W R (List.take (Int.toNat 16) (List.drop (off []) (List.replicate (Int.toNat 16) 0)))
      have hgp : (enc W R (List.take (Int.toNat 16) (List.drop (off []) (List.replicate (Int.toNat 16) 0)))).length = 16 ∧ ((aad ++ fillB aad.length) ++ (b ++ fillB b.length) ++ (beB (8 * (aad.length : Int)) (Int.toNat 8) ++ beB (8 * (b.length : Int)) (Int.toNat 8))).length ≤ 4611686018427387904 := ⟨hel, by rw [List.length_append, hbe]; omega⟩
      repeat ((conv => whnf); first | refine pre_a ?_ | refine cond_ta ?_ | refine cond_fa ?_ | refine same_i ?_)
      conv => whnf
      refine ⟨R, ⟨rfl, hR1, hR2, hW, hn, by decide, by decide, by rw [wr_len]; decide⟩, ?_⟩
      repeat ((conv => whnf); first | refine pre_a ?_ | refine cond_ta ?_ | refine cond_fa ?_ | refine same_i ?_)
      conv => whnf
      conv => whnf
      refine final_h (hp' := [.mk t [.arr8 N W]]) [0] h ?_
      repeat ((conv => whnf); refine same_i ?_)
      conv => whnf
      refine same_q (congrArg SV.str (by rw [show Int.toNat 8 = 8 from rfl, gTxt_ref ha hb, gTxt_div]; unfold gtg gH; rfl)) ?_
      repeat ((conv => whnf); refine same_i ?_)
      exact trivial
    · exact h.elim
def gcmMayS : Spec := fun args hp K => match args, hp with
  | [.str key, .str nonce, .str aad, .str s, .int m], [] => Pre (0 ≤ m ∧ m ≤ 1000) (K (.bool (decide ((key.length = 16 ∨ key.length = 32) ∧ nonce.length = 12 ∧ aad.length ≤ 65536 ∧ (s.length : Int) ≤ 65536 + m))) [])
  | _, _ => False
theorem gcmMay_s : SoundC prog 61 gcmMayS := by
  refine sound_f tyGcm_ok fnok_nil rfl func61 rfl call61 (D := pl61) ?_ ?_
  · intro args hp K h
    unfold gcmMayS at h
    split at h
    · exact Nat.le_of_ble_eq_true rfl
    · exact h.elim
  · intro args hp K h
    unfold gcmMayS at h
    split at h
    · rename_i key nonce aad s m
      obtain ⟨⟨hm0, hm1⟩, h⟩ := pre_e h
      by_cases h1 : key.length = 16 ∨ key.length = 32
      · by_cases h2 : nonce.length = 12
        · by_cases h3 : aad.length ≤ 65536
          · by_cases h4 : (s.length : Int) ≤ 65536 + m
            · rw [decide_eq_true ⟨h1, h2, h3, h4⟩] at h
              have d4 : decide ((s.length : Int) ≤ 65536 + m) = true := decide_eq_true h4
              by_cases h5 : key.length = 16
              · repeat ((conv => whnf); first | refine pre_a ?_ | refine cond_ta ?_ | refine cond_fa ?_ | refine same_i ?_)
                conv => whnf
                rw [d4]
                conv => whnf
                refine final_h (hp' := []) [] h ?_
                repeat ((conv => whnf); refine same_i ?_)
                exact trivial
              · have h6 : key.length = 32 := h1.resolve_left h5
                repeat ((conv => whnf); first | refine pre_a ?_ | refine cond_ta ?_ | refine cond_fa ?_ | refine same_i ?_)
                conv => whnf
                rw [d4]
                conv => whnf
                refine final_h (hp' := []) [] h ?_
                repeat ((conv => whnf); refine same_i ?_)
                exact trivial
            · rw [decide_eq_false fun hh => h4 hh.2.2.2] at h
              have d4 : decide ((s.length : Int) ≤ 65536 + m) = false := decide_eq_false h4
              by_cases h5 : key.length = 16
              · repeat ((conv => whnf); first | refine pre_a ?_ | refine cond_ta ?_ | refine cond_fa ?_ | refine same_i ?_)
                conv => whnf
                rw [d4]
                conv => whnf
                refine final_h (hp' := []) [] h ?_
                repeat ((conv => whnf); refine same_i ?_)
                exact trivial
              · have h6 : key.length = 32 := h1.resolve_left h5
                repeat ((conv => whnf); first | refine pre_a ?_ | refine cond_ta ?_ | refine cond_fa ?_ | refine same_i ?_)
                conv => whnf
                rw [d4]
                conv => whnf
                refine final_h (hp' := []) [] h ?_
                repeat ((conv => whnf); refine same_i ?_)
                exact trivial
          · rw [decide_eq_false fun hh => h3 hh.2.2.1] at h
            by_cases h5 : key.length = 16
            · repeat ((conv => whnf); first | refine pre_a ?_ | refine cond_ta ?_ | refine cond_fa ?_ | refine same_i ?_)
              conv => whnf
              refine final_h (hp' := []) [] h ?_
              repeat ((conv => whnf); refine same_i ?_)
              exact trivial
            · have h6 : key.length = 32 := h1.resolve_left h5
              repeat ((conv => whnf); first | refine pre_a ?_ | refine cond_ta ?_ | refine cond_fa ?_ | refine same_i ?_)
              conv => whnf
              refine final_h (hp' := []) [] h ?_
              repeat ((conv => whnf); refine same_i ?_)
              exact trivial
        · rw [decide_eq_false fun hh => h2 hh.2.1] at h
          by_cases h5 : key.length = 16
          · repeat ((conv => whnf); first | refine pre_a ?_ | refine cond_ta ?_ | refine cond_fa ?_ | refine same_i ?_)
            conv => whnf
            refine final_h (hp' := []) [] h ?_
            repeat ((conv => whnf); refine same_i ?_)
            exact trivial
          · have h6 : key.length = 32 := h1.resolve_left h5
            repeat ((conv => whnf); first | refine pre_a ?_ | refine cond_ta ?_ | refine cond_fa ?_ | refine same_i ?_)
            conv => whnf
            refine final_h (hp' := []) [] h ?_
            repeat ((conv => whnf); refine same_i ?_)
            exact trivial
      · rw [decide_eq_false fun hh => h1 hh.1] at h
        repeat ((conv => whnf); first | refine pre_a ?_ | refine cond_ta ?_ | refine cond_fa ?_ | refine same_i ?_)
        conv => whnf
        refine final_h (hp' := []) [] h ?_
        repeat ((conv => whnf); refine same_i ?_)
        exact trivial
    · exact h.elim
end Go.Sym.A

namespace Go.Sym.A
open Go Go.Proofs.Try Go.Sym.Lp Go.Sym.Gcm Go.Sym.Aes
set_option maxRecDepth 100000
attribute [local irreducible] gst gtg gH enc ks box
/-- the orders of the drawn regions of ref4.GcmSeal -/
def pl36 : List (Nat × List PStep) := []
/-- the orders of the drawn regions of ref4.GcmOpen -/
def pl39 : List (Nat × List PStep) := [(7, [⟨0, []⟩, ⟨1, [0]⟩, ⟨2, [0, 1]⟩, ⟨3, [0, 1, 2]⟩, ⟨4, [0, 1, 2, 3]⟩, ⟨5, [0, 1, 2]⟩, ⟨7, [0, 1, 2, 3, 4, 5]⟩, ⟨8, [0, 1, 2, 3, 4, 5, 7]⟩, ⟨9, [0, 1, 2, 3, 4, 5]⟩, ⟨6, [7, 8, 9]⟩, ⟨10, []⟩])]

/-- the reference's words and what stands behind them -/
theorem gW_ks {key : List UInt8} (h : key.length = 16 ∨ key.length = 32) : ks key (key.length / 4) (key.length + 28) = gW key := by
  unfold gW
  rw [show 4 * (key.length / 4 + 7) = key.length + 28 by omega]
theorem gR_four {key : List UInt8} (h : key.length = 16 ∨ key.length = 32) : key.length + 28 = 4 * gR key := by unfold gR; omega
theorem gtg_tail {W t nonce aad b : List UInt8} {R : Nat} (h : W.length = 16 * R) (h1 : 1 ≤ R) : gtg (W ++ t) R (gH (W ++ t) R) nonce aad b = gtg W R (gH W R) nonce aad b := by
  unfold gtg
  rw [gst_tail h h1, gH_tail h h1]
theorem rgSeal_s : SoundC prog 36 gSealS := by
  refine sound_f tyGcm_ok (fnok_cons gcmMay_s (fnok_cons rsched_s (fnok_cons rcounter_s (fnok_cons rtag_s fnok_nil)))) rfl func36 rfl call36 (D := pl36) ?_ ?_
  · intro args hp K h
    unfold gSealS at h
    split at h
    · exact Nat.le_of_ble_eq_true rfl
    · exact h.elim
  · intro args hp K h
    unfold gSealS at h
    split at h
    · rename_i key nonce aad s
      by_cases h0 : (key.length = 16 ∨ key.length = 32) ∧ nonce.length = 12 ∧ aad.length ≤ 65536 ∧ (s.length : Int) ≤ 65536 + 0
      · rw [if_pos (by rw [Int.add_zero] at h0; exact h0)] at h
        have hd := decide_eq_true h0
        obtain ⟨hk, hn, ha, hs⟩ := h0
        have hWl := gW_len hk
        have hR := gR_four hk
        have hR7 : gR key = key.length / 4 + 7 := rfl
        have hwk := gW_ks hk
        repeat ((conv => whnf); first | refine pre_a ?_ | refine cond_ta ?_ | refine cond_fa ?_ | refine same_i ?_ | refine pre_i (by first | exact hd | (rw [hd]; rfl)) ?_ | refine cond_t (by first | exact hd | (rw [hd]; rfl)) ?_ | refine cond_f (by first | exact hd | (rw [hd]; rfl)) ?_)
        conv => whnf
        refine all_i fun tl => ?_
        have hWt : 16 * gR key ≤ (ks key (key.length / 4) (key.length + 28) ++ tl.l).length := by rw [hwk, List.length_append]; omega
        have hst := gst_len (ks key (key.length / 4) (key.length + 28) ++ tl.l) (gR key) nonce (UInt32.ofNat (Int.toNat 2)) s
        repeat ((conv => whnf); first | refine pre_a ?_ | refine cond_ta ?_ | refine cond_fa ?_ | refine same_i ?_)
        conv => whnf
        refine ⟨gR key, ⟨hR, by omega, by omega, hWt, hn, by decide, by decide, by omega⟩, ?_⟩
        repeat ((conv => whnf); first | refine pre_a ?_ | refine cond_ta ?_ | refine cond_fa ?_ | refine same_i ?_)
        conv => whnf
        refine ⟨gR key, ⟨hR, by omega, by omega, hWt, hn, ha, by omega⟩, ?_⟩
        repeat ((conv => whnf); first | refine pre_a ?_ | refine cond_ta ?_ | refine cond_fa ?_ | refine same_i ?_)
        conv => whnf
        have hTl : (gtg (ks key (key.length / 4) (key.length + 28) ++ tl.l) (gR key) (gH (ks key (key.length / 4) (key.length + 28) ++ tl.l) (gR key)) nonce aad (gst (ks key (key.length / 4) (key.length + 28) ++ tl.l) (gR key) nonce (UInt32.ofNat (Int.toNat 2)) s)).length = 16 := by unfold gtg; rw [gst_len, wr_len]
        have hp4 : (gst (ks key (key.length / 4) (key.length + 28) ++ tl.l) (gR key) nonce (UInt32.ofNat (Int.toNat 2)) s).length + (gtg (ks key (key.length / 4) (key.length + 28) ++ tl.l) (gR key) (gH (ks key (key.length / 4) (key.length + 28) ++ tl.l) (gR key)) nonce aad (gst (ks key (key.length / 4) (key.length + 28) ++ tl.l) (gR key) nonce (UInt32.ofNat (Int.toNat 2)) s)).length < 9223372036854775808 := by omega
        have hE1 : (gst (ks key (key.length / 4) (key.length + 28) ++ tl.l) (gR key) nonce (UInt32.ofNat (Int.toNat 2)) s) = gStr key nonce s := by
          rw [hwk, gst_tail hWl (by omega)]; rfl
        have hE2 : (gtg (ks key (key.length / 4) (key.length + 28) ++ tl.l) (gR key) (gH (ks key (key.length / 4) (key.length + 28) ++ tl.l) (gR key)) nonce aad (gst (ks key (key.length / 4) (key.length + 28) ++ tl.l) (gR key) nonce (UInt32.ofNat (Int.toNat 2)) s)) = gTag key nonce aad (gStr key nonce s) := by
          rw [hE1, hwk]
          exact gtg_tail hWl (by omega)
        repeat ((conv => whnf); first | refine pre_a ?_ | refine cond_ta ?_ | refine cond_fa ?_ | refine same_i ?_)
        conv => whnf
        refine final_h (hp' := []) [] h ?_
        repeat ((conv => whnf); refine same_i ?_)
        conv => whnf
        refine same_q (congrArg (fun y => SV.tup [SV.str y, SV.int 0]) (by rw [hE1] at hE2 ⊢; rw [hE2]; rfl)) ?_
        repeat ((conv => whnf); refine same_i ?_)
        exact trivial
      · rw [if_neg (by rw [Int.add_zero] at h0; exact h0)] at h
        have hd := decide_eq_false h0
        repeat ((conv => whnf); first | refine pre_a ?_ | refine cond_ta ?_ | refine cond_fa ?_ | refine same_i ?_ | refine pre_i (by first | exact hd | (rw [hd]; rfl)) ?_ | refine cond_t (by first | exact hd | (rw [hd]; rfl)) ?_ | refine cond_f (by first | exact hd | (rw [hd]; rfl)) ?_)
        conv => whnf
        refine final_h (hp' := []) [] h ?_
        repeat ((conv => whnf); refine same_i ?_)
        exact trivial
    · exact h.elim
theorem rgOpen_s : SoundC prog 39 gOpenS := by
  refine sound_f tyGcm_ok (fnok_cons gcmMay_s (fnok_cons rsched_s (fnok_cons rcounter_s (fnok_cons rtag_s fnok_nil)))) rfl func39 rfl call39 (D := pl39) ?_ ?_
  · intro args hp K h
    unfold gOpenS at h
    split at h
    · exact Nat.le_of_ble_eq_true rfl
    · exact h.elim
  · intro args hp K h
    unfold gOpenS at h
    split at h
    · rename_i key nonce aad s
      by_cases h0 : (key.length = 16 ∨ key.length = 32) ∧ nonce.length = 12 ∧ aad.length ≤ 65536 ∧ (s.length : Int) ≤ 65536 + 16
      · rw [if_pos ⟨h0.1, h0.2.1, h0.2.2.1, by omega⟩] at h
        have hd := decide_eq_true h0
        obtain ⟨hk, hn, ha, hs⟩ := h0
        have hWl := gW_len hk
        have hR := gR_four hk
        have hR7 : gR key = key.length / 4 + 7 := rfl
        have hwk := gW_ks hk
        by_cases h1 : 16 ≤ s.length
        · have hnn : ((s.length : Int) - 16).toNat = s.length - 16 := by omega
          repeat ((conv => whnf); first | refine pre_a ?_ | refine cond_ta ?_ | refine cond_fa ?_ | refine same_i ?_ | refine pre_i (by first | exact hd | (rw [hd]; rfl)) ?_ | refine cond_t (by first | exact hd | (rw [hd]; rfl)) ?_ | refine cond_f (by first | exact hd | (rw [hd]; rfl)) ?_)
          conv => whnf
          refine all_i fun tl => ?_
          have hWt : 16 * gR key ≤ (ks key (key.length / 4) (key.length + 28) ++ tl.l).length := by rw [hwk, List.length_append]; omega
          repeat ((conv => whnf); first | refine pre_a ?_ | refine cond_ta ?_ | refine cond_fa ?_ | refine same_i ?_)
          conv => whnf
          refine ⟨gR key, ⟨hR, by omega, by omega, hWt, hn, ha, by rw [hnn, List.length_take]; omega⟩, ?_⟩
          repeat ((conv => whnf); first | refine pre_a ?_ | refine cond_ta ?_ | refine cond_fa ?_ | refine same_i ?_)
          conv => whnf
          have hE2 : gtg (ks key (key.length / 4) (key.length + 28) ++ tl.l) (gR key) (gH (ks key (key.length / 4) (key.length + 28) ++ tl.l) (gR key)) nonce aad (List.take ((s.length : Int) - 16).toNat s) = gTag key nonce aad (s.take (s.length - 16)) := by
            rw [hnn, hwk]
            exact gtg_tail hWl (by omega)
          by_cases hq : gTag key nonce aad (s.take (s.length - 16)) = s.drop (s.length - 16)
          · rw [if_pos ⟨h1, hq⟩] at h
            have hdq : decide (gtg (ks key (key.length / 4) (key.length + 28) ++ tl.l) (gR key) (gH (ks key (key.length / 4) (key.length + 28) ++ tl.l) (gR key)) nonce aad (List.take ((s.length : Int) - 16).toNat s) = List.drop ((s.length : Int) - 16).toNat s) = true := decide_eq_true (by rw [hE2, hnn]; exact hq)
            repeat ((conv => whnf); first | refine pre_a ?_ | refine cond_ta ?_ | refine cond_fa ?_ | refine same_i ?_ | refine pre_i (by first | exact hdq | (rw [hdq]; rfl)) ?_ | refine cond_t (by first | exact hdq | (rw [hdq]; rfl)) ?_ | refine cond_f (by first | exact hdq | (rw [hdq]; rfl)) ?_)
            conv => whnf
            refine ⟨gR key, ⟨hR, by omega, by omega, hWt, hn, by decide, by decide, by rw [hnn, List.length_take]; omega⟩, ?_⟩
            repeat ((conv => whnf); first | refine pre_a ?_ | refine cond_ta ?_ | refine cond_fa ?_ | refine same_i ?_)
            conv => whnf
            refine final_h (hp' := []) [] h ?_
            repeat ((conv => whnf); refine same_i ?_)
            conv => whnf
            refine same_q (congrArg (fun y => SV.tup [SV.str y, SV.int 0]) (by rw [hwk, hnn, gst_tail hWl (by omega)]; rfl)) ?_
            repeat ((conv => whnf); refine same_i ?_)
            exact trivial
          · rw [if_neg fun hh => hq hh.2] at h
            have hdq : decide (gtg (ks key (key.length / 4) (key.length + 28) ++ tl.l) (gR key) (gH (ks key (key.length / 4) (key.length + 28) ++ tl.l) (gR key)) nonce aad (List.take ((s.length : Int) - 16).toNat s) = List.drop ((s.length : Int) - 16).toNat s) = false := decide_eq_false (by rw [hE2, hnn]; exact hq)
            repeat ((conv => whnf); first | refine pre_a ?_ | refine cond_ta ?_ | refine cond_fa ?_ | refine same_i ?_ | refine pre_i (by first | exact hdq | (rw [hdq]; rfl)) ?_ | refine cond_t (by first | exact hdq | (rw [hdq]; rfl)) ?_ | refine cond_f (by first | exact hdq | (rw [hdq]; rfl)) ?_)
            conv => whnf
            refine final_h (hp' := []) [] h ?_
            repeat ((conv => whnf); refine same_i ?_)
            exact trivial
        · rw [if_neg fun hh => h1 hh.1] at h
          repeat ((conv => whnf); first | refine pre_a ?_ | refine cond_ta ?_ | refine cond_fa ?_ | refine same_i ?_ | refine pre_i (by first | exact hd | (rw [hd]; rfl)) ?_ | refine cond_t (by first | exact hd | (rw [hd]; rfl)) ?_ | refine cond_f (by first | exact hd | (rw [hd]; rfl)) ?_)
          conv => whnf
          refine final_h (hp' := []) [] h ?_
          repeat ((conv => whnf); refine same_i ?_)
          exact trivial
      · rw [if_neg fun hh => h0 ⟨hh.1, hh.2.1, hh.2.2.1, by omega⟩] at h
        have hd := decide_eq_false h0
        repeat ((conv => whnf); first | refine pre_a ?_ | refine cond_ta ?_ | refine cond_fa ?_ | refine same_i ?_ | refine pre_i (by first | exact hd | (rw [hd]; rfl)) ?_ | refine cond_t (by first | exact hd | (rw [hd]; rfl)) ?_ | refine cond_f (by first | exact hd | (rw [hd]; rfl)) ?_)
        conv => whnf
        refine final_h (hp' := []) [] h ?_
        repeat ((conv => whnf); refine same_i ?_)
        exact trivial
    · exact h.elim
end Go.Sym.A

namespace Go.Sym.A
open Go Go.Proofs.Try Go.Sym.Lp Go.Sym.Pol Go.Sym.Cha
set_option maxRecDepth 100000
attribute [local irreducible] polyTag strm blk prSt rcd rtimes
/-- the orders of the drawn regions of ref4.finish -/
def pl114 : List (Nat × List PStep) := []
/-- the orders of the drawn regions of ref4.poly -/
def pl89 : List (Nat × List PStep) := [(7, [⟨0, []⟩, ⟨1, [0]⟩, ⟨2, [0]⟩, ⟨3, []⟩, ⟨4, [0, 1, 2, 3]⟩, ⟨5, [0, 1, 2, 3]⟩, ⟨6, [0, 1, 2, 3]⟩, ⟨7, [0, 1, 2, 3]⟩, ⟨8, []⟩, ⟨9, [0, 1, 2, 3, 4, 5, 6, 7, 8]⟩, ⟨10, [0, 1, 2, 3, 4, 5, 6, 7, 8]⟩, ⟨11, []⟩, ⟨12, []⟩, ⟨13, []⟩]), (8, [⟨0, []⟩, ⟨1, []⟩, ⟨2, [0, 1]⟩, ⟨3, [0, 1]⟩, ⟨4, [0, 1]⟩, ⟨5, [0, 1]⟩, ⟨6, [0, 1, 2, 3, 4, 5]⟩, ⟨7, [0, 1, 2, 3, 4, 5]⟩, ⟨8, [0, 1, 2, 3, 4, 5]⟩, ⟨9, [0, 1]⟩, ⟨10, []⟩, ⟨11, []⟩]), (18, [⟨0, []⟩, ⟨1, []⟩, ⟨2, [0, 1]⟩, ⟨3, [0, 1]⟩, ⟨4, [0, 1]⟩, ⟨5, [0, 1]⟩, ⟨6, [0, 1, 2, 3, 4, 5]⟩, ⟨7, [0, 1, 2, 3, 4, 5]⟩, ⟨8, [0, 1, 2, 3, 4, 5]⟩, ⟨9, [0, 1]⟩, ⟨10, []⟩, ⟨11, []⟩]), (20, [⟨0, []⟩, ⟨1, []⟩, ⟨2, [0, 1]⟩, ⟨3, [0, 1]⟩, ⟨4, [0, 1]⟩, ⟨5, [0, 1]⟩, ⟨6, [0, 1, 2, 3, 4, 5]⟩, ⟨7, [0, 1, 2, 3, 4, 5]⟩, ⟨8, [0, 1, 2, 3, 4, 5]⟩, ⟨9, [0, 1]⟩, ⟨10, []⟩, ⟨11, []⟩]), (24, [⟨0, []⟩, ⟨1, [0]⟩, ⟨2, [0]⟩, ⟨3, [0]⟩, ⟨4, [0, 1, 2, 3]⟩, ⟨5, [0, 1, 2, 3]⟩, ⟨6, [0, 1, 2, 3]⟩, ⟨7, [0]⟩, ⟨8, []⟩, ⟨9, []⟩]), (26, [⟨0, []⟩, ⟨1, [0]⟩, ⟨2, [0]⟩, ⟨3, []⟩, ⟨4, []⟩])]

def rfinishS : Spec := fun args hp K => match args, hp with
  | [.arr64 5 x, .str s], [] => Pre (x.length = 5 ∧ s.length = 16) (K (.str (rfin x s)) [])
  | _, _ => False
set_option maxHeartbeats 8000000 in
theorem rfinish_s : SoundC prog 114 rfinishS := by
  refine sound_f tyPol_ok (fnok_cons rcarried_s fnok_nil) rfl func114 rfl call114 (D := pl114) ?_ ?_
  · intro args hp K h
    unfold rfinishS at h
    split at h
    · exact Nat.le_of_ble_eq_true rfl
    · exact h.elim
  · intro args hp K h
    unfold rfinishS at h
    split at h
    · rename_i x s
      obtain ⟨⟨hx, hs⟩, h⟩ := pre_e h
      have h1 : (rcd x).length = 5 := by rw [rcd_len]; exact hx
      have h2 : (rcd (rcd x)).length = 5 := by rw [rcd_len]; exact h1
      obtain ⟨H, hH⟩ : ∃ H, H = rcd (rcd x) := ⟨_, rfl⟩
      have hHl : H.length = 5 := by rw [hH]; exact h2
      obtain ⟨G, hG⟩ : ∃ G, G = H.set 0 (g64 H 0 + 5) := ⟨_, rfl⟩
      have hGl : G.length = 5 := by rw [hG, List.length_set]; exact hHl
      repeat ((conv => whnf); first | refine pre_a ?_ | refine cond_ta ?_ | refine cond_fa ?_ | refine same_i ?_)
      conv => whnf
      rw [← hH]
      refine loop_h (Ix (5)) (fun q => ⟨[(1, .str s), (2, .ptr 0 0 0 []), (5, .ptr 1 0 0 []), (6, .u64 (rcSt G q.i).2), (7, .int q.i)], [.mk 152 [.arr64 5 H], .mk 152 [.arr64 5 (rcSt G q.i).1]]⟩) (fun q => (5) - q.i) ⟨0, Nat.zero_le _⟩ [0, 1] ?_ ?_
      · repeat ((conv => whnf); refine same_i ?_)
        conv => whnf
        refine same_q (congrArg (fun x => SV.agg [SV.arr64 5 x]) (show H.set 0 (g64 H 0 + 5) = (rcSt G 0).1 by rw [hG]; rfl)) ?_
        repeat ((conv => whnf); refine same_i ?_)
        exact trivial
      · intro q
        have hi := q.hi
        have hl := rcSt_len G q.i
        have hI : ((q.i : Int)).toNat = q.i := Int.toNat_natCast _
        by_cases h4 : q.i < 5
        · repeat ((conv => whnf); first | refine pre_a ?_ | refine cond_ta ?_ | refine cond_fa ?_ | refine same_i ?_)
          conv => whnf
          refine ⟨⟨q.i + 1, h4⟩, [0, 1], by show (5) - (q.i + 1) < (5) - q.i; omega, ?_⟩
          repeat ((conv => whnf); refine same_i ?_)
          exact trivial
        · have e4 : q.i = 5 := by omega
          have hl5 := rcSt_len G 5
          rw [e4]
          obtain ⟨X, hX⟩ : ∃ X, X = if UInt64.ofNat 0 < (rcSt G 5).2 then (rcSt G 5).1 else H := ⟨_, rfl⟩
          have hXl : X.length = 5 := by rw [hX]; split <;> omega
          by_cases h6 : UInt64.ofNat 0 < (rcSt G 5).2
          · rw [if_pos h6] at hX
            have d6 : decide (UInt64.ofNat 0 < (rcSt G 5).2) = true := decide_eq_true h6
            repeat ((conv => whnf); first | refine pre_a ?_ | refine cond_ta ?_ | refine cond_fa ?_ | refine same_i ?_ | refine pre_i (by first | exact d6 | (rw [d6]; rfl)) ?_ | refine cond_t (by first | exact d6 | (rw [d6]; rfl)) ?_ | refine cond_f (by first | exact d6 | (rw [d6]; rfl)) ?_)
            conv => whnf
            refine loop_h (Ix (16)) (fun u => ⟨[(1, .str s), (2, .ptr 0 0 0 []), (8, .sl 1 0 0 [] 16 16), (9, .int (rts X s u.i).2), (10, .int u.i)], [.mk 152 [.arr64 5 X], .mk 5 [.arr8 16 (rts X s u.i).1]]⟩) (fun u => (16) - u.i) ⟨0, Nat.zero_le _⟩ [0, 2] ?_ ?_
            · repeat ((conv => whnf); refine same_i ?_)
              conv => whnf
              refine same_q (congrArg (fun x => SV.agg [SV.arr64 5 x]) hX.symm) ?_
              repeat ((conv => whnf); refine same_i ?_)
              exact trivial
            · intro u
              have hui := u.hi
              have hU : ((u.i : Int)).toNat = u.i := Int.toNat_natCast _
              have hrl := rts_len X s u.i
              have hrb := rts_le X s u.i
              by_cases h7 : u.i < 16
              · repeat ((conv => whnf); first | refine pre_a ?_ | refine cond_ta ?_ | refine cond_fa ?_ | refine same_i ?_)
                conv => whnf
                refine loop_h (Ix (8)) (fun v => ⟨[(1, .str s), (2, .ptr 0 0 0 []), (8, .sl 1 0 0 [] 16 16), (9, .int (rts X s u.i).2), (10, .int u.i), (11, .int (rbv X u.i v.i)), (12, .int v.i)], [.mk 152 [.arr64 5 X], .mk 5 [.arr8 16 (rts X s u.i).1]]⟩) (fun v => (8) - v.i) ⟨0, Nat.zero_le _⟩ [0, 1] ?_ ?_
                · repeat ((conv => whnf); refine same_i ?_)
                  exact trivial
                · intro v
                  have hvi := v.hi
                  have hbv := rbv_lt X u.i v.i
                  by_cases h8 : v.i < 8
                  · have hq : (8 * (u.i : Int) + (v.i : Int)).tdiv 26 = (((8 * u.i + v.i) / 26 : Nat) : Int) := by rw [Int.tdiv_eq_ediv_of_nonneg (by omega)]; omega
                    have hm : (8 * (u.i : Int) + (v.i : Int)).tmod 26 = (((8 * u.i + v.i) % 26 : Nat) : Int) := by rw [Int.tmod_eq_emod_of_nonneg (by omega)]; omega
                    have hpd : (26 : Int) ≠ 0 ∧ fits ((8 * (u.i : Int) + (v.i : Int)).tdiv 26) := ⟨by decide, by rw [hq]; unfold fits; omega⟩
                    have hw : (X.getD (off (addO [] ((8 * (u.i : Int) + (v.i : Int)).tdiv 26).toNat ty91.sz)) 0 >>> UInt64.ofNat ((8 * (u.i : Int) + (v.i : Int)).tmod 26).toNat &&& UInt64.ofNat 1).toNat = bitX X (8 * u.i + v.i) := by
                      rw [hq, hm, Int.toNat_natCast, Int.toNat_natCast, bit64 _ (by omega)]; rfl
                    have hbi : bitX X (8 * u.i + v.i) ≤ 1 := by unfold bitX; omega
                    have hpw : (X.getD (off (addO [] ((8 * (u.i : Int) + (v.i : Int)).tdiv 26).toNat ty91.sz)) 0 >>> UInt64.ofNat ((8 * (u.i : Int) + (v.i : Int)).tmod 26).toNat &&& UInt64.ofNat 1).toNat < 9223372036854775808 := by rw [hw]; omega
                    have hpow : 2 ^ v.i ≤ 2 ^ 7 := Nat.pow_le_pow_right (by decide) (by omega)
                    have hpow0 : 0 < 2 ^ v.i := Nat.pow_pos (by decide)
                    have hcm : bitX X (8 * u.i + v.i) * 2 ^ v.i ≤ 1 * 2 ^ 7 := Nat.mul_le_mul hbi hpow
                    have hec : ((bitX X (8 * u.i + v.i) : Nat) : Int) * 2 ^ v.i = ((bitX X (8 * u.i + v.i) * 2 ^ v.i : Nat) : Int) := by rw [Int.natCast_mul, Int.natCast_pow]; rfl
                    have hsh : ((v.i : Int)).toNat < 64 ∧ fits (((X.getD (off (addO [] ((8 * (u.i : Int) + (v.i : Int)).tdiv 26).toNat ty91.sz)) 0 >>> UInt64.ofNat ((8 * (u.i : Int) + (v.i : Int)).tmod 26).toNat &&& UInt64.ofNat 1).toNat : Int) * 2 ^ ((v.i : Int)).toNat) := by
                      rw [hw, Int.toNat_natCast, hec]; unfold fits; omega
                    have hor : ibits .or (rbv X u.i v.i : Int) (((X.getD (off (addO [] ((8 * (u.i : Int) + (v.i : Int)).tdiv 26).toNat ty91.sz)) 0 >>> UInt64.ofNat ((8 * (u.i : Int) + (v.i : Int)).tmod 26).toNat &&& UInt64.ofNat 1).toNat : Int) * 2 ^ ((v.i : Int)).toNat) = ((rbv X u.i (v.i + 1) : Nat) : Int) := by
                      rw [hw, Int.toNat_natCast]; exact Go.Sym.Ib.ibits_or_bit hbv hbi h8
                    repeat ((conv => whnf); first | refine pre_a ?_ | refine cond_ta ?_ | refine cond_fa ?_ | refine same_i ?_)
                    conv => whnf
                    rw [hor]
                    conv => whnf
                    refine ⟨⟨v.i + 1, h8⟩, [0, 1], by show (8) - (v.i + 1) < (8) - v.i; omega, ?_⟩
                    repeat ((conv => whnf); refine same_i ?_)
                    exact trivial
                  · have e8 : v.i = 8 := by omega
                    have hbv8 : rbv X u.i 8 < 256 := rbv_lt X u.i 8
                    have hU2 : (s.getD ((u.i : Int)).toNat 0).toNat < 256 := (s.getD _ 0).toNat_lt
                    have hpf : fits (((rts X s u.i).2 : Int) + (rbv X u.i 8 : Int) + ((s.getD ((u.i : Int)).toNat 0).toNat : Int)) := by unfold fits; omega
                    have hsu : (s.getD u.i 0).toNat < 256 := (s.getD u.i 0).toNat_lt
                    rw [e8]
                    repeat ((conv => whnf); first | refine pre_a ?_ | refine cond_ta ?_ | refine cond_fa ?_ | refine same_i ?_)
                    have hcc : UInt8.ofInt (ibits BinOp.and (((rts X s u.i).2 : Int) + (rbv X u.i 8 : Int) + ((s.getD ((u.i : Int)).toNat 0).toNat : Int)) 255) = UInt8.ofNat ((rts X s u.i).2 + rbv X u.i 8 + (s.getD u.i 0).toNat) := by
                      rw [Go.Sym.Ib.u8_255 (by omega), hU]
                      apply UInt8.toNat_inj.1
                      have q1 := ofInt_8 (((rts X s u.i).2 : Int) + (rbv X u.i 8 : Int) + ((s.getD u.i 0).toNat : Int))
                      rw [UInt8.toNat_ofNat']
                      omega
                    conv => whnf
                    refine ⟨⟨u.i + 1, h7⟩, [0, 1], by show (16) - (u.i + 1) < (16) - u.i; omega, ?_⟩
                    repeat ((conv => whnf); refine same_i ?_)
                    conv => whnf
                    refine same_q (congrArg (fun x => SV.agg [SV.arr8 16 x]) (show (rts X s u.i).1.set ((u.i : Int)).toNat _ = (rts X s u.i).1.set u.i _ by rw [hcc]; rfl)) ?_
                    repeat ((conv => whnf); refine same_i ?_)
                    exact trivial
              · have e7 : u.i = 16 := by omega
                have hF : List.take 16 (List.drop (off []) (rts X s 16).1) = rfin x s := by
                  show List.take 16 (List.drop 0 _) = _
                  rw [List.drop_zero, List.take_of_length_le (Nat.le_of_eq (rts_len _ _ _))]
                  unfold rfin rwhole
                  rw [← hH, ← hG, if_pos h6, ← hX]
                rw [e7]
                repeat ((conv => whnf); first | refine pre_a ?_ | refine cond_ta ?_ | refine cond_fa ?_ | refine same_i ?_)
                conv => whnf
                conv => whnf
                refine final_h (hp' := []) [] h ?_
                repeat ((conv => whnf); refine same_i ?_)
                conv => whnf
                refine same_q (congrArg SV.str hF) ?_
                repeat ((conv => whnf); refine same_i ?_)
                exact trivial
          · rw [if_neg h6] at hX
            have d6 : decide (UInt64.ofNat 0 < (rcSt G 5).2) = false := decide_eq_false h6
            repeat ((conv => whnf); first | refine pre_a ?_ | refine cond_ta ?_ | refine cond_fa ?_ | refine same_i ?_ | refine pre_i (by first | exact d6 | (rw [d6]; rfl)) ?_ | refine cond_t (by first | exact d6 | (rw [d6]; rfl)) ?_ | refine cond_f (by first | exact d6 | (rw [d6]; rfl)) ?_)
            conv => whnf
            refine loop_h (Ix (16)) (fun u => ⟨[(1, .str s), (2, .ptr 0 0 0 []), (8, .sl 1 0 0 [] 16 16), (9, .int (rts X s u.i).2), (10, .int u.i)], [.mk 152 [.arr64 5 X], .mk 5 [.arr8 16 (rts X s u.i).1]]⟩) (fun u => (16) - u.i) ⟨0, Nat.zero_le _⟩ [0, 2] ?_ ?_
            · repeat ((conv => whnf); refine same_i ?_)
              conv => whnf
              refine same_q (congrArg (fun x => SV.agg [SV.arr64 5 x]) hX.symm) ?_
              repeat ((conv => whnf); refine same_i ?_)
              exact trivial
            · intro u
              have hui := u.hi
              have hU : ((u.i : Int)).toNat = u.i := Int.toNat_natCast _
              have hrl := rts_len X s u.i
              have hrb := rts_le X s u.i
              by_cases h7 : u.i < 16
              · repeat ((conv => whnf); first | refine pre_a ?_ | refine cond_ta ?_ | refine cond_fa ?_ | refine same_i ?_)
                conv => whnf
                refine loop_h (Ix (8)) (fun v => ⟨[(1, .str s), (2, .ptr 0 0 0 []), (8, .sl 1 0 0 [] 16 16), (9, .int (rts X s u.i).2), (10, .int u.i), (11, .int (rbv X u.i v.i)), (12, .int v.i)], [.mk 152 [.arr64 5 X], .mk 5 [.arr8 16 (rts X s u.i).1]]⟩) (fun v => (8) - v.i) ⟨0, Nat.zero_le _⟩ [0, 1] ?_ ?_
                · repeat ((conv => whnf); refine same_i ?_)
                  exact trivial
                · intro v
                  have hvi := v.hi
                  have hbv := rbv_lt X u.i v.i
                  by_cases h8 : v.i < 8
                  · have hq : (8 * (u.i : Int) + (v.i : Int)).tdiv 26 = (((8 * u.i + v.i) / 26 : Nat) : Int) := by rw [Int.tdiv_eq_ediv_of_nonneg (by omega)]; omega
                    have hm : (8 * (u.i : Int) + (v.i : Int)).tmod 26 = (((8 * u.i + v.i) % 26 : Nat) : Int) := by rw [Int.tmod_eq_emod_of_nonneg (by omega)]; omega
                    have hpd : (26 : Int) ≠ 0 ∧ fits ((8 * (u.i : Int) + (v.i : Int)).tdiv 26) := ⟨by decide, by rw [hq]; unfold fits; omega⟩
                    have hw : (X.getD (off (addO [] ((8 * (u.i : Int) + (v.i : Int)).tdiv 26).toNat ty91.sz)) 0 >>> UInt64.ofNat ((8 * (u.i : Int) + (v.i : Int)).tmod 26).toNat &&& UInt64.ofNat 1).toNat = bitX X (8 * u.i + v.i) := by
                      rw [hq, hm, Int.toNat_natCast, Int.toNat_natCast, bit64 _ (by omega)]; rfl
                    have hbi : bitX X (8 * u.i + v.i) ≤ 1 := by unfold bitX; omega
                    have hpw : (X.getD (off (addO [] ((8 * (u.i : Int) + (v.i : Int)).tdiv 26).toNat ty91.sz)) 0 >>> UInt64.ofNat ((8 * (u.i : Int) + (v.i : Int)).tmod 26).toNat &&& UInt64.ofNat 1).toNat < 9223372036854775808 := by rw [hw]; omega
                    have hpow : 2 ^ v.i ≤ 2 ^ 7 := Nat.pow_le_pow_right (by decide) (by omega)
                    have hpow0 : 0 < 2 ^ v.i := Nat.pow_pos (by decide)
                    have hcm : bitX X (8 * u.i + v.i) * 2 ^ v.i ≤ 1 * 2 ^ 7 := Nat.mul_le_mul hbi hpow
                    have hec : ((bitX X (8 * u.i + v.i) : Nat) : Int) * 2 ^ v.i = ((bitX X (8 * u.i + v.i) * 2 ^ v.i : Nat) : Int) := by rw [Int.natCast_mul, Int.natCast_pow]; rfl
                    have hsh : ((v.i : Int)).toNat < 64 ∧ fits (((X.getD (off (addO [] ((8 * (u.i : Int) + (v.i : Int)).tdiv 26).toNat ty91.sz)) 0 >>> UInt64.ofNat ((8 * (u.i : Int) + (v.i : Int)).tmod 26).toNat &&& UInt64.ofNat 1).toNat : Int) * 2 ^ ((v.i : Int)).toNat) := by
                      rw [hw, Int.toNat_natCast, hec]; unfold fits; omega
                    have hor : ibits .or (rbv X u.i v.i : Int) (((X.getD (off (addO [] ((8 * (u.i : Int) + (v.i : Int)).tdiv 26).toNat ty91.sz)) 0 >>> UInt64.ofNat ((8 * (u.i : Int) + (v.i : Int)).tmod 26).toNat &&& UInt64.ofNat 1).toNat : Int) * 2 ^ ((v.i : Int)).toNat) = ((rbv X u.i (v.i + 1) : Nat) : Int) := by
                      rw [hw, Int.toNat_natCast]; exact Go.Sym.Ib.ibits_or_bit hbv hbi h8
                    repeat ((conv => whnf); first | refine pre_a ?_ | refine cond_ta ?_ | refine cond_fa ?_ | refine same_i ?_)
                    conv => whnf
                    rw [hor]
                    conv => whnf
                    refine ⟨⟨v.i + 1, h8⟩, [0, 1], by show (8) - (v.i + 1) < (8) - v.i; omega, ?_⟩
                    repeat ((conv => whnf); refine same_i ?_)
                    exact trivial
                  · have e8 : v.i = 8 := by omega
                    have hbv8 : rbv X u.i 8 < 256 := rbv_lt X u.i 8
                    have hU2 : (s.getD ((u.i : Int)).toNat 0).toNat < 256 := (s.getD _ 0).toNat_lt
                    have hpf : fits (((rts X s u.i).2 : Int) + (rbv X u.i 8 : Int) + ((s.getD ((u.i : Int)).toNat 0).toNat : Int)) := by unfold fits; omega
                    have hsu : (s.getD u.i 0).toNat < 256 := (s.getD u.i 0).toNat_lt
                    rw [e8]
                    repeat ((conv => whnf); first | refine pre_a ?_ | refine cond_ta ?_ | refine cond_fa ?_ | refine same_i ?_)
                    have hcc : UInt8.ofInt (ibits BinOp.and (((rts X s u.i).2 : Int) + (rbv X u.i 8 : Int) + ((s.getD ((u.i : Int)).toNat 0).toNat : Int)) 255) = UInt8.ofNat ((rts X s u.i).2 + rbv X u.i 8 + (s.getD u.i 0).toNat) := by
                      rw [Go.Sym.Ib.u8_255 (by omega), hU]
                      apply UInt8.toNat_inj.1
                      have q1 := ofInt_8 (((rts X s u.i).2 : Int) + (rbv X u.i 8 : Int) + ((s.getD u.i 0).toNat : Int))
                      rw [UInt8.toNat_ofNat']
                      omega
                    conv => whnf
                    refine ⟨⟨u.i + 1, h7⟩, [0, 1], by show (16) - (u.i + 1) < (16) - u.i; omega, ?_⟩
                    repeat ((conv => whnf); refine same_i ?_)
                    conv => whnf
                    refine same_q (congrArg (fun x => SV.agg [SV.arr8 16 x]) (show (rts X s u.i).1.set ((u.i : Int)).toNat _ = (rts X s u.i).1.set u.i _ by rw [hcc]; rfl)) ?_
                    repeat ((conv => whnf); refine same_i ?_)
                    exact trivial
              · have e7 : u.i = 16 := by omega
                have hF : List.take 16 (List.drop (off []) (rts X s 16).1) = rfin x s := by
                  show List.take 16 (List.drop 0 _) = _
                  rw [List.drop_zero, List.take_of_length_le (Nat.le_of_eq (rts_len _ _ _))]
                  unfold rfin rwhole
                  rw [← hH, ← hG, if_neg h6, ← hX]
                rw [e7]
                repeat ((conv => whnf); first | refine pre_a ?_ | refine cond_ta ?_ | refine cond_fa ?_ | refine same_i ?_)
                conv => whnf
                conv => whnf
                refine final_h (hp' := []) [] h ?_
                repeat ((conv => whnf); refine same_i ?_)
                conv => whnf
                refine same_q (congrArg SV.str hF) ?_
                repeat ((conv => whnf); refine same_i ?_)
                exact trivial
    · exact h.elim
end Go.Sym.A

/-
  Poly1305 as the document's reference writes it: blocks and sums. Plain laws. No program in sight.
-/
namespace Go.Sym.Pol
/-- limbs of a number's bits -/
def btSt (P : Nat → Bool) : Nat → List UInt64
  | 0 => [0, 0, 0, 0, 0]
  | i + 1 => if P i = true then (btSt P i).set (i / 26) (g64 (btSt P i) (i / 26) ||| UInt64.ofNat 1 <<< UInt64.ofNat (i % 26)) else btSt P i
theorem btSt_len (P : Nat → Bool) : ∀ i, (btSt P i).length = 5
  | 0 => rfl
  | i + 1 => by simp only [btSt]; split <;> simp [btSt_len P i]
theorem btSt_t {P : Nat → Bool} {i : Nat} (h : P i = true) : btSt P (i + 1) = (btSt P i).set (i / 26) (g64 (btSt P i) (i / 26) ||| UInt64.ofNat 1 <<< UInt64.ofNat (i % 26)) := by simp only [btSt]; rw [if_pos h]
theorem btSt_f {P : Nat → Bool} {i : Nat} (h : P i = false) : btSt P (i + 1) = btSt P i := by simp only [btSt]; rw [if_neg (by rw [h]; decide)]
def maskB : List UInt8 := [255, 255, 255, 15, 252, 255, 255, 15, 252, 255, 255, 15, 252, 255, 255, 15]
def keyBit (key : List UInt8) (i : Nat) : Bool := decide ((key.getD (i / 8) 0 &&& maskB.getD (i / 8) 0) >>> UInt8.ofNat (i % 8) &&& UInt8.ofNat 1 = UInt8.ofNat 1)
def txtBit (s : List UInt8) (at' i : Nat) : Bool := decide (s.getD (at' + i / 8) 0 >>> UInt8.ofNat (i % 8) &&& UInt8.ofNat 1 = UInt8.ofNat 1)
/-- the reference's block: its bits, and one more -/
def rblk (s : List UInt8) (at' n : Nat) : List UInt64 :=
  (btSt (txtBit s at') (8 * n)).set (8 * n / 26) (g64 (btSt (txtBit s at') (8 * n)) (8 * n / 26) ||| UInt64.ofNat 1 <<< UInt64.ofNat (8 * n % 26))
theorem rblk_len (s : List UInt8) (at' n : Nat) : (rblk s at' n).length = 5 := by unfold rblk; rw [List.length_set]; exact btSt_len _ _
/-- limbs summed, so many of them -/
def adSt (x y : List UInt64) : Nat → List UInt64
  | 0 => x
  | i + 1 => (adSt x y i).set i (g64 (adSt x y i) i + g64 y i)
theorem adSt_len (x y : List UInt64) : ∀ i, (adSt x y i).length = x.length
  | 0 => rfl
  | i + 1 => by simp only [adSt, List.length_set]; exact adSt_len x y i
/-- the reference's sum behind so many blocks -/
def raSt (key s : List UInt8) : Nat → List UInt64
  | 0 => [0, 0, 0, 0, 0]
  | t + 1 => rtimes (adSt (raSt key s t) (rblk s (16 * t) (min 16 (s.length - 16 * t))) 5) (btSt (keyBit key) 128)
theorem raSt_len (key s : List UInt8) : ∀ t, (raSt key s t).length = 5
  | 0 => rfl
  | _ + 1 => rtimes_len _ _
def rpoly (key s : List UInt8) : List UInt8 := rfin (raSt key s ((s.length + 15) / 16)) (key.drop 16)
end Go.Sym.Pol
namespace Go.Sym.Pol
/-- the block read last -/
def lwSt (s : List UInt8) : Nat → List UInt64
  | 0 => [0, 0, 0, 0, 0]
  | t + 1 => rblk s (16 * t) (min 16 (s.length - 16 * t))
theorem lwSt_len (s : List UInt8) : ∀ t, (lwSt s t).length = 5
  | 0 => rfl
  | _ + 1 => rblk_len _ _ _
end Go.Sym.Pol

namespace Go.Sym.A
open Go Go.Proofs.Try Go.Sym.Lp Go.Sym.Pol Go.Sym.Cha
set_option maxRecDepth 100000
attribute [local irreducible] polyTag strm blk prSt rcd rtimes rfin btSt raSt adSt

def rpolyS : Spec := fun args hp K => match args, hp with
  | [.str key, .str s], [] => Pre (key.length = 32 ∧ s.length ≤ 1000000) (K (.str (rpoly key s)) [])
  | _, _ => False
set_option maxHeartbeats 8000000 in
theorem rpoly_s : SoundC prog 89 rpolyS := by
  refine sound_f tyPol_ok (fnok_cons rproduct_s (fnok_cons rfinish_s fnok_nil)) rfl func89 rfl call89 (D := pl89) ?_ ?_
  · intro args hp K h
    unfold rpolyS at h
    split at h
    · exact Nat.le_of_ble_eq_true rfl
    · exact h.elim
  · intro args hp K h
    unfold rpolyS at h
    split at h
    · rename_i key s
      obtain ⟨⟨hk, hs⟩, h⟩ := pre_e h
      have hml : maskB.length = 16 := rfl
      repeat ((conv => whnf); first | refine pre_a ?_ | refine cond_ta ?_ | refine cond_fa ?_ | refine same_i ?_)
      conv => whnf
      refine loop_h (Ix (128)) (fun q => ⟨[(0, .str key), (1, .str s), (5, .ptr 0 0 0 []), (6, .ptr 1 0 0 []), (7, .ptr 2 0 0 []), (8, .ptr 3 0 0 []), (9, .int q.i)], [.mk 152 [.arr64 5 (btSt (keyBit key) q.i)], .mk 152 [.arr64 5 [0, 0, 0, 0, 0]], .mk 152 [.arr64 5 [0, 0, 0, 0, 0]], .mk 103 [.arr8 16 maskB]]⟩) (fun q => (128) - q.i) ⟨0, Nat.zero_le _⟩ [0, 1, 2, 3] ?_ ?_
      · repeat ((conv => whnf); refine same_i ?_)
        conv => whnf
        refine same_q (congrArg (fun x => SV.agg [SV.arr64 5 x]) (show [0, 0, 0, 0, 0] = btSt (keyBit key) 0 by unfold btSt; rfl)) ?_
        repeat ((conv => whnf); refine same_i ?_)
        exact trivial
      · intro q
        have hi := q.hi
        have hl := btSt_len (keyBit key) q.i
        by_cases h4 : q.i < 128
        · have hm8 : (q.i : Int).tmod 8 = ((q.i % 8 : Nat) : Int) := by rw [Int.tmod_eq_emod_of_nonneg (by omega)]; omega
          have hd8 : (q.i : Int).tdiv 8 = ((q.i / 8 : Nat) : Int) := by rw [Int.tdiv_eq_ediv_of_nonneg (by omega)]; omega
          have hm26 : (q.i : Int).tmod 26 = ((q.i % 26 : Nat) : Int) := by rw [Int.tmod_eq_emod_of_nonneg (by omega)]; omega
          have hd26 : (q.i : Int).tdiv 26 = ((q.i / 26 : Nat) : Int) := by rw [Int.tdiv_eq_ediv_of_nonneg (by omega)]; omega
          have hp8 : (8 : Int) ≠ 0 ∧ fits ((q.i : Int).tdiv 8) := ⟨by decide, by rw [hd8]; unfold fits; omega⟩
          have hp26 : (26 : Int) ≠ 0 ∧ fits ((q.i : Int).tdiv 26) := ⟨by decide, by rw [hd26]; unfold fits; omega⟩
          have hcd : decide ((key.getD ((q.i : Int).tdiv 8).toNat 0 &&& maskB.getD (off (addO [] ((q.i : Int).tdiv 8).toNat ty5.sz)) 0) >>> UInt8.ofNat ((q.i : Int).tmod 8).toNat &&& UInt8.ofNat 1 = UInt8.ofNat 1) = keyBit key q.i := by
            rw [hd8, hm8, Int.toNat_natCast, Int.toNat_natCast]; rfl
          have hI : ((q.i : Int).tdiv 26).toNat = q.i / 26 := by omega
          by_cases hb : keyBit key q.i = true
          · rw [hb] at hcd
            have hn := btSt_t hb
            repeat ((conv => whnf); first | refine pre_a ?_ | refine cond_ta ?_ | refine cond_fa ?_ | refine same_i ?_ | refine pre_i (by first | exact hcd | (rw [hcd]; rfl)) ?_ | refine cond_t (by first | exact hcd | (rw [hcd]; rfl)) ?_ | refine cond_f (by first | exact hcd | (rw [hcd]; rfl)) ?_)
            conv => whnf
            rw [hm26, Int.toNat_natCast, hI]
            conv => whnf
            refine ⟨⟨q.i + 1, h4⟩, [0, 1, 2, 3], by show (128) - (q.i + 1) < (128) - q.i; omega, ?_⟩
            repeat ((conv => whnf); refine same_i ?_)
            conv => whnf
            refine same_q (congrArg (fun x => SV.agg [SV.arr64 5 x]) hn.symm) ?_
            repeat ((conv => whnf); refine same_i ?_)
            exact trivial
          · have hb2 : keyBit key q.i = false := by cases hh : keyBit key q.i with | true => exact absurd hh hb | false => rfl
            rw [hb2] at hcd
            have hn := btSt_f hb2
            repeat ((conv => whnf); first | refine pre_a ?_ | refine cond_ta ?_ | refine cond_fa ?_ | refine same_i ?_ | refine pre_i (by first | exact hcd | (rw [hcd]; rfl)) ?_ | refine cond_t (by first | exact hcd | (rw [hcd]; rfl)) ?_ | refine cond_f (by first | exact hcd | (rw [hcd]; rfl)) ?_)
            conv => whnf
            refine ⟨⟨q.i + 1, h4⟩, [0, 1, 2, 3], by show (128) - (q.i + 1) < (128) - q.i; omega, ?_⟩
            repeat ((conv => whnf); refine same_i ?_)
            conv => whnf
            refine same_q (congrArg (fun x => SV.agg [SV.arr64 5 x]) hn.symm) ?_
            repeat ((conv => whnf); refine same_i ?_)
            exact trivial
        · have e4 : q.i = 128 := by omega
          rw [e4]
          obtain ⟨R, hR⟩ : ∃ R, R = btSt (keyBit key) 128 := ⟨_, rfl⟩
          have hRl : R.length = 5 := by rw [hR]; exact btSt_len _ _
          rw [← hR]
          repeat ((conv => whnf); first | refine pre_a ?_ | refine cond_ta ?_ | refine cond_fa ?_ | refine same_i ?_)
          conv => whnf
          refine loop_h (Ix (((s.length + 15) / 16))) (fun t => ⟨[(0, .str key), (1, .str s), (5, .ptr 0 0 0 []), (6, .ptr 1 0 0 []), (7, .ptr 2 0 0 []), (10, .int (16 * (t.i : Int)))], [.mk 152 [.arr64 5 R], .mk 152 [.arr64 5 (raSt key s t.i)], .mk 152 [.arr64 5 (lwSt s t.i)]]⟩) (fun t => (((s.length + 15) / 16)) - t.i) ⟨0, Nat.zero_le _⟩ [0, 1, 2] ?_ ?_
          · repeat ((conv => whnf); refine same_i ?_)
            conv => whnf
            refine same_q (congrArg (fun x => SV.agg [SV.arr64 5 x]) (show [0, 0, 0, 0, 0] = raSt key s 0 by unfold raSt; rfl)) ?_
            repeat ((conv => whnf); refine same_i ?_)
            exact trivial
          · intro t
            have hti := t.hi
            have hal := raSt_len key s t.i
            have hwl := lwSt_len s t.i
            by_cases h5 : 16 * t.i < s.length
            · obtain ⟨n, hn⟩ : ∃ n, n = min 16 (s.length - 16 * t.i) := ⟨_, rfl⟩
              have hn0 : 0 < n := by omega
              have hn16 : n ≤ 16 := by omega
              have hns : 16 * t.i + n ≤ s.length := by omega
              have hmin : min (16 * (t.i : Int) + 16) (s.length : Int) = ((16 * t.i + n : Nat) : Int) := by omega
              repeat ((conv => whnf); first | refine pre_a ?_ | refine cond_ta ?_ | refine cond_fa ?_ | refine same_i ?_)
              conv => whnf
              rw [hmin]
              refine loop_h (Ix ((8 * n))) (fun b => ⟨[(0, .str key), (1, .str s), (5, .ptr 0 0 0 []), (6, .ptr 1 0 0 []), (7, .ptr 2 0 0 []), (10, .int (16 * (t.i : Int))), (11, .int ((16 * t.i + n : Nat) : Int)), (12, .int b.i)], [.mk 152 [.arr64 5 R], .mk 152 [.arr64 5 (raSt key s t.i)], .mk 152 [.arr64 5 (btSt (txtBit s (16 * t.i)) b.i)]]⟩) (fun b => ((8 * n)) - b.i) ⟨0, Nat.zero_le _⟩ [0, 1, 2] ?_ ?_
              · repeat ((conv => whnf); refine same_i ?_)
                conv => whnf
                refine same_q (congrArg (fun x => SV.agg [SV.arr64 5 x]) (show [0, 0, 0, 0, 0] = btSt (txtBit s (16 * t.i)) 0 by unfold btSt; rfl)) ?_
                repeat ((conv => whnf); refine same_i ?_)
                exact trivial
              · intro b
                have hbi := b.hi
                have hbl := btSt_len (txtBit s (16 * t.i)) b.i
                by_cases h6 : b.i < 8 * n
                · have hm8 : (b.i : Int).tmod 8 = ((b.i % 8 : Nat) : Int) := by rw [Int.tmod_eq_emod_of_nonneg (by omega)]; omega
                  have hd8 : (b.i : Int).tdiv 8 = ((b.i / 8 : Nat) : Int) := by rw [Int.tdiv_eq_ediv_of_nonneg (by omega)]; omega
                  have hm26 : (b.i : Int).tmod 26 = ((b.i % 26 : Nat) : Int) := by rw [Int.tmod_eq_emod_of_nonneg (by omega)]; omega
                  have hd26 : (b.i : Int).tdiv 26 = ((b.i / 26 : Nat) : Int) := by rw [Int.tdiv_eq_ediv_of_nonneg (by omega)]; omega
                  have hp8 : (8 : Int) ≠ 0 ∧ fits ((b.i : Int).tdiv 8) := ⟨by decide, by rw [hd8]; unfold fits; omega⟩
                  have hp26 : (26 : Int) ≠ 0 ∧ fits ((b.i : Int).tdiv 26) := ⟨by decide, by rw [hd26]; unfold fits; omega⟩
                  have hI : ((b.i : Int).tdiv 26).toNat = b.i / 26 := by omega
                  have hA : (16 * (t.i : Int) + (b.i : Int).tdiv 8).toNat = 16 * t.i + b.i / 8 := by omega
                  have hcd : decide (s.getD (16 * (t.i : Int) + (b.i : Int).tdiv 8).toNat 0 >>> UInt8.ofNat ((b.i : Int).tmod 8).toNat &&& UInt8.ofNat 1 = UInt8.ofNat 1) = txtBit s (16 * t.i) b.i := by
                    rw [hA, hm8, Int.toNat_natCast]; rfl
                  by_cases hb : txtBit s (16 * t.i) b.i = true
                  · rw [hb] at hcd
                    have hnx := btSt_t hb
                    repeat ((conv => whnf); first | refine pre_a ?_ | refine cond_ta ?_ | refine cond_fa ?_ | refine same_i ?_ | refine pre_i (by first | exact hcd | (rw [hcd]; rfl)) ?_ | refine cond_t (by first | exact hcd | (rw [hcd]; rfl)) ?_ | refine cond_f (by first | exact hcd | (rw [hcd]; rfl)) ?_)
                    conv => whnf
                    rw [hm26, Int.toNat_natCast, hI]
                    conv => whnf
                    refine ⟨⟨b.i + 1, h6⟩, [0, 1, 2], by show ((8 * n)) - (b.i + 1) < ((8 * n)) - b.i; omega, ?_⟩
                    repeat ((conv => whnf); refine same_i ?_)
                    conv => whnf
                    refine same_q (congrArg (fun x => SV.agg [SV.arr64 5 x]) hnx.symm) ?_
                    repeat ((conv => whnf); refine same_i ?_)
                    exact trivial
                  · have hb2 : txtBit s (16 * t.i) b.i = false := by cases hh : txtBit s (16 * t.i) b.i with | true => exact absurd hh hb | false => rfl
                    rw [hb2] at hcd
                    have hnx := btSt_f hb2
                    repeat ((conv => whnf); first | refine pre_a ?_ | refine cond_ta ?_ | refine cond_fa ?_ | refine same_i ?_ | refine pre_i (by first | exact hcd | (rw [hcd]; rfl)) ?_ | refine cond_t (by first | exact hcd | (rw [hcd]; rfl)) ?_ | refine cond_f (by first | exact hcd | (rw [hcd]; rfl)) ?_)
                    conv => whnf
                    refine ⟨⟨b.i + 1, h6⟩, [0, 1, 2], by show ((8 * n)) - (b.i + 1) < ((8 * n)) - b.i; omega, ?_⟩
                    repeat ((conv => whnf); refine same_i ?_)
                    conv => whnf
                    refine same_q (congrArg (fun x => SV.agg [SV.arr64 5 x]) hnx.symm) ?_
                    repeat ((conv => whnf); refine same_i ?_)
                    exact trivial
                · have e6 : b.i = 8 * n := by omega
                  have hbl8 := btSt_len (txtBit s (16 * t.i)) (8 * n)
                  have hJ : (8 * (((16 * t.i + n : Nat) : Int) - 16 * (t.i : Int))) = ((8 * n : Nat) : Int) := by omega
                  have hm26 : (8 * (((16 * t.i + n : Nat) : Int) - 16 * (t.i : Int))).tmod 26 = ((8 * n % 26 : Nat) : Int) := by rw [hJ, Int.tmod_eq_emod_of_nonneg (by omega)]; omega
                  have hd26 : (8 * (((16 * t.i + n : Nat) : Int) - 16 * (t.i : Int))).tdiv 26 = ((8 * n / 26 : Nat) : Int) := by rw [hJ, Int.tdiv_eq_ediv_of_nonneg (by omega)]; omega
                  have hp26 : (26 : Int) ≠ 0 ∧ fits ((8 * (((16 * t.i + n : Nat) : Int) - 16 * (t.i : Int))).tdiv 26) := ⟨by decide, by rw [hd26]; unfold fits; omega⟩
                  have hI : ((8 * (((16 * t.i + n : Nat) : Int) - 16 * (t.i : Int))).tdiv 26).toNat = 8 * n / 26 := by omega
                  obtain ⟨L, hL⟩ : ∃ L, L = rblk s (16 * t.i) n := ⟨_, rfl⟩
                  have hLl : L.length = 5 := by rw [hL]; exact rblk_len _ _ _
                  have hLw : lwSt s (t.i + 1) = L := by rw [hL, hn]; rfl
                  rw [e6]
                  repeat ((conv => whnf); first | refine pre_a ?_ | refine cond_ta ?_ | refine cond_fa ?_ | refine same_i ?_)
                  conv => whnf
                  rw [hm26, Int.toNat_natCast, hI]
                  refine loop_h (Ix (5)) (fun a => ⟨[(0, .str key), (1, .str s), (5, .ptr 0 0 0 []), (6, .ptr 1 0 0 []), (7, .ptr 2 0 0 []), (10, .int (16 * (t.i : Int))), (14, .int a.i)], [.mk 152 [.arr64 5 R], .mk 152 [.arr64 5 (adSt (raSt key s t.i) L a.i)], .mk 152 [.arr64 5 L]]⟩) (fun a => (5) - a.i) ⟨0, Nat.zero_le _⟩ [0, 1, 2] ?_ ?_
                  · repeat ((conv => whnf); refine same_i ?_)
                    conv => whnf
                    refine same_q (congrArg (fun x => SV.agg [SV.arr64 5 x]) (show raSt key s t.i = adSt (raSt key s t.i) L 0 by unfold adSt; rfl)) ?_
                    repeat ((conv => whnf); refine same_i ?_)
                    conv => whnf
                    refine same_q (congrArg (fun x => SV.agg [SV.arr64 5 x]) (show _ = L by rw [hL]; unfold rblk; rfl)) ?_
                    repeat ((conv => whnf); refine same_i ?_)
                    exact trivial
                  · intro a
                    have hai := a.hi
                    have had := adSt_len (raSt key s t.i) L a.i
                    by_cases h7 : a.i < 5
                    · repeat ((conv => whnf); first | refine pre_a ?_ | refine cond_ta ?_ | refine cond_fa ?_ | refine same_i ?_)
                      conv => whnf
                      refine ⟨⟨a.i + 1, h7⟩, [0, 1, 2], by show (5) - (a.i + 1) < (5) - a.i; omega, ?_⟩
                      repeat ((conv => whnf); refine same_i ?_)
                      conv => whnf
                      refine same_q (congrArg (fun x => SV.agg [SV.arr64 5 x]) (show (adSt (raSt key s t.i) L a.i).set ((a.i : Int)).toNat (g64 (adSt (raSt key s t.i) L a.i) ((a.i : Int)).toNat + g64 L ((a.i : Int)).toNat) = adSt (raSt key s t.i) L (a.i + 1) by rw [Int.toNat_natCast]; conv => rhs; unfold adSt)) ?_
                      repeat ((conv => whnf); refine same_i ?_)
                      exact trivial
                    · have e7 : a.i = 5 := by omega
                      have had5 : (adSt (raSt key s t.i) L 5).length = 5 := by rw [adSt_len]; exact hal
                      have hT : t.i < (s.length + 15) / 16 := by omega
                      have hra : rtimes (adSt (raSt key s t.i) L 5) R = raSt key s (t.i + 1) := by
                        conv => rhs; unfold raSt
                        rw [hL, hR, hn]
                      rw [e7]
                      repeat ((conv => whnf); first | refine pre_a ?_ | refine cond_ta ?_ | refine cond_fa ?_ | refine same_i ?_)
                      conv => whnf
                      refine ⟨⟨t.i + 1, hT⟩, [0, 1, 2], by show (((s.length + 15) / 16)) - (t.i + 1) < (((s.length + 15) / 16)) - t.i; omega, ?_⟩
                      repeat ((conv => whnf); refine same_i ?_)
                      conv => whnf
                      refine same_q (congrArg (fun x => SV.agg [SV.arr64 5 x]) hra) ?_
                      repeat ((conv => whnf); refine same_i ?_)
                      conv => whnf
                      refine same_q (congrArg (fun x => SV.agg [SV.arr64 5 x]) hLw.symm) ?_
                      repeat ((conv => whnf); refine same_i ?_)
                      exact trivial
            · have e5 : t.i = (s.length + 15) / 16 := by omega
              repeat ((conv => whnf); first | refine pre_a ?_ | refine cond_ta ?_ | refine cond_fa ?_ | refine same_i ?_)
              conv => whnf
              conv => whnf
              refine final_h (hp' := []) [] h ?_
              repeat ((conv => whnf); refine same_i ?_)
              conv => whnf
              refine same_q (congrArg SV.str (show rfin (raSt key s t.i) (List.drop 16 key) = rpoly key s by unfold rpoly; rw [e5])) ?_
              repeat ((conv => whnf); refine same_i ?_)
              exact trivial
    · exact h.elim
end Go.Sym.A

namespace Go.Sym.A
open Go Go.Proofs.Try Go.Sym.Lp Go.Sym.Pol Go.Sym.Cha
set_option maxRecDepth 100000
attribute [local irreducible] strm blk rpoly fillB len8
/-- the orders of the drawn regions of ref4.polyTag -/
def pl60 : List (Nat × List PStep) := [(1, [⟨0, []⟩, ⟨1, [0]⟩, ⟨4, [0, 1]⟩, ⟨6, [0, 1, 4]⟩, ⟨9, [0, 1, 4, 6]⟩, ⟨10, [0, 1, 4, 6]⟩, ⟨13, [0, 1, 4, 6, 9, 10]⟩, ⟨14, [0, 1, 4, 6, 9, 10]⟩, ⟨2, [4, 6, 9, 10, 13, 14]⟩, ⟨3, [4, 6, 9, 10, 13, 14]⟩, ⟨5, [6, 9, 10, 13, 14, 3]⟩, ⟨7, [9, 10, 13, 14, 3]⟩, ⟨8, [9, 10, 13, 14, 3]⟩, ⟨11, [13, 14, 3, 8]⟩, ⟨12, [13, 14, 3]⟩, ⟨15, [3, 8, 12]⟩, ⟨16, [3]⟩, ⟨17, []⟩, ⟨18, []⟩])]
/-- the orders of the drawn regions of ref4.PolySeal -/
def pl35 : List (Nat × List PStep) := []
/-- the orders of the drawn regions of ref4.PolyOpen -/
def pl38 : List (Nat × List PStep) := [(2, [⟨0, []⟩, ⟨1, []⟩, ⟨2, []⟩, ⟨3, []⟩, ⟨4, []⟩, ⟨5, []⟩, ⟨6, []⟩, ⟨7, []⟩, ⟨8, []⟩, ⟨9, []⟩, ⟨10, []⟩, ⟨11, []⟩, ⟨12, []⟩, ⟨13, []⟩, ⟨14, []⟩, ⟨15, []⟩, ⟨16, []⟩, ⟨17, []⟩, ⟨18, []⟩, ⟨19, []⟩, ⟨20, []⟩, ⟨21, []⟩, ⟨22, []⟩, ⟨23, [22]⟩, ⟨24, [22, 23]⟩, ⟨25, [22, 23, 24]⟩, ⟨26, [22, 23, 24, 25]⟩, ⟨27, [22, 23, 24]⟩, ⟨29, [22, 23, 24, 25, 26, 27]⟩, ⟨30, [22, 23, 24, 25, 26, 27, 29]⟩, ⟨31, [22, 23, 24, 25, 26, 27]⟩, ⟨28, [29, 30, 31]⟩, ⟨32, []⟩, ⟨33, []⟩])]

/-- a text's tag, as the reference finds it -/
def rpTag (key nonce aad c : List UInt8) : List UInt8 :=
  rpoly ((blk key nonce 0).take 32) (aad ++ fillB aad.length ++ (c ++ fillB c.length) ++ len8 aad.length ++ len8 c.length)
def rpTagS : Spec := fun args hp K => match args, hp with
  | [.str key, .str nonce, .str aad, .str c], [] => Pre (key.length = 32 ∧ nonce.length = 12 ∧ aad.length ≤ 65536 ∧ c.length ≤ 65536) (K (.str (rpTag key nonce aad c)) [])
  | _, _ => False
theorem rpTag_s : SoundC prog 60 rpTagS := by
  refine sound_f tyPol_ok (fnok_cons rchacha_s (fnok_cons rfilled_s (fnok_cons rlittle_s (fnok_cons rpoly_s fnok_nil)))) rfl func60 rfl call60 (D := pl60) ?_ ?_
  · intro args hp K h
    unfold rpTagS at h
    split at h
    · exact Nat.le_of_ble_eq_true rfl
    · exact h.elim
  · intro args hp K h
    unfold rpTagS at h
    split at h
    · rename_i key nonce aad c
      obtain ⟨⟨hk, hn, ha, hc⟩, h⟩ := pre_e h
      have hbl := blk_len key nonce (UInt32.ofNat 0)
      have hfa := fillB_len aad.length
      have hfc := fillB_len c.length
      have h8a := len8_len aad.length
      have h8c := len8_len c.length
      have hA : ((aad.length : Int)).toNat = aad.length := Int.toNat_natCast _
      have hC : ((c.length : Int)).toNat = c.length := Int.toNat_natCast _
      have hG : rpTag key nonce aad c = rpoly (List.take (Int.toNat 32) (blk key nonce (UInt32.ofNat 0))) (aad ++ fillB aad.length ++ (c ++ fillB c.length) ++ len8 ((aad.length : Int)).toNat ++ len8 ((c.length : Int)).toNat) := by unfold rpTag; rw [hA, hC]; rfl
      rw [hG] at h
      have h8a2 : (len8 ((aad.length : Int)).toNat).length = 8 := len8_len _
      have h8c2 : (len8 ((c.length : Int)).toNat).length = 8 := len8_len _
      have hq1 : (aad ++ fillB aad.length ++ (c ++ fillB c.length)).length ≤ 140000 := by
        rw [List.length_append, List.length_append, List.length_append]; omega
      have hq2 : (aad ++ fillB aad.length ++ (c ++ fillB c.length) ++ len8 ((aad.length : Int)).toNat).length ≤ 140008 := by
        rw [List.length_append]; omega
      have hq3 : (aad ++ fillB aad.length ++ (c ++ fillB c.length) ++ len8 ((aad.length : Int)).toNat ++ len8 ((c.length : Int)).toNat).length ≤ 140016 := by
        rw [List.length_append]; omega
      repeat ((conv => whnf); first | refine pre_a ?_ | refine cond_ta ?_ | refine cond_fa ?_ | refine same_i ?_)
      conv => whnf
      conv => whnf
      refine final_h (hp' := []) [] h ?_
      repeat ((conv => whnf); refine same_i ?_)
      exact trivial
    · exact h.elim
/-- a text sealed, as the reference does it -/
def rpSeal (key nonce aad s : List UInt8) : List UInt8 :=
  strm key nonce 1 s ++ rpTag key nonce aad (strm key nonce 1 s)
theorem rpTag_len (key nonce aad b : List UInt8) : (rpTag key nonce aad b).length = 16 := by
  unfold rpTag rpoly rfin
  exact rts_len _ _ _
attribute [local irreducible] rpTag
def rpSealS : Spec := fun args hp K => match args, hp with
  | [.str key, .str nonce, .str aad, .str s], [] =>
      if key.length = 32 ∧ nonce.length = 12 ∧ aad.length ≤ 65536 ∧ (s.length : Int) ≤ 65536 then
        K (.tup [.str (rpSeal key nonce aad s), .int 0]) []
      else K (.tup [.str [], .int 700]) []
  | _, _ => False
theorem rpSeal_s : SoundC prog 35 rpSealS := by
  refine sound_f tyPol_ok (fnok_cons rstream_s (fnok_cons rpTag_s fnok_nil)) rfl func35 rfl call35 (D := pl35) ?_ ?_
  · intro args hp K h
    unfold rpSealS at h
    split at h
    · exact Nat.le_of_ble_eq_true rfl
    · exact h.elim
  · intro args hp K h
    unfold rpSealS at h
    split at h
    · rename_i key nonce aad s
      by_cases h1 : key.length = 32
      · by_cases h2 : nonce.length = 12
        · by_cases h3 : aad.length ≤ 65536
          · by_cases h4 : (s.length : Int) ≤ 65536
            · rw [if_pos ⟨h1, h2, h3, h4⟩] at h
              have hsl : s.length ≤ 65536 := by omega
              have hst := strm_len key nonce 1 s
              have hst2 : (strm key nonce (UInt32.ofNat 1) s).length = s.length := hst
              have htl : (rpTag key nonce aad (strm key nonce (UInt32.ofNat 1) s)).length = 16 := rpTag_len _ _ _ _
              have hpt : key.length = 32 ∧ nonce.length = 12 ∧ aad.length ≤ 65536 ∧ (strm key nonce (UInt32.ofNat 1) s).length ≤ 65536 := ⟨h1, h2, h3, by omega⟩
              have hG : rpSeal key nonce aad s = strm key nonce (UInt32.ofNat 1) s ++ rpTag key nonce aad (strm key nonce (UInt32.ofNat 1) s) := by unfold rpSeal; rfl
              rw [hG] at h
              repeat ((conv => whnf); first | refine pre_a ?_ | refine cond_ta ?_ | refine cond_fa ?_ | refine same_i ?_)
              conv => whnf
              conv => whnf
              refine final_h (hp' := []) [] h ?_
              repeat ((conv => whnf); refine same_i ?_)
              exact trivial
            · rw [if_neg fun hh => h4 hh.2.2.2] at h
              repeat ((conv => whnf); first | refine pre_a ?_ | refine cond_ta ?_ | refine cond_fa ?_ | refine same_i ?_)
              conv => whnf
              refine final_h (hp' := []) [] h ?_
              repeat ((conv => whnf); refine same_i ?_)
              exact trivial
          · rw [if_neg fun hh => h3 hh.2.2.1] at h
            repeat ((conv => whnf); first | refine pre_a ?_ | refine cond_ta ?_ | refine cond_fa ?_ | refine same_i ?_)
            conv => whnf
            refine final_h (hp' := []) [] h ?_
            repeat ((conv => whnf); refine same_i ?_)
            exact trivial
        · rw [if_neg fun hh => h2 hh.2.1] at h
          repeat ((conv => whnf); first | refine pre_a ?_ | refine cond_ta ?_ | refine cond_fa ?_ | refine same_i ?_)
          conv => whnf
          refine final_h (hp' := []) [] h ?_
          repeat ((conv => whnf); refine same_i ?_)
          exact trivial
      · rw [if_neg fun hh => h1 hh.1] at h
        repeat ((conv => whnf); first | refine pre_a ?_ | refine cond_ta ?_ | refine cond_fa ?_ | refine same_i ?_)
        conv => whnf
        refine final_h (hp' := []) [] h ?_
        repeat ((conv => whnf); refine same_i ?_)
        exact trivial
    · exact h.elim
def rpOpenS : Spec := fun args hp K => match args, hp with
  | [.str key, .str nonce, .str aad, .str s], [] => Pre (s.length < 9223372036854775808) <|
      if (key.length = 32 ∧ nonce.length = 12 ∧ aad.length ≤ 65536 ∧ (s.length : Int) - 16 ≤ 65536) ∧ 16 ≤ s.length ∧ rpTag key nonce aad (s.take (s.length - 16)) = s.drop (s.length - 16) then
        K (.tup [.str (strm key nonce 1 (s.take (s.length - 16))), .int 0]) []
      else K (.tup [.str [], .int 700]) []
  | _, _ => False
theorem rpOpen_s : SoundC prog 38 rpOpenS := by
  refine sound_f tyPol_ok (fnok_cons rstream_s (fnok_cons rpTag_s fnok_nil)) rfl func38 rfl call38 (D := pl38) ?_ ?_
  · intro args hp K h
    unfold rpOpenS at h
    split at h
    · exact Nat.le_of_ble_eq_true rfl
    · exact h.elim
  · intro args hp K h
    unfold rpOpenS at h
    split at h
    · rename_i key nonce aad s
      obtain ⟨hs63, h⟩ := pre_e h
      by_cases h1 : key.length = 32
      · by_cases h2 : nonce.length = 12
        · by_cases h3 : aad.length ≤ 65536
          · by_cases h5 : 16 ≤ s.length
            · by_cases h4 : (s.length : Int) - 16 ≤ 65536
              · have hn : ((s.length : Int) - 16).toNat = s.length - 16 := by omega
                have htl : (List.take ((s.length : Int) - 16).toNat s).length = s.length - 16 := by rw [hn, List.length_take]; omega
                by_cases hq : rpTag key nonce aad (s.take (s.length - 16)) = s.drop (s.length - 16)
                · rw [if_pos ⟨⟨h1, h2, h3, h4⟩, h5, hq⟩] at h
                  have hdq : decide (rpTag key nonce aad (List.take ((s.length : Int) - 16).toNat s) = List.drop ((s.length : Int) - 16).toNat s) = true := decide_eq_true (by rw [hn]; exact hq)
                  have hG : strm key nonce 1 (s.take (s.length - 16)) = strm key nonce (UInt32.ofNat 1) (List.take ((s.length : Int) - 16).toNat s) := by rw [hn]; rfl
                  rw [hG] at h
                  repeat ((conv => whnf); first | refine pre_a ?_ | refine cond_ta ?_ | refine cond_fa ?_ | refine same_i ?_ | refine pre_i (by first | exact hdq | (rw [hdq]; rfl)) ?_ | refine cond_t (by first | exact hdq | (rw [hdq]; rfl)) ?_ | refine cond_f (by first | exact hdq | (rw [hdq]; rfl)) ?_)
                  conv => whnf
                  refine final_h (hp' := []) [] h ?_
                  repeat ((conv => whnf); refine same_i ?_)
                  exact trivial
                · rw [if_neg fun hh => hq hh.2.2] at h
                  have hdq : decide (rpTag key nonce aad (List.take ((s.length : Int) - 16).toNat s) = List.drop ((s.length : Int) - 16).toNat s) = false := decide_eq_false (by rw [hn]; exact hq)
                  repeat ((conv => whnf); first | refine pre_a ?_ | refine cond_ta ?_ | refine cond_fa ?_ | refine same_i ?_ | refine pre_i (by first | exact hdq | (rw [hdq]; rfl)) ?_ | refine cond_t (by first | exact hdq | (rw [hdq]; rfl)) ?_ | refine cond_f (by first | exact hdq | (rw [hdq]; rfl)) ?_)
                  conv => whnf
                  refine final_h (hp' := []) [] h ?_
                  repeat ((conv => whnf); refine same_i ?_)
                  exact trivial
              · rw [if_neg fun hh => h4 hh.1.2.2.2] at h
                repeat ((conv => whnf); first | refine pre_a ?_ | refine cond_ta ?_ | refine cond_fa ?_ | refine same_i ?_)
                conv => whnf
                refine final_h (hp' := []) [] h ?_
                repeat ((conv => whnf); refine same_i ?_)
                exact trivial
            · rw [if_neg fun hh => h5 hh.2.1] at h
              repeat ((conv => whnf); first | refine pre_a ?_ | refine cond_ta ?_ | refine cond_fa ?_ | refine same_i ?_)
              conv => whnf
              refine final_h (hp' := []) [] h ?_
              repeat ((conv => whnf); refine same_i ?_)
              exact trivial
          · rw [if_neg fun hh => h3 hh.1.2.2.1] at h
            repeat ((conv => whnf); first | refine pre_a ?_ | refine cond_ta ?_ | refine cond_fa ?_ | refine same_i ?_)
            conv => whnf
            refine final_h (hp' := []) [] h ?_
            repeat ((conv => whnf); refine same_i ?_)
            exact trivial
        · rw [if_neg fun hh => h2 hh.1.2.1] at h
          repeat ((conv => whnf); first | refine pre_a ?_ | refine cond_ta ?_ | refine cond_fa ?_ | refine same_i ?_)
          conv => whnf
          refine final_h (hp' := []) [] h ?_
          repeat ((conv => whnf); refine same_i ?_)
          exact trivial
      · rw [if_neg fun hh => h1 hh.1.1] at h
        repeat ((conv => whnf); first | refine pre_a ?_ | refine cond_ta ?_ | refine cond_fa ?_ | refine same_i ?_)
        conv => whnf
        refine final_h (hp' := []) [] h ?_
        repeat ((conv => whnf); refine same_i ?_)
        exact trivial
    · exact h.elim
end Go.Sym.A

/-
  Poly1305: what the reference's carry does to the number. Plain laws. No program in sight.
-/
namespace Go.Sym.Pol
open Go.Sym.Lp
/-- limbs that are not too great are carried; the number stays, modulo; limb 0 may be greater -/
theorem rcd_val {x : List UInt64} (h : x.length = 5) {B : Nat} (hB : B ≤ 1152921504606846976) (hb : ∀ i, i < 5 → (g64 x i).toNat ≤ B) :
    ∃ k, ws x = ws (rcd x) + k * pP ∧ (rcd x).length = 5 ∧ (g64 (rcd x) 0).toNat ≤ 67108863 + 5 * (B / 67108864 + B / 67108864 / 33554432 + 1) ∧ (∀ i, 0 < i → i < 5 → (g64 (rcd x) i).toNat < 67108864) := by
  obtain ⟨a, b, c, d, e, rfl⟩ := five h
  have ha : a.toNat ≤ B := hb 0 (by decide)
  have hb' : b.toNat ≤ B := hb 1 (by decide)
  have hc : c.toNat ≤ B := hb 2 (by decide)
  have hd : d.toNat ≤ B := hb 3 (by decide)
  have he : e.toNat ≤ B := hb 4 (by decide)
  rw [rcd_eq]
  simp only
  have e0 : (a + 0).toNat = a.toNat := ad64 (by show a.toNat + 0 < _; omega)
  generalize a + 0 = a' at *
  have s0 := sh26 a'
  have n0 := an26 a'
  generalize a' >>> (26 : UInt64) = c0 at *
  generalize a' &&& M26 = a0 at *
  have e1 : (b + c0).toNat = b.toNat + c0.toNat := ad64 (by omega)
  generalize b + c0 = b1 at *
  have s1 := sh26 b1
  have n1 := an26 b1
  generalize b1 >>> (26 : UInt64) = c1 at *
  have e2 : (c + c1).toNat = c.toNat + c1.toNat := ad64 (by omega)
  generalize c + c1 = c' at *
  have s2 := sh26 c'
  have n2 := an26 c'
  generalize c' >>> (26 : UInt64) = c2 at *
  have e3 : (d + c2).toNat = d.toNat + c2.toNat := ad64 (by omega)
  generalize d + c2 = d' at *
  have s3 := sh26 d'
  have n3 := an26 d'
  generalize d' >>> (26 : UInt64) = c3 at *
  have e4 : (e + c3).toNat = e.toNat + c3.toNat := ad64 (by omega)
  generalize e + c3 = e' at *
  have s4 := sh26 e'
  have n4 := an26 e'
  generalize e' >>> (26 : UInt64) = c4 at *
  have m5 : (5 * c4).toNat = 5 * c4.toNat := mu64 (by show 5 * c4.toNat < _; omega)
  have e5 : (a0 + 5 * c4).toNat = a0.toNat + 5 * c4.toNat := by rw [ad64 (by omega), m5]
  refine ⟨c4.toNat, ?_, rfl, ?_, ?_⟩
  · simp only [ws]
    rw [e5, n1, n2, n3, n4]
    unfold pP
    omega
  · show (a0 + 5 * c4).toNat ≤ _
    rw [e5]; omega
  · intro i h0 hi
    have : i = 1 ∨ i = 2 ∨ i = 3 ∨ i = 4 := by omega
    rcases this with rfl | rfl | rfl | rfl
    · show (b1 &&& M26).toNat < _; omega
    · show (c' &&& M26).toNat < _; omega
    · show (d' &&& M26).toNat < _; omega
    · show (e' &&& M26).toNat < _; omega
end Go.Sym.Pol
namespace Go.Sym.Pol
/-- a product of the reference: modulo; its limbs are small -/
theorem rtimes_val {x r : List UInt64} (hx : x.length = 5) (hr : r.length = 5) (bx : ∀ i, i < 5 → (g64 x i).toNat < 268435456) (br : ∀ i, i < 5 → (g64 r i).toNat < 67108864) :
    (∃ k, ws x * ws r = ws (rtimes x r) + k * pP) ∧ ∀ i, i < 5 → (g64 (rtimes x r) i).toNat < 134217728 := by
  obtain ⟨⟨k1, e1⟩, hb⟩ := pr_val hx hr bx br
  obtain ⟨k2, e2, l2, a2, b2⟩ := rcd_val (prSt_len x r 25) (B := 1152921504606846976) (Nat.le_refl _) (fun i hi => Nat.le_of_lt (hb i hi))
  have a2' : (g64 (rcd (prSt x r 25)) 0).toNat ≤ 100000000000 := by omega
  obtain ⟨k3, e3, l3, a3, b3⟩ := rcd_val l2 (B := 100000000000) (by omega) (fun i hi => by
    by_cases h0 : i = 0
    · rw [h0]; exact a2'
    · have := b2 i (by omega) hi; omega)
  refine ⟨⟨k1 + k2 + k3, ?_⟩, ?_⟩
  · unfold rtimes
    rw [e1, e2, e3, Nat.add_mul, Nat.add_mul]
    omega
  · intro i hi
    unfold rtimes
    by_cases h0 : i = 0
    · rw [h0]; omega
    · have := b3 i (by omega) hi; omega
/-- a product of the program: modulo; its limbs are small -/
theorem times_val {x r : List UInt64} (hx : x.length = 5) (hr : r.length = 5) (bx : ∀ i, i < 5 → (g64 x i).toNat < 268435456) (br : ∀ i, i < 5 → (g64 r i).toNat < 67108864) :
    (∃ k, ws x * ws r = ws (times x r) + k * pP) ∧ ∀ i, i < 5 → (g64 (times x r) i).toNat < 134217728 := by
  obtain ⟨⟨k1, e1⟩, hb⟩ := pr_val hx hr bx br
  obtain ⟨k2, e2, l2, b2, _⟩ := car_val (prSt_len x r 25) hb
  refine ⟨⟨k1 + k2, ?_⟩, ?_⟩
  · unfold times
    rw [e1, e2, Nat.add_mul]
    omega
  · intro i hi
    unfold times
    have := b2 i hi
    omega
end Go.Sym.Pol
namespace Go.Sym.Pol
theorem addL_val {x y : List UInt64} (hx : x.length = 5) (hy : y.length = 5) (bx : ∀ i, i < 5 → (g64 x i).toNat < 134217728) (bz : ∀ i, i < 5 → (g64 y i).toNat < 67108864) :
    ws (addL x y) = ws x + ws y ∧ ∀ i, i < 5 → (g64 (addL x y) i).toNat < 268435456 := by
  obtain ⟨a, b, c, d, e, rfl⟩ := five hx
  obtain ⟨r, s, t, u, v, rfl⟩ := five hy
  have ha : a.toNat < 134217728 := bx 0 (by decide)
  have hb : b.toNat < 134217728 := bx 1 (by decide)
  have hc : c.toNat < 134217728 := bx 2 (by decide)
  have hd : d.toNat < 134217728 := bx 3 (by decide)
  have he : e.toNat < 134217728 := bx 4 (by decide)
  have hr : r.toNat < 67108864 := bz 0 (by decide)
  have hs : s.toNat < 67108864 := bz 1 (by decide)
  have ht : t.toNat < 67108864 := bz 2 (by decide)
  have hu : u.toNat < 67108864 := bz 3 (by decide)
  have hv : v.toNat < 67108864 := bz 4 (by decide)
  have e1 : (a + r).toNat = a.toNat + r.toNat := ad64 (by omega)
  have e2 : (b + s).toNat = b.toNat + s.toNat := ad64 (by omega)
  have e3 : (c + t).toNat = c.toNat + t.toNat := ad64 (by omega)
  have e4 : (d + u).toNat = d.toNat + u.toNat := ad64 (by omega)
  have e5 : (e + v).toNat = e.toNat + v.toNat := ad64 (by omega)
  have ea : addL [a, b, c, d, e] [r, s, t, u, v] = [a + r, b + s, c + t, d + u, e + v] := rfl
  rw [ea]
  refine ⟨?_, ?_⟩
  · simp only [ws]
    rw [e1, e2, e3, e4, e5]
    omega
  · intro i hi
    have : i = 0 ∨ i = 1 ∨ i = 2 ∨ i = 3 ∨ i = 4 := by omega
    rcases this with rfl | rfl | rfl | rfl | rfl
    · show (a + r).toNat < _; omega
    · show (b + s).toNat < _; omega
    · show (c + t).toNat < _; omega
    · show (d + u).toNat < _; omega
    · show (e + v).toNat < _; omega
theorem adSt_addL {x y : List UInt64} (hx : x.length = 5) (hy : y.length = 5) : adSt x y 5 = addL x y := by
  obtain ⟨a, b, c, d, e, rfl⟩ := five hx
  obtain ⟨r, s, t, u, v, rfl⟩ := five hy
  rfl
/-- a block more, on both sides: the numbers stay the same, modulo -/
theorem step_both {x y r m n : List UInt64} (hx : x.length = 5) (hy : y.length = 5) (hr : r.length = 5) (hm : m.length = 5) (hn : n.length = 5)
    (bx : ∀ i, i < 5 → (g64 x i).toNat < 134217728) (bz : ∀ i, i < 5 → (g64 y i).toNat < 134217728) (br : ∀ i, i < 5 → (g64 r i).toNat < 67108864)
    (bm : ∀ i, i < 5 → (g64 m i).toNat < 67108864) (bn : ∀ i, i < 5 → (g64 n i).toNat < 67108864) (e : ws x % pP = ws y % pP) (em : ws m = ws n) :
    ws (times (addL x m) r) % pP = ws (rtimes (adSt y n 5) r) % pP := by
  obtain ⟨v1, b1⟩ := addL_val hx hm bx bm
  obtain ⟨v2, b2⟩ := addL_val hy hn bz bn
  rw [adSt_addL hy hn]
  obtain ⟨⟨k1, q1⟩, _⟩ := times_val (addL_len x m) hr b1 br
  obtain ⟨⟨k2, q2⟩, _⟩ := rtimes_val (addL_len y n) hr b2 br
  have f1 : ws (times (addL x m) r) % pP = (ws (addL x m) * ws r) % pP := by rw [q1, Nat.add_mul_mod_self_right]
  have f2 : ws (rtimes (addL y n) r) % pP = (ws (addL y n) * ws r) % pP := by rw [q2, Nat.add_mul_mod_self_right]
  rw [f1, f2, v1, v2, em, Nat.mul_mod, Nat.add_mod, e, ← Nat.add_mod, ← Nat.mul_mod]
end Go.Sym.Pol

/-
  Poly1305: limbs of bits and their number. Plain laws. No program in sight.
-/
namespace Go.Sym.Pol
open Go.Sym.Lp
theorem ws_set {x : List UInt64} (h : x.length = 5) {l : Nat} (hl : l < 5) (v : UInt64) :
    ws (x.set l v) + 2 ^ (26 * l) * (g64 x l).toNat = ws x + 2 ^ (26 * l) * v.toNat := by
  obtain ⟨a, b, c, d, e, rfl⟩ := five h
  have : l = 0 ∨ l = 1 ∨ l = 2 ∨ l = 3 ∨ l = 4 := by omega
  rcases this with rfl | rfl | rfl | rfl | rfl
  · show v.toNat + _ + _ + _ + _ + 1 * a.toNat = a.toNat + _ + _ + _ + _ + 1 * v.toNat; omega
  · show _ + 67108864 * v.toNat + _ + _ + _ + 67108864 * b.toNat = _ + 67108864 * b.toNat + _ + _ + _ + 67108864 * v.toNat; omega
  · show _ + _ + 4503599627370496 * v.toNat + _ + _ + 4503599627370496 * c.toNat = _ + _ + 4503599627370496 * c.toNat + _ + _ + 4503599627370496 * v.toNat; omega
  · show _ + _ + _ + 302231454903657293676544 * v.toNat + _ + 302231454903657293676544 * d.toNat = _ + _ + _ + 302231454903657293676544 * d.toNat + _ + 302231454903657293676544 * v.toNat; omega
  · show _ + _ + _ + _ + 20282409603651670423947251286016 * v.toNat + 20282409603651670423947251286016 * e.toNat = _ + _ + _ + _ + 20282409603651670423947251286016 * e.toNat + 20282409603651670423947251286016 * v.toNat; omega
theorem or_bit {a : UInt64} {k : Nat} (hk : k < 64) (h : a.toNat < 2 ^ k) : (a ||| UInt64.ofNat 1 <<< UInt64.ofNat k).toNat = a.toNat + 2 ^ k := by
  have hp : 2 ^ k < 2 ^ 64 := Nat.pow_lt_pow_right (by decide) hk
  have hk2 : (UInt64.ofNat k).toNat = k := by rw [UInt64.toNat_ofNat']; omega
  rw [UInt64.toNat_or, UInt64.toNat_shiftLeft, hk2, Nat.mod_eq_of_lt hk]
  show a.toNat ||| (1 <<< k) % 2 ^ 64 = _
  rw [Nat.one_shiftLeft, Nat.mod_eq_of_lt hp, Nat.or_comm]
  have e := Nat.two_pow_add_eq_or_of_lt h 1
  rw [Nat.mul_one] at e
  rw [← e, Nat.add_comm]
/-- the number of so many bits -/
def bitsN (P : Nat → Bool) : Nat → Nat
  | 0 => 0
  | i + 1 => bitsN P i + if P i = true then 2 ^ i else 0
theorem btSt_val (P : Nat → Bool) : ∀ i, i ≤ 130 → ws (btSt P i) = bitsN P i ∧ ∀ l, l < 5 → (g64 (btSt P i) l).toNat < 2 ^ (min 26 (i - 26 * l))
  | 0, _ => ⟨rfl, fun l hl => by
    have h0 : (g64 (btSt P 0) l).toNat = 0 := by
      have : l = 0 ∨ l = 1 ∨ l = 2 ∨ l = 3 ∨ l = 4 := by omega
      rcases this with rfl | rfl | rfl | rfl | rfl <;> rfl
    rw [h0]
    exact Nat.pow_pos (by decide)⟩
  | i + 1, h => by
    obtain ⟨hv, hb⟩ := btSt_val P i (by omega)
    have hmono : ∀ l, 2 ^ (min 26 (i - 26 * l)) ≤ 2 ^ (min 26 (i + 1 - 26 * l)) := fun l => Nat.pow_le_pow_right (by decide) (by omega)
    by_cases hp : P i = true
    · rw [btSt_t hp]
      have hl5 : i / 26 < 5 := by omega
      have hg : (g64 (btSt P i) (i / 26)).toNat < 2 ^ (i % 26) := by
        have := hb (i / 26) hl5
        rwa [show min 26 (i - 26 * (i / 26)) = i % 26 by omega] at this
      have ho := or_bit (a := g64 (btSt P i) (i / 26)) (k := i % 26) (by omega) hg
      refine ⟨?_, ?_⟩
      · have hs := ws_set (btSt_len P i) hl5 (g64 (btSt P i) (i / 26) ||| UInt64.ofNat 1 <<< UInt64.ofNat (i % 26))
        rw [ho, Nat.mul_add, ← Nat.pow_add, show 26 * (i / 26) + i % 26 = i by omega] at hs
        simp only [bitsN]
        rw [if_pos hp, ← hv]
        omega
      · intro l hl
        by_cases hli : l = i / 26
        · rw [hli]
          have hgs : g64 ((btSt P i).set (i / 26) (g64 (btSt P i) (i / 26) ||| UInt64.ofNat 1 <<< UInt64.ofNat (i % 26))) (i / 26) = g64 (btSt P i) (i / 26) ||| UInt64.ofNat 1 <<< UInt64.ofNat (i % 26) := by
            unfold g64
            rw [List.getD_eq_getElem?_getD, List.getElem?_set_self (by rw [btSt_len]; exact hl5)]; rfl
          rw [hgs, ho, show min 26 (i + 1 - 26 * (i / 26)) = i % 26 + 1 by omega, Nat.pow_succ]
          omega
        · have hgs : g64 ((btSt P i).set (i / 26) (g64 (btSt P i) (i / 26) ||| UInt64.ofNat 1 <<< UInt64.ofNat (i % 26))) l = g64 (btSt P i) l := by
            unfold g64
            rw [List.getD_eq_getElem?_getD, List.getElem?_set_ne (by omega), ← List.getD_eq_getElem?_getD]
          rw [hgs]
          exact Nat.lt_of_lt_of_le (hb l hl) (hmono l)
    · have hp2 : P i = false := by cases hh : P i with | true => exact absurd hh hp | false => rfl
      rw [btSt_f hp2]
      refine ⟨?_, fun l hl => Nat.lt_of_lt_of_le (hb l hl) (hmono l)⟩
      simp only [bitsN]
      rw [if_neg hp, hv, Nat.add_zero]
end Go.Sym.Pol

/-
  Poly1305: a block of the reference and its number. Plain laws. No program in sight.
-/
namespace Go.Sym.Pol
open Go.Sym.Lp
theorem bitsN_lt (P : Nat → Bool) : ∀ i, bitsN P i < 2 ^ i
  | 0 => Nat.one_pos
  | i + 1 => by
    have h := bitsN_lt P i
    simp only [bitsN]
    rw [Nat.pow_succ]
    split <;> omega
theorem bitsN_congr {P Q : Nat → Bool} : ∀ i, (∀ j, j < i → P j = Q j) → bitsN P i = bitsN Q i
  | 0, _ => rfl
  | i + 1, h => by
    simp only [bitsN]
    rw [bitsN_congr i (fun j hj => h j (by omega)), h i (by omega)]
/-- one bit more behind the bits: a place more -/
theorem btSt_one (P : Nat → Bool) {i : Nat} (h : i ≤ 129) :
    ws ((btSt P i).set (i / 26) (g64 (btSt P i) (i / 26) ||| UInt64.ofNat 1 <<< UInt64.ofNat (i % 26))) = bitsN P i + 2 ^ i ∧
    ∀ l, l < 5 → (g64 ((btSt P i).set (i / 26) (g64 (btSt P i) (i / 26) ||| UInt64.ofNat 1 <<< UInt64.ofNat (i % 26))) l).toNat < 67108864 := by
  have hc : btSt P i = btSt (fun j => if j = i then true else P j) i := by
    have : ∀ k, k ≤ i → btSt P k = btSt (fun j => if j = i then true else P j) k := by
      intro k
      induction k with
      | zero => intro _; rfl
      | succ k ih =>
        intro hk
        have hQ : (fun j => if j = i then true else P j) k = P k := if_neg (by omega)
        have ih2 := ih (by omega)
        cases hp : P k with
        | true => rw [btSt_t hp, btSt_t (hQ.trans hp), ← ih2]
        | false => rw [btSt_f hp, btSt_f (hQ.trans hp), ← ih2]
    exact this i (Nat.le_refl _)
  have hs : btSt (fun j => if j = i then true else P j) (i + 1) = (btSt P i).set (i / 26) (g64 (btSt P i) (i / 26) ||| UInt64.ofNat 1 <<< UInt64.ofNat (i % 26)) := by
    rw [btSt_t (by simp), ← hc]
  obtain ⟨hv, hb⟩ := btSt_val (fun j => if j = i then true else P j) (i + 1) (by omega)
  rw [hs] at hv hb
  refine ⟨?_, fun l hl => Nat.lt_of_lt_of_le (hb l hl) (Nat.pow_le_pow_right (n := 2) (by decide) (Nat.min_le_left 26 _))⟩
  rw [hv]
  simp only [bitsN, if_true]
  rw [bitsN_congr (Q := P) i (fun j hj => if_neg (by omega))]
theorem rblk_val (s : List UInt8) (at' : Nat) {n : Nat} (hn : n ≤ 16) :
    ws (rblk s at' n) = bitsN (txtBit s at') (8 * n) + 2 ^ (8 * n) ∧ ∀ l, l < 5 → (g64 (rblk s at' n) l).toNat < 67108864 :=
  btSt_one (txtBit s at') (by omega)
end Go.Sym.Pol

/-
  Poly1305: the words of a block and their number. Plain laws. No program in sight.
-/
namespace Go.Sym.Pol
open Go.Sym.Lp
def w3 : List UInt64 → Nat
  | [a, b, c] => a.toNat + 18446744073709551616 * b.toNat + 340282366920938463463374607431768211456 * c.toNat
  | _ => 0
theorem three {x : List UInt64} (h : x.length = 3) : ∃ a b c, x = [a, b, c] := by
  match x, h with
  | [a, b, c], _ => exact ⟨a, b, c, rfl⟩
theorem w3_set {x : List UInt64} (h : x.length = 3) {l : Nat} (hl : l < 3) (v : UInt64) :
    w3 (x.set l v) + 2 ^ (64 * l) * (g64 x l).toNat = w3 x + 2 ^ (64 * l) * v.toNat := by
  obtain ⟨a, b, c, rfl⟩ := three h
  have : l = 0 ∨ l = 1 ∨ l = 2 := by omega
  rcases this with rfl | rfl | rfl
  · show v.toNat + _ + _ + 1 * a.toNat = a.toNat + _ + _ + 1 * v.toNat; omega
  · show _ + 18446744073709551616 * v.toNat + _ + 18446744073709551616 * b.toNat = _ + 18446744073709551616 * b.toNat + _ + 18446744073709551616 * v.toNat; omega
  · show _ + _ + 340282366920938463463374607431768211456 * v.toNat + 340282366920938463463374607431768211456 * c.toNat = _ + _ + 340282366920938463463374607431768211456 * c.toNat + 340282366920938463463374607431768211456 * v.toNat; omega
theorem or_byte {a : UInt64} {y : UInt8} {k : Nat} (hk : k ≤ 56) (h : a.toNat < 2 ^ k) : (a ||| y.toUInt64 <<< UInt64.ofNat k).toNat = a.toNat + 2 ^ k * y.toNat := by
  have hk2 : (UInt64.ofNat k).toNat = k := by rw [UInt64.toNat_ofNat']; omega
  have hy : y.toNat < 256 := y.toNat_lt
  have hp : 2 ^ k ≤ 2 ^ 56 := Nat.pow_le_pow_right (by decide) hk
  have hm : 2 ^ k * y.toNat ≤ 2 ^ 56 * 255 := Nat.mul_le_mul hp (by omega)
  rw [UInt64.toNat_or, UInt64.toNat_shiftLeft, hk2, Nat.mod_eq_of_lt (a := k) (by omega)]
  show a.toNat ||| (y.toNat <<< k) % 2 ^ 64 = _
  rw [Nat.shiftLeft_eq, Nat.mul_comm y.toNat, Nat.mod_eq_of_lt (by omega), Nat.or_comm, ← Nat.two_pow_add_eq_or_of_lt h, Nat.add_comm]
/-- little-endian bytes' number -/
def leN (b : List UInt8) : Nat → Nat
  | 0 => 0
  | i + 1 => leN b i + 2 ^ (8 * i) * (b.getD i 0).toNat
theorem ldSt_val (b : List UInt8) : ∀ i, i ≤ 16 → w3 (ldSt b i) = leN b i ∧ ∀ l, l < 3 → (g64 (ldSt b i) l).toNat < 2 ^ (min 64 (8 * i - 64 * l))
  | 0, _ => ⟨rfl, fun l hl => by
    have h0 : (g64 (ldSt b 0) l).toNat = 0 := by
      have : l = 0 ∨ l = 1 ∨ l = 2 := by omega
      rcases this with rfl | rfl | rfl <;> rfl
    rw [h0]
    exact Nat.pow_pos (by decide)⟩
  | i + 1, h => by
    obtain ⟨hv, hb⟩ := ldSt_val b i (by omega)
    have hl3 : i / 8 < 3 := by omega
    have hg : (g64 (ldSt b i) (i / 8)).toNat < 2 ^ (8 * (i % 8)) := by
      have := hb (i / 8) hl3
      rwa [show min 64 (8 * i - 64 * (i / 8)) = 8 * (i % 8) by omega] at this
    have ho := or_byte (a := g64 (ldSt b i) (i / 8)) (y := b.getD i 0) (k := 8 * (i % 8)) (by omega) hg
    simp only [ldSt, leN]
    refine ⟨?_, ?_⟩
    · have hs := w3_set (ldSt_len b i) hl3 (g64 (ldSt b i) (i / 8) ||| (b.getD i 0).toUInt64 <<< UInt64.ofNat (8 * (i % 8)))
      rw [ho, Nat.mul_add, ← Nat.mul_assoc, ← Nat.pow_add, show 64 * (i / 8) + 8 * (i % 8) = 8 * i by omega] at hs
      rw [← hv]
      omega
    · intro l hl
      by_cases hli : l = i / 8
      · rw [hli]
        have hgs : g64 ((ldSt b i).set (i / 8) (g64 (ldSt b i) (i / 8) ||| (b.getD i 0).toUInt64 <<< UInt64.ofNat (8 * (i % 8)))) (i / 8) = g64 (ldSt b i) (i / 8) ||| (b.getD i 0).toUInt64 <<< UInt64.ofNat (8 * (i % 8)) := by
          unfold g64
          rw [List.getD_eq_getElem?_getD, List.getElem?_set_self (by rw [ldSt_len]; exact hl3)]; rfl
        have hy : (b.getD i 0).toNat < 256 := (b.getD i 0).toNat_lt
        have hm : 2 ^ (8 * (i % 8)) * (b.getD i 0).toNat ≤ 2 ^ (8 * (i % 8)) * 255 := Nat.mul_le_mul (Nat.le_refl _) (by omega)
        rw [hgs, ho, show min 64 (8 * (i + 1) - 64 * (i / 8)) = 8 * (i % 8) + 8 by omega, Nat.pow_add]
        show _ < 2 ^ (8 * (i % 8)) * 256
        omega
      · have hgs : g64 ((ldSt b i).set (i / 8) (g64 (ldSt b i) (i / 8) ||| (b.getD i 0).toUInt64 <<< UInt64.ofNat (8 * (i % 8)))) l = g64 (ldSt b i) l := by
          unfold g64
          rw [List.getD_eq_getElem?_getD, List.getElem?_set_ne (by omega), ← List.getD_eq_getElem?_getD]
        rw [hgs]
        exact Nat.lt_of_lt_of_le (hb l hl) (Nat.pow_le_pow_right (by decide) (by omega))
end Go.Sym.Pol

/-
  Poly1305: bits of bytes and their number. Plain laws. No program in sight.
-/
namespace Go.Sym.Pol
open Go.Sym.Lp
theorem bit8 (y : UInt8) {k : Nat} (h : k < 8) : (y >>> UInt8.ofNat k &&& UInt8.ofNat 1 = UInt8.ofNat 1) ↔ y.toNat / 2 ^ k % 2 = 1 := by
  have hk : (UInt8.ofNat k).toNat = k := by rw [UInt8.toNat_ofNat']; omega
  rw [← UInt8.toNat_inj, UInt8.toNat_and, UInt8.toNat_shiftRight, hk, Nat.mod_eq_of_lt h]
  show (y.toNat >>> k) &&& (2 ^ 1 - 1) = 1 ↔ _
  rw [Nat.and_two_pow_sub_one_eq_mod, Nat.shiftRight_eq_div_pow]
theorem mod_step (y k : Nat) : y % 2 ^ (k + 1) = y % 2 ^ k + 2 ^ k * (y / 2 ^ k % 2) := by
  rw [Nat.pow_succ, Nat.mod_mul]
theorem bits_byte {P : Nat → Bool} {i y : Nat} (hP : ∀ k, k < 8 → (P (8 * i + k) = true ↔ y / 2 ^ k % 2 = 1)) : ∀ k, k ≤ 8 → bitsN P (8 * i + k) = bitsN P (8 * i) + 2 ^ (8 * i) * (y % 2 ^ k)
  | 0, _ => by rw [Nat.pow_zero, Nat.mod_one, Nat.mul_zero]; rfl
  | k + 1, h => by
    have ih := bits_byte hP k (by omega)
    show (bitsN P (8 * i + k) + if P (8 * i + k) = true then 2 ^ (8 * i + k) else 0) = _
    rw [ih, mod_step, Nat.mul_add, ← Nat.mul_assoc, ← Nat.pow_add]
    by_cases hp : P (8 * i + k) = true
    · rw [if_pos hp, (hP k (by omega)).1 hp]; omega
    · rw [if_neg hp]
      have : y / 2 ^ k % 2 = 0 := by
        have := mt (hP k (by omega)).2 hp
        omega
      rw [this]; omega
theorem bits_bytes {P : Nat → Bool} {b : List UInt8} {n : Nat} (hP : ∀ i k, i < n → k < 8 → (P (8 * i + k) = true ↔ (b.getD i 0).toNat / 2 ^ k % 2 = 1)) : ∀ i, i ≤ n → bitsN P (8 * i) = leN b i
  | 0, _ => rfl
  | i + 1, h => by
    have hb := bits_byte (fun k hk => hP i k (by omega) hk) 8 (Nat.le_refl 8)
    have hy : (b.getD i 0).toNat < 2 ^ 8 := (b.getD i 0).toNat_lt
    rw [Nat.mod_eq_of_lt hy] at hb
    show bitsN P (8 * i + 8) = leN b i + _
    rw [hb, bits_bytes hP i (by omega)]
/-- the reference's block is its bytes' number, and one place more -/
theorem rblk_le {s : List UInt8} {at' n : Nat} (hn : n ≤ 16) :
    ws (rblk s at' n) = leN ((s.drop at').take n) n + 2 ^ (8 * n) := by
  rw [(rblk_val s at' hn).1, bits_bytes (b := (s.drop at').take n) (n := n) ?_ n (Nat.le_refl n)]
  intro i k hi hk
  have e : ((s.drop at').take n).getD i 0 = s.getD (at' + i) 0 := by
    rw [List.getD_eq_getElem?_getD, List.getElem?_take_of_lt hi, List.getElem?_drop, ← List.getD_eq_getElem?_getD]
  unfold txtBit
  rw [e, decide_eq_true_iff, show (8 * i + k) / 8 = i by omega, show (8 * i + k) % 8 = k by omega]
  exact bit8 _ hk
end Go.Sym.Pol

/-
  Poly1305: the program's block and its number. Plain laws. No program in sight.
-/
namespace Go.Sym.Pol
open Go.Sym.Lp
theorem shr64 (x : UInt64) {k : Nat} (h : k < 64) : (x >>> UInt64.ofNat k).toNat = x.toNat / 2 ^ k := by
  have hk : (UInt64.ofNat k).toNat = k := by rw [UInt64.toNat_ofNat']; omega
  rw [UInt64.toNat_shiftRight, hk, Nat.mod_eq_of_lt h, Nat.shiftRight_eq_div_pow]
theorem or_shl (x y : UInt64) {k : Nat} (h : k < 64) (hx : x.toNat < 2 ^ k) (hy : y.toNat * 2 ^ k < 2 ^ 64) : (x ||| y <<< UInt64.ofNat k).toNat = x.toNat + 2 ^ k * y.toNat := by
  have hk : (UInt64.ofNat k).toNat = k := by rw [UInt64.toNat_ofNat']; omega
  rw [UInt64.toNat_or, UInt64.toNat_shiftLeft, hk, Nat.mod_eq_of_lt h, Nat.shiftLeft_eq, Nat.mod_eq_of_lt hy, Nat.or_comm, Nat.mul_comm, ← Nat.two_pow_add_eq_or_of_lt hx, Nat.add_comm]
theorem limb_val {a b c : UInt64} (hc : c.toNat ≤ 1) : ws (limb [a, b, c]) = w3 [a, b, c] ∧ ∀ l, l < 5 → (g64 (limb [a, b, c]) l).toNat < 67108864 := by
  have ha := a.toNat_lt
  have hb := b.toNat_lt
  have e0 : (a &&& M26).toNat = a.toNat % 67108864 := an26 a
  have e1 : (a >>> (26 : UInt64) &&& M26).toNat = a.toNat / 67108864 % 67108864 := by rw [an26, sh26]
  have f2 : (b <<< (12 : UInt64)).toNat = 4096 * (b.toNat % 4503599627370496) := by
    rw [UInt64.toNat_shiftLeft, Nat.shiftLeft_eq]; show b.toNat * 4096 % 18446744073709551616 = _; omega
  have g2 : (a >>> (52 : UInt64)).toNat = a.toNat / 4503599627370496 := shr64 a (k := 52) (by decide)
  have o2 : (a >>> (52 : UInt64) ||| b <<< (12 : UInt64)).toNat = a.toNat / 4503599627370496 + 4096 * (b.toNat % 4503599627370496) := by
    have hlt : a.toNat / 4503599627370496 < 2 ^ 12 := by show _ < 4096; omega
    rw [UInt64.toNat_or, f2, g2, Nat.or_comm]
    show 2 ^ 12 * (b.toNat % 4503599627370496) ||| _ = _
    rw [← Nat.two_pow_add_eq_or_of_lt hlt, Nat.add_comm]
  have e2 : ((a >>> (52 : UInt64) ||| b <<< (12 : UInt64)) &&& M26).toNat = (a.toNat / 4503599627370496 + 4096 * (b.toNat % 4503599627370496)) % 67108864 := by rw [an26, o2]
  have g3 : (b >>> (14 : UInt64)).toNat = b.toNat / 16384 := shr64 b (k := 14) (by decide)
  have e3 : (b >>> (14 : UInt64) &&& M26).toNat = b.toNat / 16384 % 67108864 := by rw [an26, g3]
  have g4 : (b >>> (40 : UInt64)).toNat = b.toNat / 1099511627776 := shr64 b (k := 40) (by decide)
  have e4 : (b >>> (40 : UInt64) ||| c <<< (24 : UInt64)).toNat = b.toNat / 1099511627776 + 16777216 * c.toNat := by
    rw [show (c <<< (24 : UInt64)) = c <<< UInt64.ofNat 24 from rfl, or_shl _ c (k := 24) (by decide) (by rw [g4]; show _ < 16777216; omega) (by show c.toNat * 16777216 < 18446744073709551616; omega), g4]
  refine ⟨?_, ?_⟩
  · show (a &&& M26).toNat + 67108864 * (a >>> (26 : UInt64) &&& M26).toNat + 4503599627370496 * ((a >>> (52 : UInt64) ||| b <<< (12 : UInt64)) &&& M26).toNat + 302231454903657293676544 * (b >>> (14 : UInt64) &&& M26).toNat + 20282409603651670423947251286016 * (b >>> (40 : UInt64) ||| c <<< (24 : UInt64)).toNat = a.toNat + 18446744073709551616 * b.toNat + 340282366920938463463374607431768211456 * c.toNat
    rw [e0, e1, e2, e3, e4]
    omega
  · intro l hl
    have : l = 0 ∨ l = 1 ∨ l = 2 ∨ l = 3 ∨ l = 4 := by omega
    rcases this with rfl | rfl | rfl | rfl | rfl
    · show (a &&& M26).toNat < _; omega
    · show (a >>> (26 : UInt64) &&& M26).toNat < _; omega
    · show ((a >>> (52 : UInt64) ||| b <<< (12 : UInt64)) &&& M26).toNat < _; omega
    · show (b >>> (14 : UInt64) &&& M26).toNat < _; omega
    · show (b >>> (40 : UInt64) ||| c <<< (24 : UInt64)).toNat < _; omega
end Go.Sym.Pol

/-
  Poly1305: both sides read a block as the same number. Plain laws. No program in sight.
-/
namespace Go.Sym.Pol
open Go.Sym.Lp
theorem loadL_val {b : List UInt8} (hb : b.length ≤ 16) :
    ws (loadL b) = leN b b.length + 2 ^ (8 * b.length) ∧ ∀ l, l < 5 → (g64 (loadL b) l).toNat < 67108864 := by
  obtain ⟨hv, hl⟩ := ldSt_val b b.length hb
  obtain ⟨n, hn⟩ : ∃ n, n = b.length := ⟨_, rfl⟩
  rw [← hn] at hv hl hb ⊢
  have hl3 : n / 8 < 3 := by omega
  have hg : (g64 (ldSt b n) (n / 8)).toNat < 2 ^ (8 * (n % 8)) := by
    have := hl (n / 8) hl3
    rwa [show min 64 (8 * n - 64 * (n / 8)) = 8 * (n % 8) by omega] at this
  have ho := or_bit (a := g64 (ldSt b n) (n / 8)) (k := 8 * (n % 8)) (by omega) hg
  have hs := w3_set (ldSt_len b n) hl3 (g64 (ldSt b n) (n / 8) ||| UInt64.ofNat 1 <<< UInt64.ofNat (8 * (n % 8)))
  rw [ho, Nat.mul_add, ← Nat.pow_add, show 64 * (n / 8) + 8 * (n % 8) = 8 * n by omega] at hs
  have hW : ldW b = (ldSt b n).set (n / 8) (g64 (ldSt b n) (n / 8) ||| UInt64.ofNat 1 <<< UInt64.ofNat (8 * (n % 8))) := by
    rw [hn]; rfl
  have hw3 : w3 (ldW b) = leN b n + 2 ^ (8 * n) := by rw [hW, ← hv]; omega
  have hlen : (ldW b).length = 3 := by rw [hW, List.length_set]; exact ldSt_len _ _
  obtain ⟨x, y, z, e⟩ := three hlen
  have hle : leN b n < 2 ^ (8 * n) ∨ True := Or.inr trivial
  have hz : z.toNat ≤ 1 := by
    have h2 : (g64 (ldSt b n) 2).toNat < 2 ^ (min 64 (8 * n - 64 * 2)) := hl 2 (by decide)
    rw [show min 64 (8 * n - 64 * 2) = 0 by omega] at h2
    have h2' : (g64 (ldSt b n) 2).toNat = 0 := by omega
    have hz0 : z = g64 (ldW b) 2 := by rw [e]; rfl
    by_cases h16 : n / 8 = 2
    · have hgs : g64 (ldW b) 2 = g64 (ldSt b n) (n / 8) ||| UInt64.ofNat 1 <<< UInt64.ofNat (8 * (n % 8)) := by
        rw [hW]; unfold g64
        rw [h16, List.getD_eq_getElem?_getD, List.getElem?_set_self (by rw [ldSt_len]; decide)]; rfl
      rw [hz0, hgs, ho, h16, h2', show 8 * (n % 8) = 0 by omega]
      exact Nat.le_refl 1
    · have hgs : g64 (ldW b) 2 = g64 (ldSt b n) 2 := by
        rw [hW]; unfold g64
        rw [List.getD_eq_getElem?_getD, List.getElem?_set_ne (by omega), ← List.getD_eq_getElem?_getD]
      rw [hz0, hgs, h2']
      exact Nat.zero_le 1
  obtain ⟨q1, q2⟩ := limb_val (a := x) (b := y) hz
  unfold loadL
  rw [e]
  rw [e] at hw3
  exact ⟨q1.trans hw3, q2⟩
end Go.Sym.Pol

/-
  Poly1305: both sides' sums are the same number, modulo. Plain laws. No program in sight.
-/
namespace Go.Sym.Pol
open Go.Sym.Lp
theorem all_ra (key s : List UInt8) : ∀ t, t ≤ (s.length + 15) / 16 →
    ws (allSt (btSt (keyBit key) 128) [0, 0, 0, 0, 0] s t) % pP = ws (raSt key s t) % pP ∧
    (∀ i, i < 5 → (g64 (allSt (btSt (keyBit key) 128) [0, 0, 0, 0, 0] s t) i).toNat < 134217728) ∧ (∀ i, i < 5 → (g64 (raSt key s t) i).toNat < 134217728)
  | 0, _ => by
    have z : ∀ i, i < 5 → (g64 [0, 0, 0, 0, 0] i).toNat < 134217728 := by decide
    exact ⟨rfl, z, z⟩
  | t + 1, h => by
    obtain ⟨e, b1, b2⟩ := all_ra key s t (by omega)
    have hR : ∀ i, i < 5 → (g64 (btSt (keyBit key) 128) i).toNat < 67108864 := fun l hl => Nat.lt_of_lt_of_le ((btSt_val (keyBit key) 128 (by decide)).2 l hl) (Nat.pow_le_pow_right (n := 2) (by decide) (Nat.min_le_left 26 _))
    have hRl := btSt_len (keyBit key) 128
    obtain ⟨n, hn⟩ : ∃ n, n = min 16 (s.length - 16 * t) := ⟨_, rfl⟩
    have hbl : ((s.drop (16 * t)).take 16).length = n := by rw [List.length_take, List.length_drop, hn]
    have hbe : (s.drop (16 * t)).take n = (s.drop (16 * t)).take 16 := by
      have h1 := List.take_take (i := n) (j := 16) (l := s.drop (16 * t))
      rw [Nat.min_eq_left (by omega)] at h1
      rw [← h1]
      exact List.take_of_length_le (by rw [hbl]; exact Nat.le_refl _)
    obtain ⟨v1, c1⟩ := loadL_val (b := (s.drop (16 * t)).take 16) (by omega)
    obtain ⟨_, c2⟩ := rblk_val s (16 * t) (n := n) (by omega)
    have v2 := rblk_le (s := s) (at' := 16 * t) (n := n) (by omega)
    rw [hbe] at v2
    rw [hbl, ← v2] at v1
    have z5 : ([0, 0, 0, 0, 0] : List UInt64).length = 5 := rfl
    have la := allSt_len (r := btSt (keyBit key) 128) z5 s t
    have lr := raSt_len key s t
    have st := step_both la lr hRl (loadL_len _) (rblk_len s (16 * t) n) b1 b2 hR c1 c2 e v1
    obtain ⟨_, d1⟩ := addL_val la (loadL_len ((s.drop (16 * t)).take 16)) b1 c1
    obtain ⟨_, d2⟩ := addL_val lr (rblk_len s (16 * t) n) b2 c2
    have f1 := (times_val (addL_len (allSt (btSt (keyBit key) 128) [0, 0, 0, 0, 0] s t) (loadL ((s.drop (16 * t)).take 16))) hRl d1 hR).2
    have f2 := (rtimes_val (addL_len (raSt key s t) (rblk s (16 * t) n)) hRl d2 hR).2
    rw [← adSt_addL lr (rblk_len s (16 * t) n)] at f2
    rw [hn] at st f2
    exact ⟨st, f1, f2⟩
end Go.Sym.Pol

/-
  Poly1305: limbs of 26 bits are their number's. Plain laws. No program in sight.
-/
namespace Go.Sym.Pol
open Go.Sym.Lp
theorem ws_inj {x y : List UInt64} (hx : x.length = 5) (hy : y.length = 5) (bx : ∀ i, i < 5 → (g64 x i).toNat < 67108864) (bz : ∀ i, i < 5 → (g64 y i).toNat < 67108864) (e : ws x = ws y) : x = y := by
  obtain ⟨a, b, c, d, f, rfl⟩ := five hx
  obtain ⟨r, s, t, u, v, rfl⟩ := five hy
  have ha : a.toNat < 67108864 := bx 0 (by decide)
  have hb : b.toNat < 67108864 := bx 1 (by decide)
  have hc : c.toNat < 67108864 := bx 2 (by decide)
  have hd : d.toNat < 67108864 := bx 3 (by decide)
  have hf : f.toNat < 67108864 := bx 4 (by decide)
  have hr : r.toNat < 67108864 := bz 0 (by decide)
  have hs : s.toNat < 67108864 := bz 1 (by decide)
  have ht : t.toNat < 67108864 := bz 2 (by decide)
  have hu : u.toNat < 67108864 := bz 3 (by decide)
  have hv : v.toNat < 67108864 := bz 4 (by decide)
  simp only [ws] at e
  have e0 : a = r := UInt64.toNat_inj.1 (by omega)
  have e1 : b = s := UInt64.toNat_inj.1 (by omega)
  have e2 : c = t := UInt64.toNat_inj.1 (by omega)
  have e3 : d = u := UInt64.toNat_inj.1 (by omega)
  have e4 : f = v := UInt64.toNat_inj.1 (by omega)
  rw [e0, e1, e2, e3, e4]
end Go.Sym.Pol

/-
  Poly1305: both sides read the same factor out of a key. Plain laws. No program in sight.
-/
namespace Go.Sym.Pol
open Go.Sym.Lp
theorem take16 {key : List UInt8} (h : 16 ≤ key.length) : ∃ a0 a1 a2 a3 a4 a5 a6 a7 a8 a9 b0 b1 b2 b3 b4 b5 t, key = a0 :: a1 :: a2 :: a3 :: a4 :: a5 :: a6 :: a7 :: a8 :: a9 :: b0 :: b1 :: b2 :: b3 :: b4 :: b5 :: t := by
  match key, h with
  | a0 :: a1 :: a2 :: a3 :: a4 :: a5 :: a6 :: a7 :: a8 :: a9 :: b0 :: b1 :: b2 :: b3 :: b4 :: b5 :: t, _ => exact ⟨a0, a1, a2, a3, a4, a5, a6, a7, a8, a9, b0, b1, b2, b3, b4, b5, t, rfl⟩
theorem and255 (a : UInt8) : a &&& 255 = a := by
  apply UInt8.toNat_inj.1
  rw [UInt8.toNat_and]
  show a.toNat &&& (2 ^ 8 - 1) = _
  rw [Nat.and_two_pow_sub_one_eq_mod]
  exact Nat.mod_eq_of_lt a.toNat_lt
theorem masked {key : List UInt8} (h : 16 ≤ key.length) : ∀ i, i < 16 → (cC (cA (key.take 16) 4) 3).getD i 0 = key.getD i 0 &&& maskB.getD i 0 := by
  obtain ⟨a0, a1, a2, a3, a4, a5, a6, a7, a8, a9, b0, b1, b2, b3, b4, b5, t, rfl⟩ := take16 h
  have e : cC (cA (List.take 16 (a0 :: a1 :: a2 :: a3 :: a4 :: a5 :: a6 :: a7 :: a8 :: a9 :: b0 :: b1 :: b2 :: b3 :: b4 :: b5 :: t)) 4) 3 = [a0, a1, a2, a3 &&& 15, a4 &&& 252, a5, a6, a7 &&& 15, a8 &&& 252, a9, b0, b1 &&& 15, b2 &&& 252, b3, b4, b5 &&& 15] := rfl
  rw [e]
  intro i hi
  have hc : i = 0 ∨ i = 1 ∨ i = 2 ∨ i = 3 ∨ i = 4 ∨ i = 5 ∨ i = 6 ∨ i = 7 ∨ i = 8 ∨ i = 9 ∨ i = 10 ∨ i = 11 ∨ i = 12 ∨ i = 13 ∨ i = 14 ∨ i = 15 := by omega
  rcases hc with rfl | rfl | rfl | rfl | rfl | rfl | rfl | rfl | rfl | rfl | rfl | rfl | rfl | rfl | rfl | rfl
  · exact (and255 _).symm
  · exact (and255 _).symm
  · exact (and255 _).symm
  · rfl
  · rfl
  · exact (and255 _).symm
  · exact (and255 _).symm
  · rfl
  · rfl
  · exact (and255 _).symm
  · exact (and255 _).symm
  · rfl
  · rfl
  · exact (and255 _).symm
  · exact (and255 _).symm
  · rfl
theorem cut24 {x : List UInt64} (h : x.length = 5) {N : Nat} (hv : ws x = N + 340282366920938463463374607431768211456) (hN : N < 340282366920938463463374607431768211456) (hb : ∀ l, l < 5 → (g64 x l).toNat < 67108864) :
    ws (x.set 4 (g64 x 4 &&& UInt64.ofNat 16777215)) = N ∧ ∀ l, l < 5 → (g64 (x.set 4 (g64 x 4 &&& UInt64.ofNat 16777215)) l).toNat < 67108864 := by
  obtain ⟨a, b, c, d, e, rfl⟩ := five h
  have ha : a.toNat < 67108864 := hb 0 (by decide)
  have hb' : b.toNat < 67108864 := hb 1 (by decide)
  have hc : c.toNat < 67108864 := hb 2 (by decide)
  have hd : d.toNat < 67108864 := hb 3 (by decide)
  have he : e.toNat < 67108864 := hb 4 (by decide)
  have hm : (e &&& UInt64.ofNat 16777215).toNat = e.toNat % 16777216 := by
    rw [UInt64.toNat_and]
    show e.toNat &&& (2 ^ 24 - 1) = _
    rw [Nat.and_two_pow_sub_one_eq_mod]
  simp only [ws] at hv
  have es : [a, b, c, d, e].set 4 (g64 [a, b, c, d, e] 4 &&& UInt64.ofNat 16777215) = [a, b, c, d, e &&& UInt64.ofNat 16777215] := rfl
  rw [es]
  generalize e &&& UInt64.ofNat 16777215 = f at *
  refine ⟨?_, ?_⟩
  · simp only [ws]
    omega
  · intro i hi
    have : i = 0 ∨ i = 1 ∨ i = 2 ∨ i = 3 ∨ i = 4 := by omega
    rcases this with rfl | rfl | rfl | rfl | rfl
    · exact ha
    · exact hb'
    · exact hc
    · exact hd
    · show f.toNat < _; omega
theorem rOf_bits {key : List UInt8} (h : 16 ≤ key.length) : rOf key = btSt (keyBit key) 128 := by
  have hl : (cC (cA (key.take 16) 4) 3).length = 16 := by rw [cC_len, cA_len, List.length_take]; omega
  have hm := masked h
  unfold rOf
  obtain ⟨b, hb⟩ : ∃ b, b = cC (cA (key.take 16) 4) 3 := ⟨_, rfl⟩
  rw [← hb] at hl hm ⊢
  obtain ⟨v, bd⟩ := loadL_val (b := b) (by omega)
  rw [hl] at v
  have hbits : bitsN (keyBit key) (8 * 16) = leN b 16 := bits_bytes (b := b) (n := 16) (by
    intro i k hi hk
    unfold keyBit
    rw [decide_eq_true_iff, show (8 * i + k) / 8 = i by omega, show (8 * i + k) % 8 = k by omega, hm i hi]
    exact bit8 _ hk) 16 (Nat.le_refl _)
  have hlt := bitsN_lt (keyBit key) (8 * 16)
  rw [hbits] at hlt
  obtain ⟨v2, bd2⟩ := cut24 (loadL_len b) (N := leN b 16) v hlt bd
  obtain ⟨v3, bd3⟩ := btSt_val (keyBit key) 128 (by decide)
  refine ws_inj (by rw [List.length_set]; exact loadL_len b) (btSt_len _ _) bd2 (fun l hl => Nat.lt_of_lt_of_le (bd3 l hl) (Nat.pow_le_pow_right (n := 2) (by decide) (Nat.min_le_left 26 _))) ?_
  rw [v2, v3]
  exact hbits.symm
end Go.Sym.Pol

/-
  Poly1305: parts of a text summed one after the other are the text's sum. Plain laws. No program in sight.
-/
namespace Go.Sym.Pol
open Go.Sym.Lp
theorem all_front (r x : List UInt64) {A : List UInt8} (B : List UInt8) : ∀ t, 16 * t ≤ A.length → allSt r x (A ++ B) t = allSt r x A t
  | 0, _ => rfl
  | t + 1, h => by
    simp only [allSt]
    rw [all_front r x B t (by omega)]
    congr 1
    rw [List.drop_append_of_le_length (by omega), List.take_append_of_le_length (by rw [List.length_drop]; omega)]
theorem all_back (r x : List UInt64) {A : List UInt8} (B : List UInt8) {n : Nat} (hA : A.length = 16 * n) : ∀ t, allSt r x (A ++ B) (n + t) = allSt r (allSt r x A n) B t
  | 0 => all_front r x B n (by omega)
  | t + 1 => by
    show addB r (allSt r x (A ++ B) (n + t)) (((A ++ B).drop (16 * (n + t))).take 16) = addB r (allSt r (allSt r x A n) B t) ((B.drop (16 * t)).take 16)
    rw [all_back r x B hA t]
    congr 2
    rw [show 16 * (n + t) = A.length + 16 * t by omega, List.drop_append]
    have h1 : List.drop (A.length + 16 * t) A = [] := List.drop_eq_nil_of_le (by omega)
    rw [h1, List.nil_append]
    congr 1
    omega
theorem allB_app (r x : List UInt64) {A : List UInt8} (B : List UInt8) {n : Nat} (hA : A.length = 16 * n) : allB r (allB r x A) B = allB r x (A ++ B) := by
  unfold allB
  rw [List.length_append, show (A.length + 15) / 16 = n by omega, show (A.length + B.length + 15) / 16 = n + (B.length + 15) / 16 by omega]
  exact (all_back r x B hA _).symm
/-- the bytes that a mac is of -/
def macT (aad b : List UInt8) : List UInt8 := aad ++ fillB aad.length ++ (b ++ fillB b.length) ++ len8 aad.length ++ len8 b.length
theorem macSt_one (r : List UInt64) (aad b : List UInt8) : macSt r aad b = allB r [0, 0, 0, 0, 0] (macT aad b) := by
  unfold macSt
  have hf := fillB_len aad.length
  have h1 : (aad ++ fillB aad.length).length = 16 * ((aad.length + 15) / 16) := by rw [List.length_append, hf]; omega
  have h2 : (b.take (b.length - b.length % 16)).length = 16 * (b.length / 16) := by rw [List.length_take]; omega
  rw [allB_app r _ _ h1, allB_app r _ _ (n := (aad.length + 15) / 16 + b.length / 16) (by rw [List.length_append, h1, h2]; omega)]
  congr 1
  unfold macT
  simp only [List.append_assoc]
  rw [← List.append_assoc (b.take _) (b.drop _), List.take_append_drop]
end Go.Sym.Pol

/-
  Poly1305: the least number of a sum, on both sides. Plain laws. No program in sight.
-/
namespace Go.Sym.Pol
open Go.Sym.Lp
abbrev Sm (x : List UInt64) : Prop := ∀ i, i < 5 → (g64 x i).toNat < 67108864
theorem ws_lt {x : List UInt64} (h : x.length = 5) (hb : Sm x) : ws x < 1361129467683753853853498429727072845824 := by
  obtain ⟨a, b, c, d, e, rfl⟩ := five h
  have ha : a.toNat < 67108864 := hb 0 (by decide)
  have hb' : b.toNat < 67108864 := hb 1 (by decide)
  have hc : c.toNat < 67108864 := hb 2 (by decide)
  have hd : d.toNat < 67108864 := hb 3 (by decide)
  have he : e.toNat < 67108864 := hb 4 (by decide)
  simp only [ws]
  omega
/-- limbs and five more, carried -/
theorem plus_five {a b c d e : UInt64} (hb : Sm [a, b, c, d, e]) {A B C D E : UInt64} (hA : A = a + 5) (hB : B = b + A >>> (26 : UInt64)) (hC : C = c + B >>> (26 : UInt64)) (hD : D = d + C >>> (26 : UInt64)) (hE : E = e + D >>> (26 : UInt64)) :
    ws [A &&& M26, B &&& M26, C &&& M26, D &&& M26, E &&& M26] + 1361129467683753853853498429727072845824 * (E >>> (26 : UInt64)).toNat = ws [a, b, c, d, e] + 5 ∧ Sm [A &&& M26, B &&& M26, C &&& M26, D &&& M26, E &&& M26] := by
  have ha : a.toNat < 67108864 := hb 0 (by decide)
  have hb' : b.toNat < 67108864 := hb 1 (by decide)
  have hc : c.toNat < 67108864 := hb 2 (by decide)
  have hd : d.toNat < 67108864 := hb 3 (by decide)
  have he : e.toNat < 67108864 := hb 4 (by decide)
  have f5 : (5 : UInt64).toNat = 5 := rfl
  have e0 : A.toNat = a.toNat + 5 := by rw [hA, ad64 (by omega), f5]
  have s0 := sh26 A
  have e1 : B.toNat = b.toNat + A.toNat / 67108864 := by rw [hB, ad64 (by omega), s0]
  have s1 := sh26 B
  have e2 : C.toNat = c.toNat + B.toNat / 67108864 := by rw [hC, ad64 (by omega), s1]
  have s2 := sh26 C
  have e3 : D.toNat = d.toNat + C.toNat / 67108864 := by rw [hD, ad64 (by omega), s2]
  have s3 := sh26 D
  have e4 : E.toNat = e.toNat + D.toNat / 67108864 := by rw [hE, ad64 (by omega), s3]
  have s4 := sh26 E
  have n0 := an26 A
  have n1 := an26 B
  have n2 := an26 C
  have n3 := an26 D
  have n4 := an26 E
  refine ⟨?_, ?_⟩
  · simp only [ws]
    rw [n0, n1, n2, n3, n4, s4]
    omega
  · intro i hi
    have : i = 0 ∨ i = 1 ∨ i = 2 ∨ i = 3 ∨ i = 4 := by omega
    rcases this with rfl | rfl | rfl | rfl | rfl
    · show (A &&& M26).toNat < _; omega
    · show (B &&& M26).toNat < _; omega
    · show (C &&& M26).toNat < _; omega
    · show (D &&& M26).toNat < _; omega
    · show (E &&& M26).toNat < _; omega
/-- what both sides do with limbs of 26 bits at the end -/
def lowest (y : List UInt64) : List UInt64 := if 0 < (g64 (whlSt y 4) 4 >>> (26 : UInt64)).toNat then (whlSt y 4).set 4 (g64 (whlSt y 4) 4 &&& M26) else y
theorem whole_low (x : List UInt64) : whole x = lowest (car (car x)) := rfl
theorem whl_eq (a b c d e : UInt64) : whlSt [a, b, c, d, e] 4 =
    (let A := a + 5; let B := b + A >>> (26 : UInt64); let C := c + B >>> (26 : UInt64); let D := d + C >>> (26 : UInt64); let E := e + D >>> (26 : UInt64)
     [A &&& M26, B &&& M26, C &&& M26, D &&& M26, E]) := rfl
theorem lowest_val {y : List UInt64} (h : y.length = 5) (hb : Sm y) : ws (lowest y) = ws y % pP ∧ Sm (lowest y) ∧ (lowest y).length = 5 := by
  have hlt := ws_lt h hb
  obtain ⟨a, b, c, d, e, rfl⟩ := five h
  unfold lowest
  rw [whl_eq]
  simp only
  obtain ⟨A, hA⟩ : ∃ A, A = a + 5 := ⟨_, rfl⟩
  rw [← hA]
  obtain ⟨B, hB⟩ : ∃ B, B = b + A >>> (26 : UInt64) := ⟨_, rfl⟩
  rw [← hB]
  obtain ⟨C, hC⟩ : ∃ C, C = c + B >>> (26 : UInt64) := ⟨_, rfl⟩
  rw [← hC]
  obtain ⟨D, hD⟩ : ∃ D, D = d + C >>> (26 : UInt64) := ⟨_, rfl⟩
  rw [← hD]
  obtain ⟨E, hE⟩ : ∃ E, E = e + D >>> (26 : UInt64) := ⟨_, rfl⟩
  rw [← hE]
  obtain ⟨v, s⟩ := plus_five hb hA hB hC hD hE
  have h5 := ws_lt (x := [A &&& M26, B &&& M26, C &&& M26, D &&& M26, E &&& M26]) rfl s
  have hg : g64 [A &&& M26, B &&& M26, C &&& M26, D &&& M26, E] 4 = E := rfl
  rw [hg]
  unfold pP
  split
  · rename_i h0
    have e1 : [A &&& M26, B &&& M26, C &&& M26, D &&& M26, E].set 4 (E &&& M26) = [A &&& M26, B &&& M26, C &&& M26, D &&& M26, E &&& M26] := rfl
    rw [e1]
    refine ⟨?_, s, rfl⟩
    omega
  · rename_i h0
    refine ⟨?_, hb, rfl⟩
    omega
theorem rwhole_low {x : List UInt64} (h : x.length = 5) : rwhole x = lowest (rcd (rcd x)) := by
  unfold rwhole lowest
  have hl : (rcd (rcd x)).length = 5 := by rw [rcd_len, rcd_len, h]
  obtain ⟨a, b, c, d, e, he⟩ := five hl
  rw [he]
  have e1 : rcSt ([a, b, c, d, e].set 0 (g64 [a, b, c, d, e] 0 + 5)) 5 =
    (let A := a + 5 + 0; let B := b + A >>> (26 : UInt64); let C := c + B >>> (26 : UInt64); let D := d + C >>> (26 : UInt64); let E := e + D >>> (26 : UInt64)
     ([A &&& M26, B &&& M26, C &&& M26, D &&& M26, E &&& M26], E >>> (26 : UInt64))) := rfl
  have z : a + 5 + 0 = a + 5 := UInt64.add_zero _
  rw [z] at e1
  rw [e1, whl_eq]
  rfl
theorem rcd_full {x : List UInt64} (h : x.length = 5) (h0 : (g64 x 0).toNat < 67108964) (hb : ∀ i, 0 < i → i < 5 → (g64 x i).toNat < 67108864) : Sm (rcd x) := by
  obtain ⟨a, b, c, d, e, rfl⟩ := five h
  have ha : a.toNat < 67108964 := h0
  have hb' : b.toNat < 67108864 := hb 1 (by decide) (by decide)
  have hc : c.toNat < 67108864 := hb 2 (by decide) (by decide)
  have hd : d.toNat < 67108864 := hb 3 (by decide) (by decide)
  have he : e.toNat < 67108864 := hb 4 (by decide) (by decide)
  rw [rcd_eq]
  simp only
  have z : a + 0 = a := UInt64.add_zero _
  rw [z]
  have s0 := sh26 a
  have n0 := an26 a
  generalize a >>> (26 : UInt64) = c0 at *
  generalize a &&& M26 = a0 at *
  have e1 : (b + c0).toNat = b.toNat + c0.toNat := ad64 (by omega)
  generalize b + c0 = b1 at *
  have s1 := sh26 b1
  have n1 := an26 b1
  generalize b1 >>> (26 : UInt64) = c1 at *
  have e2 : (c + c1).toNat = c.toNat + c1.toNat := ad64 (by omega)
  generalize c + c1 = c' at *
  have s2 := sh26 c'
  have n2 := an26 c'
  generalize c' >>> (26 : UInt64) = c2 at *
  have e3 : (d + c2).toNat = d.toNat + c2.toNat := ad64 (by omega)
  generalize d + c2 = d' at *
  have s3 := sh26 d'
  have n3 := an26 d'
  generalize d' >>> (26 : UInt64) = c3 at *
  have e4 : (e + c3).toNat = e.toNat + c3.toNat := ad64 (by omega)
  generalize e + c3 = e' at *
  have s4 := sh26 e'
  have n4 := an26 e'
  generalize e' >>> (26 : UInt64) = c4 at *
  have m5 : (5 * c4).toNat = 5 * c4.toNat := mu64 (by show 5 * c4.toNat < _; omega)
  have e5 : (a0 + 5 * c4).toNat = a0.toNat + 5 * c4.toNat := by rw [ad64 (by omega), m5]
  intro i hi
  have : i = 0 ∨ i = 1 ∨ i = 2 ∨ i = 3 ∨ i = 4 := by omega
  rcases this with rfl | rfl | rfl | rfl | rfl
  · show (a0 + 5 * c4).toNat < _; omega
  · show (b1 &&& M26).toNat < _; omega
  · show (c' &&& M26).toNat < _; omega
  · show (d' &&& M26).toNat < _; omega
  · show (e' &&& M26).toNat < _; omega
theorem whole_val {x : List UInt64} (h : x.length = 5) (hb : ∀ i, i < 5 → (g64 x i).toNat < 134217728) : ws (whole x) = ws x % pP ∧ Sm (whole x) ∧ (whole x).length = 5 := by
  obtain ⟨k1, v1, l1, b1, t1⟩ := car_val h (fun i hi => by have := hb i hi; omega)
  rw [whole_low]
  have hc1 : ∃ k, ws (car x) = ws (car (car x)) + k * pP ∧ (car (car x)).length = 5 ∧ Sm (car (car x)) := by
    refine car_full l1 ?_ (b1 1 (by decide))
    intro i hi hi1
    obtain ⟨a, b, c, d, e, rfl⟩ := five h
    rw [car_eq]
    have : i = 0 ∨ i = 2 ∨ i = 3 ∨ i = 4 := by omega
    rcases this with rfl | rfl | rfl | rfl
    · exact (an26 _).symm ▸ Nat.mod_lt _ (by decide)
    · exact (an26 _).symm ▸ Nat.mod_lt _ (by decide)
    · exact (an26 _).symm ▸ Nat.mod_lt _ (by decide)
    · exact (an26 _).symm ▸ Nat.mod_lt _ (by decide)
  obtain ⟨k2, v2, l2, b2⟩ := hc1
  obtain ⟨v3, s3, l3⟩ := lowest_val l2 b2
  refine ⟨?_, s3, l3⟩
  rw [v3, v1, v2, Nat.add_mul_mod_self_right, Nat.add_mul_mod_self_right]
theorem rwhole_val {x : List UInt64} (h : x.length = 5) (hb : ∀ i, i < 5 → (g64 x i).toNat < 134217728) : ws (rwhole x) = ws x % pP ∧ Sm (rwhole x) ∧ (rwhole x).length = 5 := by
  obtain ⟨k1, v1, l1, a1, b1⟩ := rcd_val h (B := 134217728) (by decide) (fun i hi => Nat.le_of_lt (hb i hi))
  obtain ⟨k2, v2, l2, _, _⟩ := rcd_val l1 (B := 134217728) (by decide) (fun i hi => by
    by_cases h0 : i = 0
    · rw [h0]; omega
    · have := b1 i (by omega) hi; omega)
  have s2 := rcd_full l1 (by omega) b1
  rw [rwhole_low h]
  obtain ⟨v3, s3, l3⟩ := lowest_val l2 s2
  refine ⟨?_, s3, l3⟩
  rw [v3, v1, v2, Nat.add_mul_mod_self_right, Nat.add_mul_mod_self_right]
/-! ### the bytes -/
theorem bit_at {lo x up l k N : Nat} (hk : k < 26) (hlo : lo < 2 ^ (26 * l)) (hN : N = lo + 2 ^ (26 * l) * (x + 67108864 * up)) : N / 2 ^ (26 * l + k) % 2 = x / 2 ^ k % 2 := by
  have h1 : N / 2 ^ (26 * l) = x + 67108864 * up := by
    rw [hN, Nat.add_mul_div_left _ _ (Nat.pow_pos (by decide)), Nat.div_eq_of_lt hlo, Nat.zero_add]
  have h2 : 67108864 = 2 ^ k * (2 * 2 ^ (25 - k)) := by
    rw [show 2 * 2 ^ (25 - k) = 2 ^ (25 - k + 1) by rw [Nat.pow_succ, Nat.mul_comm], ← Nat.pow_add, show k + (25 - k + 1) = 26 by omega]
  rw [Nat.pow_add, ← Nat.div_div_eq_div_mul, h1, h2, Nat.mul_assoc, Nat.add_mul_div_left _ _ (Nat.pow_pos (by decide)), Nat.mul_assoc, Nat.add_mul_mod_self_left]
theorem bitX_val {x : List UInt64} (h : x.length = 5) (hb : Sm x) {j : Nat} (hj : j < 130) : bitX x j = ws x / 2 ^ j % 2 := by
  obtain ⟨a, b, c, d, e, rfl⟩ := five h
  have ha : a.toNat < 67108864 := hb 0 (by decide)
  have hb' : b.toNat < 67108864 := hb 1 (by decide)
  have hc : c.toNat < 67108864 := hb 2 (by decide)
  have hd : d.toNat < 67108864 := hb 3 (by decide)
  have he : e.toNat < 67108864 := hb 4 (by decide)
  unfold bitX
  have hk : j % 26 < 26 := Nat.mod_lt _ (by decide)
  have hjj : j = 26 * (j / 26) + j % 26 := (Nat.div_add_mod j 26).symm
  generalize j % 26 = k at *
  generalize j / 26 = l at *
  subst hjj
  have : l = 0 ∨ l = 1 ∨ l = 2 ∨ l = 3 ∨ l = 4 := by omega
  symm
  rcases this with rfl | rfl | rfl | rfl | rfl
  · exact bit_at (lo := 0) (x := a.toNat) (up := b.toNat + 67108864 * c.toNat + 4503599627370496 * d.toNat + 302231454903657293676544 * e.toNat) hk (by decide) (by simp only [ws]; omega)
  · exact bit_at (lo := a.toNat) (x := b.toNat) (up := c.toNat + 67108864 * d.toNat + 4503599627370496 * e.toNat) hk (by omega) (by simp only [ws]; omega)
  · exact bit_at (lo := a.toNat + 67108864 * b.toNat) (x := c.toNat) (up := d.toNat + 67108864 * e.toNat) hk (by omega) (by simp only [ws]; omega)
  · exact bit_at (lo := a.toNat + 67108864 * b.toNat + 4503599627370496 * c.toNat) (x := d.toNat) (up := e.toNat) hk (by omega) (by simp only [ws]; omega)
  · exact bit_at (lo := a.toNat + 67108864 * b.toNat + 4503599627370496 * c.toNat + 302231454903657293676544 * d.toNat) (x := e.toNat) (up := 0) hk (by omega) (by simp only [ws]; omega)
theorem rbv_val {x : List UInt64} (h : x.length = 5) (hb : Sm x) {i : Nat} (hi : i < 16) : ∀ k, k ≤ 8 → rbv x i k = ws x / 2 ^ (8 * i) % 2 ^ k
  | 0, _ => by rw [Nat.pow_zero, Nat.mod_one]; rfl
  | k + 1, hk => by
    rw [mod_step, rbv, rbv_val h hb hi k (by omega), bitX_val h hb (by omega), Nat.pow_add, Nat.div_div_eq_div_mul, Nat.mul_comm (2 ^ k)]
theorem low_val {x : List UInt64} (h : x.length = 5) (hb : Sm x) : (lowW x).toNat = ws x % 18446744073709551616 ∧ (highW x).toNat = ws x / 18446744073709551616 % 18446744073709551616 := by
  obtain ⟨a, b, c, d, e, rfl⟩ := five h
  have ha : a.toNat < 67108864 := hb 0 (by decide)
  have hb' : b.toNat < 67108864 := hb 1 (by decide)
  have hc : c.toNat < 67108864 := hb 2 (by decide)
  have hd : d.toNat < 67108864 := hb 3 (by decide)
  have he : e.toNat < 67108864 := hb 4 (by decide)
  have orp : ∀ (p q : UInt64) (k m : Nat), p.toNat < 2 ^ k → q.toNat = 2 ^ k * m → (p ||| q).toNat = p.toNat + 2 ^ k * m := by
    intro p q k m hp hq
    rw [UInt64.toNat_or, hq, Nat.or_comm, ← Nat.two_pow_add_eq_or_of_lt hp, Nat.add_comm]
  have f1 : (b <<< (26 : UInt64)).toNat = 67108864 * b.toNat := by
    rw [UInt64.toNat_shiftLeft, Nat.shiftLeft_eq]; show b.toNat * 67108864 % 18446744073709551616 = _; omega
  have f2 : (c <<< (52 : UInt64)).toNat = 4503599627370496 * (c.toNat % 4096) := by
    rw [UInt64.toNat_shiftLeft, Nat.shiftLeft_eq]; show c.toNat * 4503599627370496 % 18446744073709551616 = _; omega
  have f3 : (c >>> (12 : UInt64)).toNat = c.toNat / 4096 := shr64 c (k := 12) (by decide)
  have f4 : (d <<< (14 : UInt64)).toNat = 16384 * d.toNat := by
    rw [UInt64.toNat_shiftLeft, Nat.shiftLeft_eq]; show d.toNat * 16384 % 18446744073709551616 = _; omega
  have f5 : (e <<< (40 : UInt64)).toNat = 1099511627776 * (e.toNat % 16777216) := by
    rw [UInt64.toNat_shiftLeft, Nat.shiftLeft_eq]; show e.toNat * 1099511627776 % 18446744073709551616 = _; omega
  have o1 : (a ||| b <<< (26 : UInt64)).toNat = a.toNat + 67108864 * b.toNat := orp _ _ 26 _ ha f1
  have o2 : (a ||| b <<< (26 : UInt64) ||| c <<< (52 : UInt64)).toNat = a.toNat + 67108864 * b.toNat + 4503599627370496 * (c.toNat % 4096) := by
    rw [orp _ _ 52 _ (by rw [o1]; omega) f2, o1]
  have o3 : (c >>> (12 : UInt64) ||| d <<< (14 : UInt64)).toNat = c.toNat / 4096 + 16384 * d.toNat := by
    rw [orp _ _ 14 _ (by rw [f3]; omega) f4, f3]
  have o4 : (c >>> (12 : UInt64) ||| d <<< (14 : UInt64) ||| e <<< (40 : UInt64)).toNat = c.toNat / 4096 + 16384 * d.toNat + 1099511627776 * (e.toNat % 16777216) := by
    rw [orp _ _ 40 _ (by rw [o3]; omega) f5, o3]
  refine ⟨?_, ?_⟩
  · show (a ||| b <<< (26 : UInt64) ||| c <<< (52 : UInt64)).toNat = _
    rw [o2]
    simp only [ws]
    omega
  · show (c >>> (12 : UInt64) ||| d <<< (14 : UInt64) ||| e <<< (40 : UInt64)).toNat = _
    rw [o4]
    simp only [ws]
    omega
theorem byte_at {x : List UInt64} (h : x.length = 5) (hb : Sm x) {i : Nat} (hi : i < 16) : ((if 8 ≤ i then highW x else lowW x) >>> UInt64.ofNat (8 * (i % 8)) &&& 255).toNat = ws x / 2 ^ (8 * i) % 256 := by
  obtain ⟨hl, hh⟩ := low_val h hb
  have ha : ∀ y : UInt64, (y &&& 255).toNat = y.toNat % 256 := by
    intro y
    rw [UInt64.toNat_and]
    show y.toNat &&& (2 ^ 8 - 1) = _
    rw [Nat.and_two_pow_sub_one_eq_mod]
  rw [ha, shr64 _ (by omega)]
  generalize ws x = N at *
  have cut : ∀ (M k : Nat), k ≤ 56 → M % 18446744073709551616 / 2 ^ k % 256 = M / 2 ^ k % 256 := by
    intro M k hk
    have e : 18446744073709551616 = 2 ^ k * (256 * 2 ^ (56 - k)) := by
      rw [show 256 * 2 ^ (56 - k) = 2 ^ (8 + (56 - k)) by rw [Nat.pow_add], ← Nat.pow_add, show k + (8 + (56 - k)) = 64 by omega]
    rw [e, Nat.mod_mul_right_div_self, Nat.mod_mul_right_mod]
  split
  · rename_i h8
    rw [hh, cut _ _ (by omega), show 18446744073709551616 = 2 ^ 64 from rfl, Nat.div_div_eq_div_mul, ← Nat.pow_add, show 64 + 8 * (i % 8) = 8 * i by omega]
  · rename_i h8
    rw [hl, cut _ _ (by omega), show 8 * (i % 8) = 8 * i by omega]
theorem tag_same {x : List UInt64} (h : x.length = 5) (hb : Sm x) (key : List UInt8) : ∀ i, i ≤ 16 →
    (tgSt (lowW x) (highW x) key i).1 = (rts x (key.drop 16) i).1 ∧ (tgSt (lowW x) (highW x) key i).2.toNat = (rts x (key.drop 16) i).2
  | 0, _ => ⟨rfl, rfl⟩
  | i + 1, hi => by
    obtain ⟨e1, e2⟩ := tag_same h hb key i (by omega)
    have hle := rts_le x (key.drop 16) i
    have hby := byte_at h hb (i := i) (by omega)
    have hr := rbv_val h hb (i := i) (by omega) 8 (Nat.le_refl _)
    have hk : (key.drop 16).getD i 0 = key.getD (16 + i) 0 := by
      rw [List.getD_eq_getElem?_getD, List.getElem?_drop, ← List.getD_eq_getElem?_getD]
    have hkl : (key.getD (16 + i) 0).toUInt64.toNat = (key.getD (16 + i) 0).toNat := rfl
    have hk2 := (key.getD (16 + i) 0).toNat_lt
    simp only [tgSt, rts]
    rw [hk]
    generalize (if 8 ≤ i then highW x else lowW x) >>> UInt64.ofNat (8 * (i % 8)) &&& 255 = by1 at *
    have hb2 : by1.toNat < 256 := by omega
    have s1 : (by1 + (key.getD (16 + i) 0).toUInt64).toNat = by1.toNat + (key.getD (16 + i) 0).toNat := by rw [ad64 (by omega), hkl]
    have s2 : ((tgSt (lowW x) (highW x) key i).2 + (by1 + (key.getD (16 + i) 0).toUInt64)).toNat = (rts x (key.drop 16) i).2 + rbv x i 8 + (key.getD (16 + i) 0).toNat := by
      rw [ad64 (by omega), s1, e2, hby, hr]
      show _ + (_ % 256 + _) = _ + _ % 256 + _
      omega
    refine ⟨?_, ?_⟩
    · rw [e1]
      congr 1
      apply UInt8.toNat_inj.1
      rw [UInt64.toNat_toUInt8, s2, UInt8.toNat_ofNat']
    · rw [show (8 : UInt64) = UInt64.ofNat 8 from rfl, shr64 _ (by decide), s2]
/-- the tag is the same on both sides -/
theorem poly_same {key : List UInt8} (h : 16 ≤ key.length) (s : List UInt8) : tagOf (allB (rOf key) [0, 0, 0, 0, 0] s) key = rpoly key s := by
  rw [rOf_bits h]
  unfold allB rpoly rfin tagOf
  obtain ⟨e, b1, b2⟩ := all_ra key s ((s.length + 15) / 16) (Nat.le_refl _)
  have z5 : ([0, 0, 0, 0, 0] : List UInt64).length = 5 := rfl
  have l1 := allSt_len (r := btSt (keyBit key) 128) z5 s ((s.length + 15) / 16)
  have l2 := raSt_len key s ((s.length + 15) / 16)
  obtain ⟨v1, s1, q1⟩ := whole_val l1 b1
  obtain ⟨v2, s2, q2⟩ := rwhole_val l2 b2
  have hw := ws_inj q1 q2 s1 s2 (by rw [v1, v2, e])
  rw [← hw]
  exact (tag_same q1 s1 key 16 (Nat.le_refl _)).1
theorem mac_same {key : List UInt8} (h : 16 ≤ key.length) (aad b : List UInt8) : tagOf (macSt (rOf key) aad b) key = rpoly key (macT aad b) := by
  rw [macSt_one]
  exact poly_same h _
end Go.Sym.Pol

namespace Go.Sym.A
open Go Go.Proofs.Try Go.Sym.Lp Go.Sym.Gcm Go.Sym.Aes Go.Sym.Pol Go.Sym.Cha
set_option maxRecDepth 100000
/-- the orders of the drawn regions of aead.Sizes -/
def pl11 : List (Nat × List PStep) := []
/-- the orders of the drawn regions of aead.may -/
def pl34 : List (Nat × List PStep) := []
/-- the orders of the drawn regions of aead.Seal -/
def pl13 : List (Nat × List PStep) := []
/-- the orders of the drawn regions of aead.Open -/
def pl15 : List (Nat × List PStep) := []
/-- the orders of the drawn regions of ref4.Sizes -/
def pl12 : List (Nat × List PStep) := []
/-- the orders of the drawn regions of ref4.Seal -/
def pl14 : List (Nat × List PStep) := []
/-- the orders of the drawn regions of ref4.Open -/
def pl16 : List (Nat × List PStep) := []
/-- the orders of the drawn regions of law0.Num -/
def pl17 : List (Nat × List PStep) := []

theorem polyTag_same (key nonce aad b : List UInt8) : rpTag key nonce aad b = polyTag key nonce aad b := by
  unfold rpTag polyTag
  have hl : ((blk key nonce 0).take 32).length = 32 := by rw [List.length_take, blk_len]; rfl
  exact (mac_same (by omega) aad b).symm
theorem polySeal_same (key nonce aad s : List UInt8) : rpSeal key nonce aad s = polySeal key nonce aad s := by
  unfold rpSeal polySeal
  rw [polyTag_same]
attribute [local irreducible] polySeal polyTag gSeal gTag gStr strm rpSeal rpTag
def aKey (w : Int) (n : Nat) : Prop := w = 4865 ∧ n = 16 ∨ w = 4866 ∧ n = 32 ∨ w = 4867 ∧ n = 32
instance (w : Int) (n : Nat) : Decidable (aKey w n) := by unfold aKey; exact inferInstance
def aSeal (w : Int) (key nonce aad s : List UInt8) : List UInt8 := if w = 4867 then polySeal key nonce aad s else gSeal key nonce aad s
def aTag (w : Int) (key nonce aad s : List UInt8) : List UInt8 := if w = 4867 then polyTag key nonce aad s else gTag key nonce aad s
def aStr (w : Int) (key nonce s : List UInt8) : List UInt8 := if w = 4867 then strm key nonce 1 s else gStr key nonce s
theorem aStr_len (w : Int) (key nonce s : List UInt8) : (aStr w key nonce s).length = s.length := by
  unfold aStr; split
  · exact strm_len _ _ _ _
  · exact gStr_len _ _ _
theorem aTag_len (w : Int) (key nonce aad s : List UInt8) : (aTag w key nonce aad s).length = 16 := by
  unfold aTag; split
  · exact polyTag_len _ _ _ _
  · exact gTag_len _ _ _ _
theorem aSeal_eq (w : Int) (key nonce aad s : List UInt8) : aSeal w key nonce aad s = aStr w key nonce s ++ aTag w key nonce aad (aStr w key nonce s) := by
  unfold aSeal aStr aTag
  split
  · unfold polySeal; rfl
  · unfold gSeal; rfl
def sizesS : Spec := fun args hp K => match args, hp with
  | [.int w], [] => CondVC (decide (w = 4865)) (K (.tup [.int 16, .int 256, .int 0]) []) (CondVC (decide (w = 4866)) (K (.tup [.int 32, .int 384, .int 0]) []) (CondVC (decide (w = 4867)) (K (.tup [.int 32, .int 256, .int 0]) []) (K (.tup [.int 0, .int 0, .int 800]) [])))
  | _, _ => False
theorem sizes_s : SoundC prog 11 sizesS := by
  refine sound_f tyGcm_ok fnok_nil rfl func11 rfl call11 (D := pl11) ?_ ?_
  · intro args hp K h
    unfold sizesS at h
    split at h
    · exact Nat.le_of_ble_eq_true rfl
    · exact h.elim
  · intro args hp K h
    unfold sizesS at h
    split at h
    · rename_i w
      obtain ⟨ht, hn⟩ := cond_e h
      by_cases h1 : w = 4865
      · have h := ht (decide_eq_true h1)
        repeat ((conv => whnf); first | refine pre_a ?_ | refine cond_ta ?_ | refine cond_fa ?_ | refine same_i ?_)
        conv => whnf
        refine final_h (hp' := []) [] h ?_
        repeat ((conv => whnf); refine same_i ?_)
        exact trivial
      · have h := hn (decide_eq_false h1)
        obtain ⟨ht, hn⟩ := cond_e h
        by_cases h2 : w = 4866
        · have h := ht (decide_eq_true h2)
          repeat ((conv => whnf); first | refine pre_a ?_ | refine cond_ta ?_ | refine cond_fa ?_ | refine same_i ?_)
          conv => whnf
          refine final_h (hp' := []) [] h ?_
          repeat ((conv => whnf); refine same_i ?_)
          exact trivial
        · have h := hn (decide_eq_false h2)
          obtain ⟨ht, hn⟩ := cond_e h
          by_cases h3 : w = 4867
          · have h := ht (decide_eq_true h3)
            repeat ((conv => whnf); first | refine pre_a ?_ | refine cond_ta ?_ | refine cond_fa ?_ | refine same_i ?_)
            conv => whnf
            refine final_h (hp' := []) [] h ?_
            repeat ((conv => whnf); refine same_i ?_)
            exact trivial
          · have h := hn (decide_eq_false h3)
            repeat ((conv => whnf); first | refine pre_a ?_ | refine cond_ta ?_ | refine cond_fa ?_ | refine same_i ?_)
            conv => whnf
            refine final_h (hp' := []) [] h ?_
            repeat ((conv => whnf); refine same_i ?_)
            exact trivial
    · exact h.elim
theorem rsizes_s : SoundC prog 12 sizesS := by
  refine sound_f tyGcm_ok fnok_nil rfl func12 rfl call12 (D := pl12) ?_ ?_
  · intro args hp K h
    unfold sizesS at h
    split at h
    · exact Nat.le_of_ble_eq_true rfl
    · exact h.elim
  · intro args hp K h
    unfold sizesS at h
    split at h
    · rename_i w
      obtain ⟨ht, hn⟩ := cond_e h
      by_cases h1 : w = 4865
      · have h := ht (decide_eq_true h1)
        repeat ((conv => whnf); first | refine pre_a ?_ | refine cond_ta ?_ | refine cond_fa ?_ | refine same_i ?_)
        conv => whnf
        refine final_h (hp' := []) [] h ?_
        repeat ((conv => whnf); refine same_i ?_)
        exact trivial
      · have h := hn (decide_eq_false h1)
        obtain ⟨ht, hn⟩ := cond_e h
        by_cases h2 : w = 4866
        · have h := ht (decide_eq_true h2)
          repeat ((conv => whnf); first | refine pre_a ?_ | refine cond_ta ?_ | refine cond_fa ?_ | refine same_i ?_)
          conv => whnf
          refine final_h (hp' := []) [] h ?_
          repeat ((conv => whnf); refine same_i ?_)
          exact trivial
        · have h := hn (decide_eq_false h2)
          obtain ⟨ht, hn⟩ := cond_e h
          by_cases h3 : w = 4867
          · have h := ht (decide_eq_true h3)
            repeat ((conv => whnf); first | refine pre_a ?_ | refine cond_ta ?_ | refine cond_fa ?_ | refine same_i ?_)
            conv => whnf
            refine final_h (hp' := []) [] h ?_
            repeat ((conv => whnf); refine same_i ?_)
            exact trivial
          · have h := hn (decide_eq_false h3)
            repeat ((conv => whnf); first | refine pre_a ?_ | refine cond_ta ?_ | refine cond_fa ?_ | refine same_i ?_)
            conv => whnf
            refine final_h (hp' := []) [] h ?_
            repeat ((conv => whnf); refine same_i ?_)
            exact trivial
    · exact h.elim
def lnumS : Spec := fun args hp K => match args, hp with
  | [.int e], [] => K (.int e) []
  | _, _ => False
theorem lnum_s : SoundC prog 17 lnumS := by
  refine sound_f tyGcm_ok fnok_nil rfl func17 rfl call17 (D := pl17) ?_ ?_
  · intro args hp K h
    unfold lnumS at h
    split at h
    · exact Nat.le_of_ble_eq_true rfl
    · exact h.elim
  · intro args hp K h
    unfold lnumS at h
    split at h
    · rename_i e
      repeat ((conv => whnf); first | refine pre_a ?_ | refine cond_ta ?_ | refine cond_fa ?_ | refine same_i ?_)
      conv => whnf
      refine final_h (hp' := []) [] h ?_
      repeat ((conv => whnf); refine same_i ?_)
      exact trivial
    · exact h.elim
def amayS : Spec := fun args hp K => match args, hp with
  | [.int w, .str key, .str nonce, .str aad, .int long], [] => K (.bool (decide (aKey w key.length ∧ nonce.length = 12 ∧ aad.length ≤ 65536 ∧ long ≤ 65536))) []
  | _, _ => False
set_option maxHeartbeats 4000000 in
theorem amay_s : SoundC prog 34 amayS := by
  refine sound_f tyGcm_ok (fnok_cons sizes_s fnok_nil) rfl func34 rfl call34 (D := pl34) ?_ ?_
  · intro args hp K h
    unfold amayS at h
    split at h
    · exact Nat.le_of_ble_eq_true rfl
    · exact h.elim
  · intro args hp K h
    unfold amayS at h
    split at h
    · rename_i w key nonce aad long
      have four : w = 4865 ∨ w = 4866 ∨ w = 4867 ∨ (w ≠ 4865 ∧ w ≠ 4866 ∧ w ≠ 4867) := by omega
      by_cases hk : aKey w key.length
      · have hk' := hk
        unfold aKey at hk'
        by_cases h2 : nonce.length = 12
        · by_cases h3 : aad.length ≤ 65536
          · have hd : decide (aKey w key.length ∧ nonce.length = 12 ∧ aad.length ≤ 65536 ∧ long ≤ 65536) = decide (long ≤ 65536) := by
              by_cases h4 : long ≤ 65536
              · rw [decide_eq_true h4]; exact decide_eq_true ⟨hk, h2, h3, h4⟩
              · rw [decide_eq_false h4]; exact decide_eq_false fun hh => h4 hh.2.2.2
            rw [hd] at h
            rcases hk' with ⟨h0, h1⟩ | ⟨h0, h1⟩ | ⟨h0, h1⟩
            · repeat ((conv => whnf); first | refine pre_a ?_ | refine cond_ta ?_ | refine cond_fa ?_ | refine same_i ?_)
              conv => whnf
              refine final_h (hp' := []) [] h ?_
              repeat ((conv => whnf); refine same_i ?_)
              exact trivial
            · repeat ((conv => whnf); first | refine pre_a ?_ | refine cond_ta ?_ | refine cond_fa ?_ | refine same_i ?_)
              conv => whnf
              refine final_h (hp' := []) [] h ?_
              repeat ((conv => whnf); refine same_i ?_)
              exact trivial
            · repeat ((conv => whnf); first | refine pre_a ?_ | refine cond_ta ?_ | refine cond_fa ?_ | refine same_i ?_)
              conv => whnf
              refine final_h (hp' := []) [] h ?_
              repeat ((conv => whnf); refine same_i ?_)
              exact trivial
          · rw [decide_eq_false fun hh => h3 hh.2.2.1] at h
            rcases hk' with ⟨h0, h1⟩ | ⟨h0, h1⟩ | ⟨h0, h1⟩
            · repeat ((conv => whnf); first | refine pre_a ?_ | refine cond_ta ?_ | refine cond_fa ?_ | refine same_i ?_)
              conv => whnf
              refine final_h (hp' := []) [] h ?_
              repeat ((conv => whnf); refine same_i ?_)
              exact trivial
            · repeat ((conv => whnf); first | refine pre_a ?_ | refine cond_ta ?_ | refine cond_fa ?_ | refine same_i ?_)
              conv => whnf
              refine final_h (hp' := []) [] h ?_
              repeat ((conv => whnf); refine same_i ?_)
              exact trivial
            · repeat ((conv => whnf); first | refine pre_a ?_ | refine cond_ta ?_ | refine cond_fa ?_ | refine same_i ?_)
              conv => whnf
              refine final_h (hp' := []) [] h ?_
              repeat ((conv => whnf); refine same_i ?_)
              exact trivial
        · rw [decide_eq_false fun hh => h2 hh.2.1] at h
          rcases hk' with ⟨h0, h1⟩ | ⟨h0, h1⟩ | ⟨h0, h1⟩
          · repeat ((conv => whnf); first | refine pre_a ?_ | refine cond_ta ?_ | refine cond_fa ?_ | refine same_i ?_)
            conv => whnf
            refine final_h (hp' := []) [] h ?_
            repeat ((conv => whnf); refine same_i ?_)
            exact trivial
          · repeat ((conv => whnf); first | refine pre_a ?_ | refine cond_ta ?_ | refine cond_fa ?_ | refine same_i ?_)
            conv => whnf
            refine final_h (hp' := []) [] h ?_
            repeat ((conv => whnf); refine same_i ?_)
            exact trivial
          · repeat ((conv => whnf); first | refine pre_a ?_ | refine cond_ta ?_ | refine cond_fa ?_ | refine same_i ?_)
            conv => whnf
            refine final_h (hp' := []) [] h ?_
            repeat ((conv => whnf); refine same_i ?_)
            exact trivial
      · rw [decide_eq_false fun hh => hk hh.1] at h
        unfold aKey at hk
        rcases four with h0 | h0 | h0 | ⟨h0, h1, h2⟩
        · repeat ((conv => whnf); first | refine pre_a ?_ | refine cond_ta ?_ | refine cond_fa ?_ | refine same_i ?_)
          conv => whnf
          refine final_h (hp' := []) [] h ?_
          repeat ((conv => whnf); refine same_i ?_)
          exact trivial
        · repeat ((conv => whnf); first | refine pre_a ?_ | refine cond_ta ?_ | refine cond_fa ?_ | refine same_i ?_)
          conv => whnf
          refine final_h (hp' := []) [] h ?_
          repeat ((conv => whnf); refine same_i ?_)
          exact trivial
        · repeat ((conv => whnf); first | refine pre_a ?_ | refine cond_ta ?_ | refine cond_fa ?_ | refine same_i ?_)
          conv => whnf
          refine final_h (hp' := []) [] h ?_
          repeat ((conv => whnf); refine same_i ?_)
          exact trivial
        · repeat ((conv => whnf); first | refine pre_a ?_ | refine cond_ta ?_ | refine cond_fa ?_ | refine same_i ?_)
          conv => whnf
          refine final_h (hp' := []) [] h ?_
          repeat ((conv => whnf); refine same_i ?_)
          exact trivial
    · exact h.elim
theorem weak_s {P : Program} {f : FuncId} {S S' : Spec} (h : SoundC P f S) (hs : ∀ args hp K, S' args hp K → S args hp K) : SoundC P f S' := fun args hp K h1 => h args hp K (hs args hp K h1)
def pSealP : Spec := fun args hp K => match args, hp with
  | [.str key, .str nonce, .str aad, .str s], [] => Pre (key.length = 32 ∧ nonce.length = 12 ∧ aad.length ≤ 65536 ∧ (s.length : Int) ≤ 65536) (K (.tup [.str (polySeal key nonce aad s), .int 0]) [])
  | _, _ => False
def gSealP : Spec := fun args hp K => match args, hp with
  | [.str key, .str nonce, .str aad, .str s], [] => Pre ((key.length = 16 ∨ key.length = 32) ∧ nonce.length = 12 ∧ aad.length ≤ 65536 ∧ (s.length : Int) ≤ 65536) (K (.tup [.str (gSeal key nonce aad s), .int 0]) [])
  | _, _ => False
def pOpenP : Spec := fun args hp K => match args, hp with
  | [.str key, .str nonce, .str aad, .str s], [] => Pre (key.length = 32 ∧ nonce.length = 12 ∧ aad.length ≤ 65536 ∧ (s.length : Int) - 16 ≤ 65536)
      (CondVC (decide (16 ≤ s.length ∧ polyTag key nonce aad (s.take (s.length - 16)) = s.drop (s.length - 16))) (K (.tup [.str (strm key nonce 1 (s.take (s.length - 16))), .int 0]) []) (K (.tup [.str [], .int 700]) []))
  | _, _ => False
def gOpenP : Spec := fun args hp K => match args, hp with
  | [.str key, .str nonce, .str aad, .str s], [] => Pre ((key.length = 16 ∨ key.length = 32) ∧ nonce.length = 12 ∧ aad.length ≤ 65536 ∧ (s.length : Int) - 16 ≤ 65536)
      (CondVC (decide (16 ≤ s.length ∧ gTag key nonce aad (s.take (s.length - 16)) = s.drop (s.length - 16))) (K (.tup [.str (gStr key nonce (s.take (s.length - 16))), .int 0]) []) (K (.tup [.str [], .int 501]) []))
  | _, _ => False
theorem pSeal_w : ∀ args hp K, pSealP args hp K → polySealS args hp K := by
  intro args hp K h
  unfold pSealP at h
  unfold polySealS
  split at h
  · obtain ⟨h0, h⟩ := pre_e h
    try dsimp only
    rw [if_pos h0]; exact h
  · exact h.elim
theorem rpSeal_w : ∀ args hp K, pSealP args hp K → rpSealS args hp K := by
  intro args hp K h
  unfold pSealP at h
  unfold rpSealS
  split at h
  · obtain ⟨h0, h⟩ := pre_e h
    try dsimp only
    rw [if_pos h0, polySeal_same]; exact h
  · exact h.elim
theorem gSeal_w : ∀ args hp K, gSealP args hp K → gSealS args hp K := by
  intro args hp K h
  unfold gSealP at h
  unfold gSealS
  split at h
  · obtain ⟨h0, h⟩ := pre_e h
    try dsimp only
    rw [if_pos h0]; exact h
  · exact h.elim
theorem pOpen_w : ∀ args hp K, pOpenP args hp K → polyOpenS args hp K := by
  intro args hp K h
  unfold pOpenP at h
  unfold polyOpenS
  split at h
  · obtain ⟨h0, h⟩ := pre_e h
    obtain ⟨ht, hn⟩ := cond_e h
    try dsimp only
    refine pre_i (by omega) ?_
    split
    · rename_i hc; exact ht (decide_eq_true hc.2)
    · rename_i hc; exact hn (decide_eq_false fun hh => hc ⟨h0, hh⟩)
  · exact h.elim
theorem rpOpen_w : ∀ args hp K, pOpenP args hp K → rpOpenS args hp K := by
  intro args hp K h
  unfold pOpenP at h
  unfold rpOpenS
  split at h
  · obtain ⟨h0, h⟩ := pre_e h
    obtain ⟨ht, hn⟩ := cond_e h
    try dsimp only
    refine pre_i (by omega) ?_
    rw [polyTag_same]
    split
    · rename_i hc; exact ht (decide_eq_true hc.2)
    · rename_i hc; exact hn (decide_eq_false fun hh => hc ⟨h0, hh⟩)
  · exact h.elim
theorem gOpen_w : ∀ args hp K, gOpenP args hp K → gOpenS args hp K := by
  intro args hp K h
  unfold gOpenP at h
  unfold gOpenS
  split at h
  · obtain ⟨h0, h⟩ := pre_e h
    obtain ⟨ht, hn⟩ := cond_e h
    try dsimp only
    rw [if_pos ⟨h0.1, h0.2.1, h0.2.2.1, by omega⟩]
    split
    · rename_i hc; exact ht (decide_eq_true hc)
    · rename_i hc; exact hn (decide_eq_false hc)
  · exact h.elim
theorem pSealP_s : SoundC prog 22 pSealP := weak_s polySeal_s pSeal_w
theorem rpSealP_s : SoundC prog 35 pSealP := weak_s rpSeal_s rpSeal_w
theorem gSealP_s : SoundC prog 21 gSealP := weak_s gSeal_s gSeal_w
theorem rgSealP_s : SoundC prog 36 gSealP := weak_s rgSeal_s gSeal_w
theorem pOpenP_s : SoundC prog 23 pOpenP := weak_s polyOpen_s pOpen_w
theorem rpOpenP_s : SoundC prog 38 pOpenP := weak_s rpOpen_s rpOpen_w
theorem gOpenP_s : SoundC prog 37 gOpenP := weak_s gOpen_s gOpen_w
theorem rgOpenP_s : SoundC prog 39 gOpenP := weak_s rgOpen_s gOpen_w
def aSealS : Spec := fun args hp K => match args, hp with
  | [.int w, .str key, .str nonce, .str aad, .str s], [] =>
      CondVC (decide (aKey w key.length ∧ nonce.length = 12 ∧ aad.length ≤ 65536 ∧ (s.length : Int) ≤ 65536))
        (K (.tup [.str (aSeal w key nonce aad s), .int 0]) []) (K (.tup [.str [], .int 800]) [])
  | _, _ => False
def aOpenS : Spec := fun args hp K => match args, hp with
  | [.int w, .str key, .str nonce, .str aad, .str s], [] => Pre (s.length < 9223372036854775808)
      (CondVC (decide (aKey w key.length ∧ nonce.length = 12 ∧ aad.length ≤ 65536 ∧ (s.length : Int) - 16 ≤ 65536))
        (CondVC (decide (16 ≤ s.length ∧ aTag w key nonce aad (s.take (s.length - 16)) = s.drop (s.length - 16))) (K (.tup [.str (aStr w key nonce (s.take (s.length - 16))), .int 0]) []) (K (.tup [.str [], .int 801]) []))
        (K (.tup [.str [], .int 800]) []))
  | _, _ => False
set_option maxHeartbeats 4000000 in
theorem aSeal_s : SoundC prog 13 aSealS := by
  refine sound_f tyGcm_ok (fnok_cons amay_s (fnok_cons pSealP_s (fnok_cons gSealP_s fnok_nil))) rfl func13 rfl call13 (D := pl13) ?_ ?_
  · intro args hp K h
    unfold aSealS at h
    split at h
    · exact Nat.le_of_ble_eq_true rfl
    · exact h.elim
  · intro args hp K h
    unfold aSealS at h
    split at h
    · rename_i w key nonce aad s
      obtain ⟨ht, hn⟩ := cond_e h
      have four : w = 4865 ∨ w = 4866 ∨ w = 4867 ∨ (w ≠ 4865 ∧ w ≠ 4866 ∧ w ≠ 4867) := by omega
      by_cases h0 : aKey w key.length ∧ nonce.length = 12 ∧ aad.length ≤ 65536 ∧ (s.length : Int) ≤ 65536
      · have h := ht (decide_eq_true h0)
        have hd := decide_eq_true h0
        obtain ⟨hk, h1, h2, h3⟩ := h0
        unfold aKey at hk
        unfold aSeal at h
        by_cases h4 : w = 4867
        · rw [if_pos h4] at h
          have hpp : key.length = 32 ∧ nonce.length = 12 ∧ aad.length ≤ 65536 ∧ (s.length : Int) ≤ 65536 := ⟨by omega, h1, h2, h3⟩
          repeat ((conv => whnf); first | refine pre_a ?_ | refine cond_ta ?_ | refine cond_fa ?_ | refine same_i ?_ | refine pre_i (by first | exact hd | (rw [hd]; rfl)) ?_ | refine cond_t (by first | exact hd | (rw [hd]; rfl)) ?_ | refine cond_f (by first | exact hd | (rw [hd]; rfl)) ?_)
          conv => whnf
          refine final_h (hp' := []) [] h ?_
          repeat ((conv => whnf); refine same_i ?_)
          exact trivial
        · rw [if_neg h4] at h
          have hpp : (key.length = 16 ∨ key.length = 32) ∧ nonce.length = 12 ∧ aad.length ≤ 65536 ∧ (s.length : Int) ≤ 65536 := ⟨by omega, h1, h2, h3⟩
          skip
          repeat ((conv => whnf); first | refine pre_a ?_ | refine cond_ta ?_ | refine cond_fa ?_ | refine same_i ?_ | refine pre_i (by first | exact hd | (rw [hd]; rfl)) ?_ | refine cond_t (by first | exact hd | (rw [hd]; rfl)) ?_ | refine cond_f (by first | exact hd | (rw [hd]; rfl)) ?_)
          conv => whnf
          refine final_h (hp' := []) [] h ?_
          repeat ((conv => whnf); refine same_i ?_)
          exact trivial
      · have h := hn (decide_eq_false h0)
        have hd := decide_eq_false h0
        repeat ((conv => whnf); first | refine pre_a ?_ | refine cond_ta ?_ | refine cond_fa ?_ | refine same_i ?_ | refine pre_i (by first | exact hd | (rw [hd]; rfl)) ?_ | refine cond_t (by first | exact hd | (rw [hd]; rfl)) ?_ | refine cond_f (by first | exact hd | (rw [hd]; rfl)) ?_)
        conv => whnf
        refine final_h (hp' := []) [] h ?_
        repeat ((conv => whnf); refine same_i ?_)
        exact trivial
    · exact h.elim
set_option maxHeartbeats 4000000 in
theorem raSeal_s : SoundC prog 14 aSealS := by
  refine sound_f tyGcm_ok (fnok_cons rsizes_s (fnok_cons rpSealP_s (fnok_cons rgSealP_s fnok_nil))) rfl func14 rfl call14 (D := pl14) ?_ ?_
  · intro args hp K h
    unfold aSealS at h
    split at h
    · exact Nat.le_of_ble_eq_true rfl
    · exact h.elim
  · intro args hp K h
    unfold aSealS at h
    split at h
    · rename_i w key nonce aad s
      obtain ⟨ht, hn⟩ := cond_e h
      have four : w = 4865 ∨ w = 4866 ∨ w = 4867 ∨ (w ≠ 4865 ∧ w ≠ 4866 ∧ w ≠ 4867) := by omega
      by_cases h0 : aKey w key.length ∧ nonce.length = 12 ∧ aad.length ≤ 65536 ∧ (s.length : Int) ≤ 65536
      · have h := ht (decide_eq_true h0)
        have hd := decide_eq_true h0
        obtain ⟨hk, h1, h2, h3⟩ := h0
        unfold aKey at hk
        unfold aSeal at h
        by_cases h4 : w = 4867
        · rw [if_pos h4] at h
          have hpp : key.length = 32 ∧ nonce.length = 12 ∧ aad.length ≤ 65536 ∧ (s.length : Int) ≤ 65536 := ⟨by omega, h1, h2, h3⟩
          repeat ((conv => whnf); first | refine pre_a ?_ | refine cond_ta ?_ | refine cond_fa ?_ | refine same_i ?_ | refine pre_i (by first | exact hd | (rw [hd]; rfl)) ?_ | refine cond_t (by first | exact hd | (rw [hd]; rfl)) ?_ | refine cond_f (by first | exact hd | (rw [hd]; rfl)) ?_)
          conv => whnf
          refine final_h (hp' := []) [] h ?_
          repeat ((conv => whnf); refine same_i ?_)
          exact trivial
        · rw [if_neg h4] at h
          have hpp : (key.length = 16 ∨ key.length = 32) ∧ nonce.length = 12 ∧ aad.length ≤ 65536 ∧ (s.length : Int) ≤ 65536 := ⟨by omega, h1, h2, h3⟩
          rcases hk with ⟨g0, g1⟩ | ⟨g0, g1⟩ | ⟨g0, g1⟩
          · repeat ((conv => whnf); first | refine pre_a ?_ | refine cond_ta ?_ | refine cond_fa ?_ | refine same_i ?_)
            conv => whnf
            refine final_h (hp' := []) [] h ?_
            repeat ((conv => whnf); refine same_i ?_)
            exact trivial
          · repeat ((conv => whnf); first | refine pre_a ?_ | refine cond_ta ?_ | refine cond_fa ?_ | refine same_i ?_)
            conv => whnf
            refine final_h (hp' := []) [] h ?_
            repeat ((conv => whnf); refine same_i ?_)
            exact trivial
          · exact absurd g0 h4
      · have h := hn (decide_eq_false h0)
        rcases four with h1 | h1 | h1 | ⟨h1, h2, h3⟩
        · by_cases g1 : key.length = 16
          · by_cases g2 : nonce.length = 12
            · by_cases g3 : aad.length ≤ 65536
              · have g4 : ¬ (s.length : Int) ≤ 65536 := fun g => h0 ⟨.inl ⟨h1, g1⟩, g2, g3, g⟩
                repeat ((conv => whnf); first | refine pre_a ?_ | refine cond_ta ?_ | refine cond_fa ?_ | refine same_i ?_)
                conv => whnf
                refine final_h (hp' := []) [] h ?_
                repeat ((conv => whnf); refine same_i ?_)
                exact trivial
              · repeat ((conv => whnf); first | refine pre_a ?_ | refine cond_ta ?_ | refine cond_fa ?_ | refine same_i ?_)
                conv => whnf
                refine final_h (hp' := []) [] h ?_
                repeat ((conv => whnf); refine same_i ?_)
                exact trivial
            · repeat ((conv => whnf); first | refine pre_a ?_ | refine cond_ta ?_ | refine cond_fa ?_ | refine same_i ?_)
              conv => whnf
              refine final_h (hp' := []) [] h ?_
              repeat ((conv => whnf); refine same_i ?_)
              exact trivial
          · repeat ((conv => whnf); first | refine pre_a ?_ | refine cond_ta ?_ | refine cond_fa ?_ | refine same_i ?_)
            conv => whnf
            refine final_h (hp' := []) [] h ?_
            repeat ((conv => whnf); refine same_i ?_)
            exact trivial
        · by_cases g1 : key.length = 32
          · by_cases g2 : nonce.length = 12
            · by_cases g3 : aad.length ≤ 65536
              · have g4 : ¬ (s.length : Int) ≤ 65536 := fun g => h0 ⟨.inr (.inl ⟨h1, g1⟩), g2, g3, g⟩
                repeat ((conv => whnf); first | refine pre_a ?_ | refine cond_ta ?_ | refine cond_fa ?_ | refine same_i ?_)
                conv => whnf
                refine final_h (hp' := []) [] h ?_
                repeat ((conv => whnf); refine same_i ?_)
                exact trivial
              · repeat ((conv => whnf); first | refine pre_a ?_ | refine cond_ta ?_ | refine cond_fa ?_ | refine same_i ?_)
                conv => whnf
                refine final_h (hp' := []) [] h ?_
                repeat ((conv => whnf); refine same_i ?_)
                exact trivial
            · repeat ((conv => whnf); first | refine pre_a ?_ | refine cond_ta ?_ | refine cond_fa ?_ | refine same_i ?_)
              conv => whnf
              refine final_h (hp' := []) [] h ?_
              repeat ((conv => whnf); refine same_i ?_)
              exact trivial
          · repeat ((conv => whnf); first | refine pre_a ?_ | refine cond_ta ?_ | refine cond_fa ?_ | refine same_i ?_)
            conv => whnf
            refine final_h (hp' := []) [] h ?_
            repeat ((conv => whnf); refine same_i ?_)
            exact trivial
        · by_cases g1 : key.length = 32
          · by_cases g2 : nonce.length = 12
            · by_cases g3 : aad.length ≤ 65536
              · have g4 : ¬ (s.length : Int) ≤ 65536 := fun g => h0 ⟨.inr (.inr ⟨h1, g1⟩), g2, g3, g⟩
                repeat ((conv => whnf); first | refine pre_a ?_ | refine cond_ta ?_ | refine cond_fa ?_ | refine same_i ?_)
                conv => whnf
                refine final_h (hp' := []) [] h ?_
                repeat ((conv => whnf); refine same_i ?_)
                exact trivial
              · repeat ((conv => whnf); first | refine pre_a ?_ | refine cond_ta ?_ | refine cond_fa ?_ | refine same_i ?_)
                conv => whnf
                refine final_h (hp' := []) [] h ?_
                repeat ((conv => whnf); refine same_i ?_)
                exact trivial
            · repeat ((conv => whnf); first | refine pre_a ?_ | refine cond_ta ?_ | refine cond_fa ?_ | refine same_i ?_)
              conv => whnf
              refine final_h (hp' := []) [] h ?_
              repeat ((conv => whnf); refine same_i ?_)
              exact trivial
          · repeat ((conv => whnf); first | refine pre_a ?_ | refine cond_ta ?_ | refine cond_fa ?_ | refine same_i ?_)
            conv => whnf
            refine final_h (hp' := []) [] h ?_
            repeat ((conv => whnf); refine same_i ?_)
            exact trivial
        · repeat ((conv => whnf); first | refine pre_a ?_ | refine cond_ta ?_ | refine cond_fa ?_ | refine same_i ?_)
          conv => whnf
          refine final_h (hp' := []) [] h ?_
          repeat ((conv => whnf); refine same_i ?_)
          exact trivial
    · exact h.elim
end Go.Sym.A
