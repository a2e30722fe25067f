/-
  Contracts of functions of the program, each said of symbolic values, and plain laws; no condition beyond each statement's own.
-/
import Derived.Test.YtmmpgjcpielefaaG10
import Derived.Test.YtmmpgjcpielefaaG2
set_option linter.unusedSimpArgs false
set_option linter.unusedVariables false
namespace Go.Sym.A
open Go Go.Proofs.Try Go.Sym.Lp Go.Sym.Aes
set_option maxRecDepth 100000
attribute [local irreducible] box tw subS mixC
/-- the orders of the drawn regions of aes.Cipher.Encrypt -/
def pl66 : List (Nat × List PStep) := [(4, [⟨0, []⟩, ⟨1, []⟩, ⟨2, []⟩, ⟨3, [0, 1, 2]⟩, ⟨4, [0, 1, 2]⟩, ⟨5, [0, 1, 2]⟩, ⟨6, [0, 1, 2]⟩, ⟨7, [0, 1, 2, 3, 4, 5, 6]⟩, ⟨8, [0, 1, 2, 7]⟩, ⟨9, [0, 1, 2]⟩, ⟨10, [0, 1, 2]⟩, ⟨11, []⟩, ⟨12, []⟩, ⟨13, []⟩]), (13, [⟨0, []⟩, ⟨1, [0]⟩, ⟨2, [0, 1]⟩, ⟨3, [0, 1, 2]⟩, ⟨4, [0, 1, 2]⟩, ⟨5, [0, 1, 2]⟩, ⟨6, [0, 1]⟩, ⟨7, [0, 1]⟩, ⟨8, [0, 1]⟩, ⟨9, [0, 1]⟩, ⟨10, [0, 2, 3, 4, 5, 6, 7, 8, 9]⟩, ⟨11, [0, 2, 3, 4, 5, 6, 7, 8, 9]⟩, ⟨12, [0]⟩, ⟨13, [0]⟩, ⟨14, []⟩, ⟨15, []⟩]), (19, [⟨0, []⟩, ⟨1, []⟩, ⟨2, []⟩, ⟨3, [0, 1, 2]⟩, ⟨4, [0, 1, 2]⟩, ⟨5, [0, 1, 2]⟩, ⟨6, [0, 1, 2]⟩, ⟨7, [0, 1, 2, 3, 4, 5, 6]⟩, ⟨8, [0, 1, 2, 3, 4, 5, 6]⟩, ⟨9, [0, 1, 2, 3, 4, 5, 6]⟩, ⟨10, [0, 1, 2, 3, 4, 5, 6]⟩, ⟨11, [0, 1, 2, 3, 4, 5, 6, 7, 8, 9, 10]⟩, ⟨12, [0, 1, 2, 3, 4, 5, 6, 7, 8, 9, 10]⟩, ⟨13, [0, 1, 2, 3, 4, 5, 6, 7, 8, 9, 10]⟩, ⟨14, [0, 1, 2, 3, 4, 5, 6, 7, 8, 9, 10]⟩, ⟨15, [3, 4, 5, 6, 7, 8, 9, 10, 11, 12, 13, 14]⟩, ⟨16, [7, 8, 9, 10, 11, 12, 13, 14]⟩, ⟨17, [11, 12, 13, 14]⟩, ⟨18, []⟩]), (21, [⟨0, []⟩, ⟨1, []⟩, ⟨2, []⟩, ⟨3, [0, 1, 2]⟩, ⟨4, [0, 1, 2, 3]⟩, ⟨5, [0, 1, 2, 3, 4]⟩, ⟨6, [0, 1, 2, 3]⟩, ⟨7, [0, 1, 2, 3]⟩, ⟨8, [0, 1, 2]⟩, ⟨9, []⟩, ⟨10, []⟩, ⟨11, []⟩]), (22, [⟨0, []⟩, ⟨1, []⟩, ⟨2, []⟩, ⟨3, []⟩, ⟨4, [0, 1, 2, 3]⟩, ⟨5, [0, 1, 2, 3, 4]⟩, ⟨6, [0, 1, 2, 3, 4, 5]⟩, ⟨7, [0, 1, 2, 3, 4]⟩, ⟨8, [0, 1, 2, 3, 4]⟩, ⟨9, [0, 1, 2, 3]⟩, ⟨10, []⟩, ⟨11, []⟩, ⟨12, []⟩]), (23, [⟨0, []⟩, ⟨1, []⟩, ⟨2, []⟩, ⟨3, []⟩, ⟨4, [0, 1, 2, 3]⟩, ⟨5, [0, 1, 2, 3, 4]⟩, ⟨6, [0, 1, 2, 3, 4, 5]⟩, ⟨7, [0, 1, 2, 3, 4]⟩, ⟨8, [0, 1, 2, 3, 4]⟩, ⟨9, [0, 1, 2, 3]⟩, ⟨10, []⟩, ⟨11, []⟩, ⟨12, []⟩]), (24, [⟨0, []⟩, ⟨1, []⟩, ⟨2, []⟩, ⟨3, []⟩, ⟨4, [0, 1, 2, 3]⟩, ⟨5, [0, 1, 2, 3, 4]⟩, ⟨6, [0, 1, 2, 3, 4, 5]⟩, ⟨7, [0, 1, 2, 3, 4]⟩, ⟨8, [0, 1, 2, 3, 4]⟩, ⟨9, [0, 1, 2, 3]⟩, ⟨10, []⟩, ⟨11, []⟩, ⟨12, []⟩]), (28, [⟨0, []⟩, ⟨1, [0]⟩, ⟨2, [0]⟩, ⟨3, [0]⟩, ⟨4, [0, 1, 2, 3]⟩, ⟨5, [0, 1, 2, 3]⟩, ⟨6, [0, 1, 2, 3]⟩, ⟨7, [0, 1, 2, 3]⟩, ⟨8, [0, 1, 2, 3, 4, 5, 6, 7]⟩, ⟨9, [0, 1, 2, 3, 4, 5, 6, 7, 8]⟩, ⟨10, [0, 1, 2, 3, 9]⟩, ⟨11, [0, 1, 2, 3]⟩, ⟨12, [0, 1, 2, 3]⟩, ⟨13, [0]⟩, ⟨14, []⟩, ⟨15, []⟩])]

def encryptS : Spec := fun args hp K => match args, hp with
  | [.ptr 0 0 0 [], .arr8 16 b], [.mk t0 [.arr8 256 tb, .sl 1 0 0 [] R c], .mk t1 [.arr8 N ks]] => Pre (tb = box ∧ b.length = 16 ∧ 1 ≤ R ∧ R ≤ 100 ∧ 16 * R ≤ ks.length)
      (K (.arr8 16 (enc ks R b)) [.mk t0 [.arr8 256 tb, .sl 1 0 0 [] R c], .mk t1 [.arr8 N ks]])
  | _, _ => False
set_option maxHeartbeats 8000000 in
theorem encrypt_s : SoundC prog 66 encryptS := by
  refine sound_f tyAes_ok (fnok_cons twice_s fnok_nil) rfl func66 rfl call66 (D := pl66) ?_ ?_
  · intro args hp K h
    unfold encryptS at h
    split at h
    · exact Nat.le_of_ble_eq_true rfl
    · exact h.elim
  · intro args hp K h
    unfold encryptS at h
    split at h
    · rename_i b t0 tb R c t1 N ks
      obtain ⟨⟨rfl, hb, hR, hR2, hN⟩, h⟩ := pre_e h
      have hB := box_len
      repeat ((conv => whnf); first | refine pre_a ?_ | refine cond_ta ?_ | refine cond_fa ?_ | refine same_i ?_)
      conv => whnf
      refine loop_h (Ix (16)) (fun q => ⟨[(0, .ptr 0 0 0 []), (3, .ptr 2 0 0 []), (4, .ptr 3 0 0 []), (16, .int q.i)], [.mk t0 [.arr8 256 box, .sl 1 0 0 [] R c], .mk t1 [.arr8 N ks], .mk 103 [.arr8 16 (ovr b 0 (fun j => b.getD j 0 ^^^ ks.getD (16 * 0 + j) 0) q.i)], .mk 103 [.arr8 16 (List.replicate 16 0)]]⟩) (fun q => (16) - q.i) ⟨0, Nat.zero_le _⟩ [0, 1, 2, 3] ?_ ?_
      · repeat ((conv => whnf); refine same_i ?_)
        exact trivial
      · intro q
        have hi := q.hi
        have hI : ((q.i : Int)).toNat = q.i := Int.toNat_natCast _
        have hlo := ovr_len (l := b) (a := 0) (i := q.i) (by omega) (fun j => b.getD j 0 ^^^ ks.getD (16 * 0 + j) 0)
        by_cases h4 : q.i < 16
        · repeat ((conv => whnf); first | refine pre_a ?_ | refine cond_ta ?_ | refine cond_fa ?_ | refine same_i ?_)
          conv => whnf
          refine ⟨⟨q.i + 1, h4⟩, [0, 1, 2, 3], by show (16) - (q.i + 1) < (16) - q.i; omega, ?_⟩
          repeat ((conv => whnf); refine same_i ?_)
          conv => whnf
          refine same_q (congrArg (fun x => SV.agg [SV.arr8 16 x]) (ovr_step (by omega) ?hv ?hkk)) ?_
          case hkk => show q.i = 0 + q.i; omega
          case hv =>
            show (ovr _ _ _ _).getD q.i 0 ^^^ ks.getD (0 * 16 + q.i) 0 = _
            rw [ovr_get (by omega) _ (by omega), Nat.zero_mul]
          repeat ((conv => whnf); refine same_i ?_)
          exact trivial
        · have e4 : q.i = 16 := by omega
          rw [e4, ovr_fin hb, show (List.range 16).map (fun j => b.getD j 0 ^^^ ks.getD (16 * 0 + j) 0) = encSt ks R b 0 from rfl]
          clear hlo hI hi h4 e4 q
          repeat ((conv => whnf); first | refine pre_a ?_ | refine cond_ta ?_ | refine cond_fa ?_ | refine same_i ?_)
          conv => whnf
          refine loop_h (Ix ((R - 1))) (fun q => ⟨[(0, .ptr 0 0 0 []), (3, .ptr 2 0 0 []), (4, .ptr 3 0 0 []), (6, .int ((q.i : Int) + 1))], [.mk t0 [.arr8 256 box, .sl 1 0 0 [] R c], .mk t1 [.arr8 N ks], .mk 103 [.arr8 16 (encSt ks R b q.i)], .mk 103 [.arr8 16 (List.replicate 16 0)]]⟩) (fun q => ((R - 1)) - q.i) ⟨0, Nat.zero_le _⟩ [0, 1, 2, 3] ?_ ?_
          · repeat ((conv => whnf); refine same_i ?_)
            exact trivial
          · intro q
            have hi := q.hi
            have hX := encSt_len ks R b q.i
            by_cases h4 : q.i < R - 1
            · repeat ((conv => whnf); first | refine pre_a ?_ | refine cond_ta ?_ | refine cond_fa ?_ | refine same_i ?_)
              conv => whnf
              generalize hXe : encSt ks R b q.i = X at *
              refine loop_h (Ix (16)) (fun r => ⟨[(0, .ptr 0 0 0 []), (3, .ptr 2 0 0 []), (4, .ptr 3 0 0 []), (6, .int ((q.i : Int) + 1)), (7, .ptr 4 0 0 []), (42, .int r.i)], [.mk t0 [.arr8 256 box, .sl 1 0 0 [] R c], .mk t1 [.arr8 N ks], .mk 103 [.arr8 16 X], .mk 103 [.arr8 16 (List.replicate 16 0)], .mk 103 [.arr8 16 (ovr (List.replicate 16 0) 0 (fun i => box.getD (X.getD ((i + 4 * (i % 4)) % 16) 0).toNat 0) r.i)]]⟩) (fun r => (16) - r.i) ⟨0, Nat.zero_le _⟩ [0, 1, 2, 3, 4] ?_ ?_
              · repeat ((conv => whnf); refine same_i ?_)
                exact trivial
              · intro r
                have hri := r.hi
                have hJ : ((r.i : Int)).toNat = r.i := Int.toNat_natCast _
                have hm4 : (r.i : Int).tmod 4 = ((r.i % 4 : Nat) : Int) := by rw [Int.tmod_eq_emod_of_nonneg (by omega)]; omega
                have hm16 : ((r.i : Int) + 4 * (r.i : Int).tmod 4).tmod 16 = (((r.i + 4 * (r.i % 4)) % 16 : Nat) : Int) := by rw [hm4, Int.tmod_eq_emod_of_nonneg (by omega)]; omega
                have hlo := ovr_len (l := List.replicate 16 (0 : UInt8)) (a := 0) (i := r.i) (by rw [List.length_replicate]; omega) (fun i => box.getD (X.getD ((i + 4 * (i % 4)) % 16) 0).toNat 0)
                rw [List.length_replicate] at hlo
                by_cases h5 : r.i < 16
                · repeat ((conv => whnf); first | refine pre_a ?_ | refine cond_ta ?_ | refine cond_fa ?_ | refine same_i ?_ | refine pre_i (by first | exact box_lt _) ?_ | refine cond_t (by first | exact box_lt _) ?_ | refine cond_f (by first | exact box_lt _) ?_)
                  conv => whnf
                  refine ⟨⟨r.i + 1, h5⟩, [0, 1, 2, 3, 4], by show (16) - (r.i + 1) < (16) - r.i; omega, ?_⟩
                  repeat ((conv => whnf); refine same_i ?_)
                  conv => whnf
                  refine same_q (congrArg (fun x => SV.agg [SV.arr8 16 x]) (ovr_step (by rw [List.length_replicate]; omega) ?hv ?hkk)) ?_
                  case hkk => show r.i = 0 + r.i; omega
                  case hv =>
                    show box.getD (UInt8.toNat (X.getD (((r.i : Int) + 4 * (r.i : Int).tmod 4).tmod 16).toNat 0)) 0 = _
                    rw [hm16, Int.toNat_natCast]
                  repeat ((conv => whnf); refine same_i ?_)
                  exact trivial
                · have e5 : r.i = 16 := by omega
                  rw [e5, ovr_fin (List.length_replicate), show (List.range 16).map (fun i => box.getD (X.getD ((i + 4 * (i % 4)) % 16) 0).toNat 0) = subS X by unfold subS; rfl]
                  clear hm4 hm16 hlo hJ hri h5 e5 r
                  have hS := subS_len X
                  have hRR : ((R : Int) - 1 : Int) = ((R - 1 : Nat) : Int) := by omega
                  by_cases h6 : q.i + 1 < R - 1
                  · repeat ((conv => whnf); first | refine pre_a ?_ | refine cond_ta ?_ | refine cond_fa ?_ | refine same_i ?_)
                    conv => whnf
                    refine loop_h (Ix (4)) (fun m => ⟨[(0, .ptr 0 0 0 []), (3, .ptr 2 0 0 []), (4, .ptr 3 0 0 []), (6, .int ((q.i : Int) + 1)), (7, .ptr 4 0 0 []), (9, .int (4 * (m.i : Int)))], [.mk t0 [.arr8 256 box, .sl 1 0 0 [] R c], .mk t1 [.arr8 N ks], .mk 103 [.arr8 16 X], .mk 103 [.arr8 16 (List.replicate 16 0)], .mk 103 [.arr8 16 (ovr (subS X) 0 (mixG (subS X)) (4 * m.i))]]⟩) (fun m => (4) - m.i) ⟨0, Nat.zero_le _⟩ [0, 1, 2, 3, 4] ?_ ?_
                    · repeat ((conv => whnf); refine same_i ?_)
                      exact trivial
                    · intro m
                      have hmi := m.hi
                      have hlm := ovr_len (l := subS X) (a := 0) (i := 4 * m.i) (by omega) (mixG (subS X))
                      by_cases h8 : m.i < 4
                      · repeat ((conv => whnf); first | refine pre_a ?_ | refine cond_ta ?_ | refine cond_fa ?_ | refine same_i ?_)
                        conv => whnf
                        refine ⟨⟨m.i + 1, h8⟩, [0, 1, 2, 3, 4], by show (4) - (m.i + 1) < (4) - m.i; omega, ?_⟩
                        repeat ((conv => whnf); refine same_i ?_)
                        conv => whnf
                        refine same_q (congrArg (fun x => SV.agg [SV.arr8 16 x]) (mix_four (T := subS X) (c := m.i) (by omega) rfl rfl rfl rfl rfl rfl)) ?_
                        repeat ((conv => whnf); refine same_i ?_)
                        exact trivial
                      · have e8 : m.i = 4 := by omega
                        rw [e8, show ovr (subS X) 0 (mixG (subS X)) (4 * 4) = mixC (subS X) by unfold mixC; exact ovr_fin hS _]
                        clear hlm hmi h8 e8 m
                        repeat ((conv => whnf); first | refine pre_a ?_ | refine cond_ta ?_ | refine cond_fa ?_ | refine same_i ?_)
                        conv => whnf
                        refine loop_h (Ix (16)) (fun k => ⟨[(0, .ptr 0 0 0 []), (3, .ptr 2 0 0 []), (4, .ptr 3 0 0 []), (6, .int ((q.i : Int) + 1)), (7, .ptr 4 0 0 []), (142, .int k.i)], [.mk t0 [.arr8 256 box, .sl 1 0 0 [] R c], .mk t1 [.arr8 N ks], .mk 103 [.arr8 16 (ovr X 0 (fun j => (mixC (subS X)).getD j 0 ^^^ ks.getD (16 * (q.i + 1) + j) 0) k.i)], .mk 103 [.arr8 16 (List.replicate 16 0)], .mk 103 [.arr8 16 (mixC (subS X))]]⟩) (fun k => (16) - k.i) ⟨0, Nat.zero_le _⟩ [0, 1, 2, 3, 4] ?_ ?_
                        · repeat ((conv => whnf); refine same_i ?_)
                          exact trivial
                        · intro k
                          have hki := k.hi
                          have hK : ((k.i : Int)).toNat = k.i := Int.toNat_natCast _
                          have hQ : ((q.i : Int) + 1).toNat = q.i + 1 := by omega
                          have hlo := ovr_len (l := X) (a := 0) (i := k.i) (by omega) (fun j => (mixC (subS X)).getD j 0 ^^^ ks.getD (16 * (q.i + 1) + j) 0)
                          have hls : (mixC (subS X)).length = 16 := mixC_len _
                          by_cases h7 : k.i < 16
                          · repeat ((conv => whnf); first | refine pre_a ?_ | refine cond_ta ?_ | refine cond_fa ?_ | refine same_i ?_)
                            conv => whnf
                            refine ⟨⟨k.i + 1, h7⟩, [0, 1, 2, 3, 4], by show (16) - (k.i + 1) < (16) - k.i; omega, ?_⟩
                            repeat ((conv => whnf); refine same_i ?_)
                            conv => whnf
                            refine same_q (congrArg (fun x => SV.agg [SV.arr8 16 x]) (ovr_step (by omega) ?hv ?hkk)) ?_
                            case hkk => show k.i = 0 + k.i; omega
                            case hv =>
                              show List.getD _ k.i 0 ^^^ ks.getD (((q.i : Int) + 1).toNat * 16 + k.i) 0 = _
                              rw [hQ, Nat.mul_comm]
                            repeat ((conv => whnf); refine same_i ?_)
                            exact trivial
                          · have e7 : k.i = 16 := by omega
                            have hnx : ovr X 0 (fun j => (mixC (subS X)).getD j 0 ^^^ ks.getD (16 * (q.i + 1) + j) 0) 16 = encSt ks R b (q.i + 1) := by
                              rw [ovr_fin hX]
                              simp only [encSt]
                              unfold rnd addK
                              rw [hXe, if_pos h6]
                            rw [e7, hnx]
                            repeat ((conv => whnf); first | refine pre_a ?_ | refine cond_ta ?_ | refine cond_fa ?_ | refine same_i ?_)
                            conv => whnf
                            refine ⟨⟨q.i + 1, h4⟩, [0, 1, 2, 3], by show ((R - 1)) - (q.i + 1) < ((R - 1)) - q.i; omega, ?_⟩
                            repeat ((conv => whnf); refine same_i ?_)
                            exact trivial
                  · repeat ((conv => whnf); first | refine pre_a ?_ | refine cond_ta ?_ | refine cond_fa ?_ | refine same_i ?_)
                    conv => whnf
                    refine loop_h (Ix (16)) (fun k => ⟨[(0, .ptr 0 0 0 []), (3, .ptr 2 0 0 []), (4, .ptr 3 0 0 []), (6, .int ((q.i : Int) + 1)), (7, .ptr 4 0 0 []), (142, .int k.i)], [.mk t0 [.arr8 256 box, .sl 1 0 0 [] R c], .mk t1 [.arr8 N ks], .mk 103 [.arr8 16 (ovr X 0 (fun j => (subS X).getD j 0 ^^^ ks.getD (16 * (q.i + 1) + j) 0) k.i)], .mk 103 [.arr8 16 (List.replicate 16 0)], .mk 103 [.arr8 16 (subS X)]]⟩) (fun k => (16) - k.i) ⟨0, Nat.zero_le _⟩ [0, 1, 2, 3, 4] ?_ ?_
                    · repeat ((conv => whnf); refine same_i ?_)
                      exact trivial
                    · intro k
                      have hki := k.hi
                      have hK : ((k.i : Int)).toNat = k.i := Int.toNat_natCast _
                      have hQ : ((q.i : Int) + 1).toNat = q.i + 1 := by omega
                      have hlo := ovr_len (l := X) (a := 0) (i := k.i) (by omega) (fun j => (subS X).getD j 0 ^^^ ks.getD (16 * (q.i + 1) + j) 0)
                      have hls : (subS X).length = 16 := subS_len X
                      by_cases h7 : k.i < 16
                      · repeat ((conv => whnf); first | refine pre_a ?_ | refine cond_ta ?_ | refine cond_fa ?_ | refine same_i ?_)
                        conv => whnf
                        refine ⟨⟨k.i + 1, h7⟩, [0, 1, 2, 3, 4], by show (16) - (k.i + 1) < (16) - k.i; omega, ?_⟩
                        repeat ((conv => whnf); refine same_i ?_)
                        conv => whnf
                        refine same_q (congrArg (fun x => SV.agg [SV.arr8 16 x]) (ovr_step (by omega) ?hv ?hkk)) ?_
                        case hkk => show k.i = 0 + k.i; omega
                        case hv =>
                          show List.getD _ k.i 0 ^^^ ks.getD (((q.i : Int) + 1).toNat * 16 + k.i) 0 = _
                          rw [hQ, Nat.mul_comm]
                        repeat ((conv => whnf); refine same_i ?_)
                        exact trivial
                      · have e7 : k.i = 16 := by omega
                        have hnx : ovr X 0 (fun j => (subS X).getD j 0 ^^^ ks.getD (16 * (q.i + 1) + j) 0) 16 = encSt ks R b (q.i + 1) := by
                          rw [ovr_fin hX]
                          simp only [encSt]
                          unfold rnd addK
                          rw [hXe, if_neg h6]
                        rw [e7, hnx]
                        repeat ((conv => whnf); first | refine pre_a ?_ | refine cond_ta ?_ | refine cond_fa ?_ | refine same_i ?_)
                        conv => whnf
                        refine ⟨⟨q.i + 1, h4⟩, [0, 1, 2, 3], by show ((R - 1)) - (q.i + 1) < ((R - 1)) - q.i; omega, ?_⟩
                        repeat ((conv => whnf); refine same_i ?_)
                        exact trivial
            · have e4 : q.i = R - 1 := by omega
              rw [e4]
              repeat ((conv => whnf); first | refine pre_a ?_ | refine cond_ta ?_ | refine cond_fa ?_ | refine same_i ?_)
              conv => whnf
              refine final_h (hp' := [.mk t0 [.arr8 256 box, .sl 1 0 0 [] R c], .mk t1 [.arr8 N ks]]) [0, 1] h ?_
              repeat ((conv => whnf); refine same_i ?_)
              exact trivial
    · exact h.elim
end Go.Sym.A

/-
  GCM: a text under blocks, tags, sealed texts. Plain laws. No program in sight.
-/
namespace Go.Sym.Gcm
open Go.Sym Go.Sym.Lp Go.Sym.Aes
/-- a key's words, and its rounds -/
def gW (key : List UInt8) : List UInt8 := ks key (key.length / 4) (4 * (key.length / 4 + 7))
def gR (key : List UInt8) : Nat := key.length / 4 + 7
theorem gW_len {key : List UInt8} (h : key.length = 16 ∨ key.length = 32) : (gW key).length = 16 * gR key := by
  unfold gW gR
  rw [ks_len (by omega)]
  omega
def gH (W : List UInt8) (R : Nat) : El := ld (enc W R (List.replicate 16 0))
def kb (W : List UInt8) (R : Nat) (nonce : List UInt8) (n : UInt32) : List UInt8 := enc W R (ctr nonce n)
theorem kb_len (W : List UInt8) (R : Nat) (nonce : List UInt8) (n : UInt32) : (kb W R nonce n).length = 16 := enc_len _ _ _
def stG (W : List UInt8) (R : Nat) (nonce : List UInt8) (n : UInt32) (s : List UInt8) (i : Nat) : UInt8 := s.getD i 0 ^^^ (kb W R nonce (n + UInt32.ofNat (i / 16))).getD (i % 16) 0
/-- a text under the key's blocks -/
def gst (W : List UInt8) (R : Nat) (nonce : List UInt8) (n : UInt32) (s : List UInt8) : List UInt8 := (List.range s.length).map (stG W R nonce n s)
theorem gst_len (W : List UInt8) (R : Nat) (nonce : List UInt8) (n : UInt32) (s : List UInt8) : (gst W R nonce n s).length = s.length := map_range_len _ _
def gstO (W : List UInt8) (R : Nat) (nonce : List UInt8) (n : UInt32) (l : List UInt8) (k : Nat) : List UInt8 := ovr l 0 (stG W R nonce n l) k
theorem gstO_len {W : List UInt8} {R : Nat} {nonce : List UInt8} {n : UInt32} {l : List UInt8} {k : Nat} (h : k ≤ l.length) : (gstO W R nonce n l k).length = l.length := ovr_len (by omega) _
theorem gstO_all {W : List UInt8} {R : Nat} {nonce : List UInt8} {n : UInt32} {l : List UInt8} {k : Nat} (h : k ≤ l.length) : gstO W R nonce n l k = gst W R nonce n (l.take k) ++ l.drop k := by
  unfold gstO gst ovr
  rw [List.take_zero, List.nil_append, Nat.zero_add, List.length_take, Nat.min_eq_left h]
  congr 1
  apply map_range_congr
  intro i hi
  unfold stG
  congr 1
  rw [List.getD_eq_getElem?_getD, List.getD_eq_getElem?_getD, List.getElem?_take_of_lt hi]
/-- a tag: the sum under the first block -/
def gtag (W : List UInt8) (R : Nat) (nonce aad b : List UInt8) : List UInt8 :=
  gst W R nonce 1 (wr (ghSt (gH W R) (gTxt aad b) (gN aad b)))
theorem gtag_len (W : List UInt8) (R : Nat) (nonce aad b : List UInt8) : (gtag W R nonce aad b).length = 16 := by
  unfold gtag; rw [gst_len, wr_len]
/-- a text sealed -/
def gseal (key nonce aad s : List UInt8) : List UInt8 :=
  gst (gW key) (gR key) nonce 2 s ++ gtag (gW key) (gR key) nonce aad (gst (gW key) (gR key) nonce 2 s)
theorem u32_add (c : UInt32) (t : Nat) : c + UInt32.ofNat t + 1 = c + UInt32.ofNat (t + 1) := by
  rw [UInt32.add_assoc]
  congr 1
  apply UInt32.toNat_inj.1
  rw [UInt32.toNat_add, UInt32.toNat_ofNat', UInt32.toNat_ofNat']
  show (t % 4294967296 + 1) % 4294967296 = (t + 1) % 4294967296
  omega
end Go.Sym.Gcm

namespace Go.Sym.A
open Go Go.Proofs.Try Go.Sym.Lp Go.Sym.Gcm Go.Sym.Aes
set_option maxRecDepth 100000
attribute [local irreducible] ldE ld half hf4 fold pmul pad16 enc ks box ctr
/-- the orders of the drawn regions of gcm.New -/
def pl45 : List (Nat × List PStep) := []
/-- the orders of the drawn regions of gcm.Cipher.Xor -/
def pl47 : List (Nat × List PStep) := [(3, [⟨0, []⟩, ⟨1, []⟩, ⟨2, []⟩, ⟨3, []⟩, ⟨4, [0, 1, 2, 3]⟩, ⟨5, [0, 1, 2, 3, 4]⟩, ⟨8, [0, 1, 2, 3, 4, 5]⟩, ⟨6, [0, 1, 2, 3, 8]⟩, ⟨7, [8]⟩, ⟨9, []⟩]), (8, [⟨0, []⟩, ⟨1, [0]⟩, ⟨2, []⟩, ⟨3, []⟩, ⟨4, [0, 1, 2, 3]⟩, ⟨5, [0, 1, 2, 3]⟩, ⟨6, [0, 1, 2, 3]⟩, ⟨7, []⟩, ⟨8, []⟩, ⟨9, []⟩])]

/-- the blocks of a key made ready: it, its words -/
abbrev gkey (t0 t1 t2 : Nat) (h1 h2 : UInt64) (R c N : Nat) (W : List UInt8) : List Blk := [.mk t0 [.ptr 1 0 0 [], .u64 h1, .u64 h2], .mk t1 [.arr8 256 box, .sl 2 0 0 [] R c], .mk t2 [.arr8 N W]]
def gcmNewS : Spec := fun args hp K => match args, hp with
  | [.str key], [] => CondVC (decide (key.length = 16 ∨ key.length = 32))
      (K (.tup [.ptr 0 0 0 [], .bool true]) [.mk 109 [.ptr 1 0 0 [], .u64 (gH (gW key) (gR key)).1, .u64 (gH (gW key) (gR key)).2], .mk 147 [.arr8 256 box, .sl 2 0 0 [] (gR key) (gR key)], .mk 103 [.arr8 (16 * gR key) (gW key)]])
      (K (.tup [.nilptr, .bool false]) [])
  | _, _ => False
theorem gcmNew_s : SoundC prog 45 gcmNewS := by
  refine sound_f tyGcm_ok (fnok_cons aesNew_s (fnok_cons encrypt_s (fnok_cons gload_s fnok_nil))) rfl func45 rfl call45 (D := pl45) ?_ ?_
  · intro args hp K h
    unfold gcmNewS at h
    split at h
    · exact Nat.le_of_ble_eq_true rfl
    · exact h.elim
  · intro args hp K h
    unfold gcmNewS at h
    split at h
    · rename_i key
      obtain ⟨ht, hn⟩ := cond_e h
      by_cases hk : key.length = 16 ∨ key.length = 32
      · have h := ht (decide_eq_true hk)
        have hd := decide_eq_true hk
        have hWl := gW_len hk
        have hR : gR key = key.length / 4 + 7 := rfl
        have hp5 : box = box ∧ (List.replicate 16 (0 : UInt8)).length = 16 ∧ 1 ≤ gR key ∧ gR key ≤ 100 ∧ 16 * gR key ≤ (gW key).length := ⟨rfl, List.length_replicate, by omega, by omega, by omega⟩
        have hel := enc_len (gW key) (gR key) (List.replicate 16 0)
        have htk : List.take 16 (List.drop (off []) (enc (gW key) (gR key) (List.replicate 16 0))) = enc (gW key) (gR key) (List.replicate 16 0) := List.take_of_length_le (Nat.le_of_eq hel)
        have hw : ks key (key.length / 4) (4 * gR key) = gW key := by unfold gW gR; rfl
        repeat ((conv => whnf); first | refine pre_a ?_ | refine cond_ta ?_ | refine cond_fa ?_ | refine same_i ?_ | refine pre_i (by first | exact hd) ?_ | refine cond_t (by first | exact hd) ?_ | refine cond_f (by first | exact hd) ?_)
        conv => whnf
        rw [← hR, hw]
        repeat ((conv => whnf); first | refine pre_a ?_ | refine cond_ta ?_ | refine cond_fa ?_ | refine same_i ?_)
        conv => whnf
        rw [htk, show ld (enc (gW key) (gR key) (List.replicate 16 0)) = gH (gW key) (gR key) by unfold gH; rfl]
        conv => whnf
        refine final_h (hp' := [.mk 109 [.ptr 1 0 0 [], .u64 (gH (gW key) (gR key)).1, .u64 (gH (gW key) (gR key)).2], .mk 147 [.arr8 256 box, .sl 2 0 0 [] (gR key) (gR key)], .mk 103 [.arr8 (16 * gR key) (gW key)]]) [3, 0, 1] h ?_
        repeat ((conv => whnf); refine same_i ?_)
        exact trivial
      · have h := hn (decide_eq_false hk)
        have hd := decide_eq_false hk
        repeat ((conv => whnf); first | refine pre_a ?_ | refine cond_ta ?_ | refine cond_fa ?_ | refine same_i ?_ | refine pre_i (by first | exact hd) ?_ | refine cond_t (by first | exact hd) ?_ | refine cond_f (by first | exact hd) ?_)
        conv => whnf
        refine final_h (hp' := []) [] h ?_
        repeat ((conv => whnf); refine same_i ?_)
        exact trivial
    · exact h.elim
structure Xg (n : Nat) where
  t : Nat
  x : Nat
  k : Nat
  c : Nat
  hn : k + 16 * t = n ∨ (k = 0 ∧ n ≤ 16 * t)
  hx : 0 < k → x = 16 * t
  hc : k ≤ c
def gxorS : Spec := fun args hp K => match args, hp with
  | [.ptr 0 0 0 [], .str nonce, .sl 3 0 0 [] n cap], [.mk t0 [.ptr 1 0 0 [], .u64 h1, .u64 h2], .mk t1 [.arr8 256 bx, .sl 2 0 0 [] R c], .mk t2 [.arr8 N W], .mk t [.arr8 m l]] =>
      Pre (bx = box ∧ nonce.length = 12 ∧ 1 ≤ R ∧ R ≤ 100 ∧ 16 * R ≤ W.length ∧ n ≤ l.length ∧ n ≤ cap ∧ n ≤ 9223372036854775807)
      (K (.tup []) [.mk t0 [.ptr 1 0 0 [], .u64 h1, .u64 h2], .mk t1 [.arr8 256 bx, .sl 2 0 0 [] R c], .mk t2 [.arr8 N W], .mk t [.arr8 m (gst W R nonce 2 (l.take n) ++ l.drop n)]])
  | _, _ => False
set_option maxHeartbeats 4000000 in
theorem gxor_s : SoundC prog 47 gxorS := by
  refine sound_f tyGcm_ok (fnok_cons gcounter_s (fnok_cons encrypt_s fnok_nil)) rfl func47 rfl call47 (D := pl47) ?_ ?_
  · intro args hp K h
    unfold gxorS at h
    split at h
    · exact Nat.le_of_ble_eq_true rfl
    · exact h.elim
  · intro args hp K h
    unfold gxorS at h
    split at h
    · rename_i nonce n cap t0 h1 h2 t1 bx R c t2 N W t m l
      obtain ⟨⟨rfl, hnon, hR1, hR2, hW, hl, hcap, hmax⟩, h⟩ := pre_e h
      rw [← gstO_all hl] at h
      repeat ((conv => whnf); first | refine pre_a ?_ | refine cond_ta ?_ | refine cond_fa ?_ | refine same_i ?_)
      conv => whnf
      refine loop_h (Option (Xg n)) (fun q => match q with
        | none => ⟨[(0, .ptr 0 0 0 []), (1, .str nonce), (2, .sl 3 0 0 [] n cap), (6, .u32 2)], gkey t0 t1 t2 h1 h2 R c N W ++ [.mk t [.arr8 m l]]⟩
        | some s => ⟨[(0, .ptr 0 0 0 []), (1, .str nonce), (2, .sl 3 0 0 [(s.x, 1)] s.k s.c), (6, .u32 (2 + UInt32.ofNat s.t))], gkey t0 t1 t2 h1 h2 R c N W ++ [.mk t [.arr8 m (gstO W R nonce 2 l (n - s.k))]]⟩)
        (fun q => match q with | none => n + 1 | some s => s.k) none [0, 1, 2, 3] ?_ ?_
      · repeat ((conv => whnf); refine same_i ?_)
        exact trivial
      · intro q
        cases q with
        | none =>
          by_cases h4 : 0 < n
          · skip
            skip
            have hmn : (min (n : Int) 16).toNat = min n 16 := by omega
            have hcl := ctr_len hnon (2 : UInt32)
            have hp5 : box = box ∧ (ctr nonce (2 : UInt32)).length = 16 ∧ 1 ≤ R ∧ R ≤ 100 ∧ 16 * R ≤ W.length := ⟨rfl, hcl, hR1, hR2, hW⟩
            have hkl := enc_len W R (ctr nonce (2 : UInt32))
            repeat ((conv => whnf); first | refine pre_a ?_ | refine cond_ta ?_ | refine cond_fa ?_ | refine same_i ?_)
            conv => whnf
            refine loop_h (Ix ((min n 16))) (fun r => ⟨[(0, .ptr 0 0 0 []), (1, .str nonce), (2, .sl 3 0 0 [] n cap), (6, .u32 (2 : UInt32)), (7, .ptr 4 0 0 []), (8, .int (min (n : Int) 16)), (26, .int (min (n : Int) 16)), (27, .int r.i)], [.mk t0 [.ptr 1 0 0 [], .u64 h1, .u64 h2], .mk t1 [.arr8 256 box, .sl 2 0 0 [] R c], .mk t2 [.arr8 N W], .mk t [.arr8 m (gstO W R nonce 2 l (0 + r.i))], .mk 103 [.arr8 16 (enc W R (ctr nonce (2 : UInt32)))]]⟩) (fun r => ((min n 16)) - r.i) ⟨0, Nat.zero_le _⟩ [0, 1, 2, 3, 4] ?_ ?_
            · repeat ((conv => whnf); refine same_i ?_)
              exact trivial
            · intro r
              have hri := r.hi
              have hlr : (gstO W R nonce 2 l (0 + r.i)).length = l.length := gstO_len (by omega)
              have hR : ((r.i : Int)).toNat = r.i := Int.toNat_natCast _
              by_cases h5 : r.i < min n 16
              · repeat ((conv => whnf); first | refine pre_a ?_ | refine cond_ta ?_ | refine cond_fa ?_ | refine same_i ?_)
                conv => whnf
                refine ⟨⟨r.i + 1, h5⟩, [0, 1, 2, 3, 4], by show ((min n 16)) - (r.i + 1) < ((min n 16)) - r.i; omega, ?_⟩
                repeat ((conv => whnf); refine same_i ?_)
                conv => whnf
                refine same_q (congrArg (fun x => SV.agg [SV.arr8 m x]) (ovr_step (by omega) ?hv ?hkk)) ?_
                case hkk => show r.i = 0 + (0 + r.i); omega
                case hv =>
                  show List.getD (ovr l 0 (stG W R nonce 2 l) (0 + r.i)) (r.i) 0 ^^^ List.getD (enc W R (ctr nonce (2 : UInt32))) r.i 0 = _
                  rw [ovr_get (by omega) _ (by omega)]
                  unfold stG kb
                  rw [show (0 + r.i) / 16 = 0 by omega, show (0 + r.i) % 16 = r.i by omega, show (2 : UInt32) + UInt32.ofNat 0 = 2 from rfl, Nat.zero_add]
                repeat ((conv => whnf); refine same_i ?_)
                exact trivial
              · have e5 : r.i = min n 16 := by omega
                rw [e5]
                repeat ((conv => whnf); first | refine pre_a ?_ | refine cond_ta ?_ | refine cond_fa ?_ | refine same_i ?_)
                conv => whnf
                rw [hmn]
                refine ⟨some ⟨0 + 1, slO cap (min n 16), n - min n 16, cap - min n 16, by omega, fun h0 => by
                  have hne : cap ≠ min n 16 := by omega
                  rw [slO_eq hne]; omega, by omega⟩, [0, 1, 2, 3], by show n - min n 16 < n + 1; omega, ?_⟩
                repeat ((conv => whnf); refine same_i ?_)
                conv => whnf
                refine same_q (congrArg (fun k => SV.agg [SV.arr8 m (gstO W R nonce 2 l k)]) (by show 0 + min n 16 = n - (n - min n 16); omega)) ?_
                repeat ((conv => whnf); refine same_i ?_)
                skip
                exact trivial
          · have e4 : n = 0 := by omega
            repeat ((conv => whnf); first | refine pre_a ?_ | refine cond_ta ?_ | refine cond_fa ?_ | refine same_i ?_)
            conv => whnf
            refine final_h (hp' := [.mk t0 [.ptr 1 0 0 [], .u64 h1, .u64 h2], .mk t1 [.arr8 256 box, .sl 2 0 0 [] R c], .mk t2 [.arr8 N W], .mk t [.arr8 m (gstO W R nonce 2 l n)]]) [0, 1, 2, 3] h ?_
            repeat ((conv => whnf); refine same_i ?_)
            conv => whnf
            refine same_q (congrArg (fun x => SV.agg [SV.arr8 m x]) (by rw [e4]; unfold gstO; exact (ovr_zero _ _ _).symm)) ?_
            repeat ((conv => whnf); refine same_i ?_)
            exact trivial
        | some s =>
          have hsn := s.hn
          have hsx := s.hx
          have hsc := s.hc
          have hls : (gstO W R nonce 2 l (n - s.k)).length = l.length := gstO_len (by omega)
          by_cases h4 : 0 < s.k
          · have hX := hsx h4
            have hD : n - s.k = 16 * s.t := by omega
            have hmn : (min (s.k : Int) 16).toNat = min s.k 16 := by omega
            have hcl := ctr_len hnon (2 + UInt32.ofNat s.t)
            have hp5 : box = box ∧ (ctr nonce (2 + UInt32.ofNat s.t)).length = 16 ∧ 1 ≤ R ∧ R ≤ 100 ∧ 16 * R ≤ W.length := ⟨rfl, hcl, hR1, hR2, hW⟩
            have hkl := enc_len W R (ctr nonce (2 + UInt32.ofNat s.t))
            repeat ((conv => whnf); first | refine pre_a ?_ | refine cond_ta ?_ | refine cond_fa ?_ | refine same_i ?_)
            conv => whnf
            refine loop_h (Ix ((min s.k 16))) (fun r => ⟨[(0, .ptr 0 0 0 []), (1, .str nonce), (2, .sl 3 0 0 [(s.x, 1)] s.k s.c), (6, .u32 (2 + UInt32.ofNat s.t)), (7, .ptr 4 0 0 []), (8, .int (min (s.k : Int) 16)), (26, .int (min (s.k : Int) 16)), (27, .int r.i)], [.mk t0 [.ptr 1 0 0 [], .u64 h1, .u64 h2], .mk t1 [.arr8 256 box, .sl 2 0 0 [] R c], .mk t2 [.arr8 N W], .mk t [.arr8 m (gstO W R nonce 2 l ((n - s.k) + r.i))], .mk 103 [.arr8 16 (enc W R (ctr nonce (2 + UInt32.ofNat s.t)))]]⟩) (fun r => ((min s.k 16)) - r.i) ⟨0, Nat.zero_le _⟩ [0, 1, 2, 3, 4] ?_ ?_
            · repeat ((conv => whnf); refine same_i ?_)
              exact trivial
            · intro r
              have hri := r.hi
              have hlr : (gstO W R nonce 2 l ((n - s.k) + r.i)).length = l.length := gstO_len (by omega)
              have hR : ((r.i : Int)).toNat = r.i := Int.toNat_natCast _
              by_cases h5 : r.i < min s.k 16
              · repeat ((conv => whnf); first | refine pre_a ?_ | refine cond_ta ?_ | refine cond_fa ?_ | refine same_i ?_)
                conv => whnf
                refine ⟨⟨r.i + 1, h5⟩, [0, 1, 2, 3, 4], by show ((min s.k 16)) - (r.i + 1) < ((min s.k 16)) - r.i; omega, ?_⟩
                repeat ((conv => whnf); refine same_i ?_)
                conv => whnf
                refine same_q (congrArg (fun x => SV.agg [SV.arr8 m x]) (ovr_step (by omega) ?hv ?hkk)) ?_
                case hkk => show s.x + r.i = 0 + ((n - s.k) + r.i); omega
                case hv =>
                  show List.getD (ovr l 0 (stG W R nonce 2 l) ((n - s.k) + r.i)) (s.x + r.i) 0 ^^^ List.getD (enc W R (ctr nonce (2 + UInt32.ofNat s.t))) r.i 0 = _
                  rw [ovr_get (by omega) _ (by omega)]
                  unfold stG kb
                  rw [show ((n - s.k) + r.i) / 16 = s.t by omega, show ((n - s.k) + r.i) % 16 = r.i by omega, show s.x + r.i = n - s.k + r.i by omega]
                repeat ((conv => whnf); refine same_i ?_)
                exact trivial
              · have e5 : r.i = min s.k 16 := by omega
                rw [e5]
                repeat ((conv => whnf); first | refine pre_a ?_ | refine cond_ta ?_ | refine cond_fa ?_ | refine same_i ?_)
                conv => whnf
                rw [hmn]
                refine ⟨some ⟨s.t + 1, s.x + slO s.c (min s.k 16), s.k - min s.k 16, s.c - min s.k 16, by omega, fun h0 => by
                  have hne : s.c ≠ min s.k 16 := by omega
                  rw [slO_eq hne]; omega, by omega⟩, [0, 1, 2, 3], by show s.k - min s.k 16 < s.k; omega, ?_⟩
                repeat ((conv => whnf); refine same_i ?_)
                conv => whnf
                refine same_q (congrArg (fun k => SV.agg [SV.arr8 m (gstO W R nonce 2 l k)]) (by show (n - s.k) + min s.k 16 = n - (s.k - min s.k 16); omega)) ?_
                repeat ((conv => whnf); refine same_i ?_)
                conv => whnf
                refine same_q (congrArg SV.u32 (by show (2 + UInt32.ofNat s.t) + UInt32.ofNat 1 = 2 + UInt32.ofNat (s.t + 1); exact Go.Sym.Gcm.u32_add _ _)) ?_
                repeat ((conv => whnf); refine same_i ?_)
                exact trivial
          · have e4 : s.k = 0 := by omega
            repeat ((conv => whnf); first | refine pre_a ?_ | refine cond_ta ?_ | refine cond_fa ?_ | refine same_i ?_)
            conv => whnf
            refine final_h (hp' := [.mk t0 [.ptr 1 0 0 [], .u64 h1, .u64 h2], .mk t1 [.arr8 256 box, .sl 2 0 0 [] R c], .mk t2 [.arr8 N W], .mk t [.arr8 m (gstO W R nonce 2 l n)]]) [0, 1, 2, 3] h ?_
            repeat ((conv => whnf); refine same_i ?_)
            conv => whnf
            refine same_q (congrArg (fun k => SV.agg [SV.arr8 m (gstO W R nonce 2 l k)]) (by show n - s.k = n; omega)) ?_
            repeat ((conv => whnf); refine same_i ?_)
            exact trivial
    · exact h.elim
end Go.Sym.A

namespace Go.Sym.A
open Go Go.Proofs.Try Go.Sym.Lp Go.Sym.Gcm Go.Sym.Aes
set_option maxRecDepth 100000
attribute [local irreducible] ldE ld half hf4 fold pmul pad16 enc ks box ctr tb fl gaB wr ghSt
/-- the orders of the drawn regions of gcm.Cipher.Tag -/
def pl48 : List (Nat × List PStep) := [(8, [⟨0, []⟩, ⟨1, []⟩, ⟨2, []⟩, ⟨3, []⟩, ⟨4, [0, 1, 2, 3]⟩, ⟨7, [0, 1, 2, 3, 4]⟩, ⟨5, [0, 1, 2, 3, 7]⟩, ⟨6, [7]⟩, ⟨8, []⟩]), (12, [⟨0, []⟩, ⟨1, []⟩, ⟨2, []⟩, ⟨3, [0, 1, 2]⟩, ⟨4, [0, 1, 2]⟩, ⟨5, [0, 1, 2]⟩, ⟨6, []⟩, ⟨7, []⟩, ⟨8, []⟩])]
/-- the orders of the drawn regions of gcm.may -/
def pl46 : List (Nat × List PStep) := []

def gtg (W : List UInt8) (R : Nat) (h : El) (nonce aad b : List UInt8) : List UInt8 :=
  gst W R nonce 1 (wr (ghSt h (gTxt aad b) (gN aad b)))
def gtagS : Spec := fun args hp K => match args, hp with
  | [.ptr 0 0 0 [], .str nonce, .str aad, .sl 3 0 0 [] n c], [.mk t0 [.ptr 1 0 0 [], .u64 h1, .u64 h2], .mk t1 [.arr8 256 bx, .sl 2 0 0 [] R cR], .mk t2 [.arr8 N W], .mk t [.arr8 m l]] =>
      Pre (bx = box ∧ nonce.length = 12 ∧ 1 ≤ R ∧ R ≤ 100 ∧ 16 * R ≤ W.length ∧ n ≤ l.length ∧ n ≤ c ∧ aad.length ≤ 65536 ∧ n ≤ 70000)
      (K (.str (gtg W R (h1, h2) nonce aad (l.take n))) [.mk t0 [.ptr 1 0 0 [], .u64 h1, .u64 h2], .mk t1 [.arr8 256 bx, .sl 2 0 0 [] R cR], .mk t2 [.arr8 N W], .mk t [.arr8 m l]])
  | _, _ => False
set_option maxHeartbeats 4000000 in
theorem gtag_s : SoundC prog 48 gtagS := by
  refine sound_f tyGcm_ok (fnok_cons gnew_s (fnok_cons gall_s (fnok_cons gbytes_s (fnok_cons gadd_s (fnok_cons gcounter_s (fnok_cons encrypt_s fnok_nil)))))) rfl func48 rfl call48 (D := pl48) ?_ ?_
  · intro args hp K h
    unfold gtagS at h
    split at h
    · exact Nat.le_of_ble_eq_true rfl
    · exact h.elim
  · intro args hp K h
    unfold gtagS at h
    split at h
    · rename_i nonce aad n c t0 h1 h2 t1 bx R cR t2 N W t m l
      obtain ⟨⟨rfl, hnon, hR1, hR2, hW, hl, hc, ha, hn⟩, h⟩ := pre_e h
      have hT := tb_len (h1, h2)
      have hF : fl.length = 16 := by unfold fl; simp
      repeat ((conv => whnf); first | refine pre_a ?_ | refine cond_ta ?_ | refine cond_fa ?_ | refine same_i ?_)
      conv => whnf
      refine all_i fun tl => ?_
      have hw16 := wr_len (UInt64.ofInt (aad.length : Int) * UInt64.ofNat 8, UInt64.ofInt (n : Int) * UInt64.ofNat 8)
      have hpa : (tb (h1, h2)).length = 32 ∧ fl.length = 16 ∧ 16 ≤ 16 ∧ off [] + 16 ≤ (wr (UInt64.ofInt (aad.length : Int) * UInt64.ofNat 8, UInt64.ofInt (n : Int) * UInt64.ofNat 8)).length := ⟨hT, hF, by decide, by rw [hw16]; decide⟩
      have hcl := ctr_len hnon 1
      have hpe : box = box ∧ (ctr nonce 1).length = 16 ∧ 1 ≤ R ∧ R ≤ 100 ∧ 16 * R ≤ W.length := ⟨rfl, hcl, hR1, hR2, hW⟩
      obtain ⟨O, hO⟩ : ∃ O, O = wr (ghSt (h1, h2) (gTxt aad (l.take n)) (gN aad (l.take n))) := ⟨_, rfl⟩
      have hOl : O.length = 16 := by rw [hO]; exact wr_len _
      have hbl : (l.take n).length = n := by rw [List.length_take]; omega
      have hlen : ∀ k : Nat, UInt64.ofInt (k : Int) * UInt64.ofNat 8 = UInt64.ofNat (8 * k) := fun k => by
        rw [u64_int, UInt64.ofNat_mul, UInt64.mul_comm]
      have hraw : wr (pmul (tb (h1, h2)) fl (xr (ld (List.take 16 (List.drop (off []) (wr (UInt64.ofInt (aad.length : Int) * UInt64.ofNat 8, UInt64.ofInt (n : Int) * UInt64.ofNat 8))))) (gaB (tb (h1, h2)) fl (gaB (tb (h1, h2)) fl (0, 0) (List.take aad.length (aad ++ tl))) (List.take n l)))) = O := by
        have e1 : List.take aad.length (aad ++ tl) = aad := List.take_left' rfl
        have e2 : List.take 16 (List.drop (off []) (wr (UInt64.ofInt (aad.length : Int) * UInt64.ofNat 8, UInt64.ofInt (n : Int) * UInt64.ofNat 8))) = wr (UInt64.ofInt (aad.length : Int) * UInt64.ofNat 8, UInt64.ofInt (n : Int) * UInt64.ofNat 8) := List.take_of_length_le (Nat.le_of_eq hw16)
        have e3 := ga_all (h1, h2) aad (l.take n)
        rw [hbl] at e3
        rw [e1, e2, hlen, hlen, hO, ← e3]
        rfl
      have hG : gtg W R (h1, h2) nonce aad (l.take n) = gst W R nonce 1 O := by unfold gtg; rw [hO]
      rw [hG] at h
      have hkl := enc_len W R (ctr nonce 1)
      repeat ((conv => whnf); first | refine pre_a ?_ | refine cond_ta ?_ | refine cond_fa ?_ | refine same_i ?_)
      conv => whnf
      refine loop_h (Ix (16)) (fun q => ⟨[(12, .ptr 4 0 0 []), (13, .ptr 5 0 0 []), (53, .int q.i)], [.mk t0 [.ptr 1 0 0 [], .u64 h1, .u64 h2], .mk t1 [.arr8 256 box, .sl 2 0 0 [] R cR], .mk t2 [.arr8 N W], .mk t [.arr8 m l], .mk 103 [.arr8 16 (ovr O 0 (stG W R nonce 1 O) q.i)], .mk 103 [.arr8 16 (enc W R (ctr nonce 1))]]⟩) (fun q => (16) - q.i) ⟨0, Nat.zero_le _⟩ [0, 1, 2, 3, 8, 9] ?_ ?_
      · repeat ((conv => whnf); refine same_i ?_)
        conv => whnf
        refine same_q (congrArg (fun x => SV.agg [SV.arr8 16 x]) (hraw.trans (ovr_zero _ _ _).symm)) ?_
        repeat ((conv => whnf); refine same_i ?_)
        exact trivial
      · intro q
        have hi := q.hi
        have hlo := ovr_len (l := O) (a := 0) (i := q.i) (by omega) (stG W R nonce 1 O)
        have hI : ((q.i : Int)).toNat = q.i := Int.toNat_natCast _
        by_cases h4 : q.i < 16
        · repeat ((conv => whnf); first | refine pre_a ?_ | refine cond_ta ?_ | refine cond_fa ?_ | refine same_i ?_)
          conv => whnf
          refine ⟨⟨q.i + 1, h4⟩, [0, 1, 2, 3, 4, 5], by show (16) - (q.i + 1) < (16) - q.i; omega, ?_⟩
          repeat ((conv => whnf); refine same_i ?_)
          conv => whnf
          refine same_q (congrArg (fun x => SV.agg [SV.arr8 16 x]) (ovr_step (by omega) ?hv ?hkk)) ?_
          case hkk => show q.i = 0 + q.i; omega
          case hv =>
            show List.getD (ovr O 0 (stG W R nonce 1 O) q.i) q.i 0 ^^^ List.getD (enc W R (ctr nonce 1)) q.i 0 = _
            rw [ovr_get (by omega) _ (by omega)]
            unfold stG kb
            rw [show q.i / 16 = 0 by omega, show q.i % 16 = q.i by omega, show (1 : UInt32) + UInt32.ofNat 0 = 1 from rfl]
          repeat ((conv => whnf); refine same_i ?_)
          exact trivial
        · have e4 : q.i = 16 := by omega
          have hfin : List.take 16 (List.drop (off []) (ovr O 0 (stG W R nonce 1 O) 16)) = gst W R nonce 1 O := by
            rw [ovr_fin hOl]
            unfold gst
            rw [hOl]
            exact List.take_of_length_le (by simp)
          rw [e4] at hlo
          rw [e4]
          repeat ((conv => whnf); first | refine pre_a ?_ | refine cond_ta ?_ | refine cond_fa ?_ | refine same_i ?_)
          conv => whnf
          rw [hfin]
          conv => whnf
          refine final_h (hp' := [.mk t0 [.ptr 1 0 0 [], .u64 h1, .u64 h2], .mk t1 [.arr8 256 box, .sl 2 0 0 [] R cR], .mk t2 [.arr8 N W], .mk t [.arr8 m l]]) [0, 1, 2, 3] h ?_
          repeat ((conv => whnf); refine same_i ?_)
          exact trivial
    · exact h.elim
def gmayS : Spec := fun args hp K => match args, hp with
  | [.str nonce, .str aad, .int most, .int long], [] => K (.bool (decide (nonce.length = 12 ∧ aad.length ≤ 65536 ∧ long ≤ most))) []
  | _, _ => False
theorem gmay_s : SoundC prog 46 gmayS := by
  refine sound_f tyGcm_ok fnok_nil rfl func46 rfl call46 (D := pl46) ?_ ?_
  · intro args hp K h
    unfold gmayS at h
    split at h
    · exact Nat.le_of_ble_eq_true rfl
    · exact h.elim
  · intro args hp K h
    unfold gmayS at h
    split at h
    · rename_i nonce aad most long
      by_cases h1 : nonce.length = 12
      · by_cases h2 : aad.length ≤ 65536
        · by_cases h3 : long ≤ most
          · rw [decide_eq_true ⟨h1, h2, h3⟩] at h
            have d4 : decide (long ≤ most) = true := decide_eq_true h3
            repeat ((conv => whnf); first | refine pre_a ?_ | refine cond_ta ?_ | refine cond_fa ?_ | refine same_i ?_)
            conv => whnf
            rw [d4]
            conv => whnf
            refine final_h (hp' := []) [] h ?_
            repeat ((conv => whnf); refine same_i ?_)
            exact trivial
          · rw [decide_eq_false fun hh => h3 hh.2.2] at h
            have d4 : decide (long ≤ most) = false := decide_eq_false h3
            repeat ((conv => whnf); first | refine pre_a ?_ | refine cond_ta ?_ | refine cond_fa ?_ | refine same_i ?_)
            conv => whnf
            rw [d4]
            conv => whnf
            refine final_h (hp' := []) [] h ?_
            repeat ((conv => whnf); refine same_i ?_)
            exact trivial
        · rw [decide_eq_false fun hh => h2 hh.2.1] at h
          repeat ((conv => whnf); first | refine pre_a ?_ | refine cond_ta ?_ | refine cond_fa ?_ | refine same_i ?_)
          conv => whnf
          refine final_h (hp' := []) [] h ?_
          repeat ((conv => whnf); refine same_i ?_)
          exact trivial
      · rw [decide_eq_false fun hh => h1 hh.1] at h
        repeat ((conv => whnf); first | refine pre_a ?_ | refine cond_ta ?_ | refine cond_fa ?_ | refine same_i ?_)
        conv => whnf
        refine final_h (hp' := []) [] h ?_
        repeat ((conv => whnf); refine same_i ?_)
        exact trivial
    · exact h.elim
end Go.Sym.A

namespace Go.Sym.A
open Go Go.Proofs.Try Go.Sym.Lp Go.Sym.Gcm Go.Sym.Aes
set_option maxRecDepth 100000
attribute [local irreducible] gst gtg gH gW enc ks box
/-- the orders of the drawn regions of gcm.Seal -/
def pl21 : List (Nat × List PStep) := [(6, [⟨0, []⟩, ⟨1, []⟩, ⟨2, [0, 1]⟩, ⟨3, [0, 1, 2]⟩, ⟨4, [0, 1, 2, 3]⟩, ⟨5, [0, 1, 2, 3, 4]⟩, ⟨6, [0, 1]⟩, ⟨7, []⟩, ⟨8, []⟩, ⟨9, []⟩])]
/-- the orders of the drawn regions of gcm.Open -/
def pl37 : List (Nat × List PStep) := [(8, [⟨0, []⟩, ⟨1, [0]⟩, ⟨2, [0, 1]⟩, ⟨3, [0, 1, 2]⟩, ⟨5, [0, 1, 2, 3]⟩, ⟨6, [0, 1, 2, 3, 5]⟩, ⟨7, [0, 1, 2, 3]⟩, ⟨4, [5, 6, 7]⟩, ⟨8, []⟩])]

def kl (key : List UInt8) : Prop := key.length = 16 ∨ key.length = 32
instance (key : List UInt8) : Decidable (kl key) := by unfold kl; exact inferInstance
def gTag (key nonce aad b : List UInt8) : List UInt8 := gtg (gW key) (gR key) (gH (gW key) (gR key)) nonce aad b
theorem gTag_len (key nonce aad b : List UInt8) : (gTag key nonce aad b).length = 16 := by
  unfold gTag gtg; rw [gst_len, wr_len]
def gStr (key nonce s : List UInt8) : List UInt8 := gst (gW key) (gR key) nonce 2 s
theorem gStr_len (key nonce s : List UInt8) : (gStr key nonce s).length = s.length := gst_len _ _ _ _ _
def gSeal (key nonce aad s : List UInt8) : List UInt8 := gStr key nonce s ++ gTag key nonce aad (gStr key nonce s)
def gSealS : Spec := fun args hp K => match args, hp with
  | [.str key, .str nonce, .str aad, .str s], [] =>
      if (key.length = 16 ∨ key.length = 32) ∧ nonce.length = 12 ∧ aad.length ≤ 65536 ∧ (s.length : Int) ≤ 65536 then
        K (.tup [.str (gSeal key nonce aad s), .int 0]) []
      else K (.tup [.str [], .int 500]) []
  | _, _ => False
theorem gSeal_s : SoundC prog 21 gSealS := by
  refine sound_f tyGcm_ok (fnok_cons gcmNew_s (fnok_cons gmay_s (fnok_cons gxor_s (fnok_cons gtag_s fnok_nil)))) rfl func21 rfl call21 (D := pl21) ?_ ?_
  · intro args hp K h
    unfold gSealS at h
    split at h
    · exact Nat.le_of_ble_eq_true rfl
    · exact h.elim
  · intro args hp K h
    unfold gSealS at h
    split at h
    · rename_i key nonce aad s
      by_cases hk : key.length = 16 ∨ key.length = 32
      · have hdk := decide_eq_true hk
        have hWl := gW_len hk
        have hR : gR key = key.length / 4 + 7 := rfl
        by_cases h0 : nonce.length = 12 ∧ aad.length ≤ 65536 ∧ (s.length : Int) ≤ 65536
        · rw [if_pos ⟨hk, h0⟩] at h
          have hd := decide_eq_true h0
          have hsl : s.length ≤ 65536 := by omega
          have hst := gst_len (gW key) (gR key) nonce 2 s
          repeat ((conv => whnf); first | refine pre_a ?_ | refine cond_ta ?_ | refine cond_fa ?_ | refine same_i ?_ | refine pre_i (by first | exact hdk | exact hd | (rw [hd]; rfl)) ?_ | refine cond_t (by first | exact hdk | exact hd | (rw [hd]; rfl)) ?_ | refine cond_f (by first | exact hdk | exact hd | (rw [hd]; rfl)) ?_)
          conv => whnf
          refine all_i fun t1 => ?_
          repeat ((conv => whnf); first | refine pre_a ?_ | refine cond_ta ?_ | refine cond_fa ?_ | refine same_i ?_ | refine pre_i (by first | exact hdk | exact hd | (rw [hd]; rfl)) ?_ | refine cond_t (by first | exact hdk | exact hd | (rw [hd]; rfl)) ?_ | refine cond_f (by first | exact hdk | exact hd | (rw [hd]; rfl)) ?_)
          conv => whnf
          have e1 : List.take s.length (s ++ t1) = s := List.take_left' rfl
          have e2 : List.drop s.length (s ++ t1) = t1 := List.drop_left' rfl
          have hX : (gst (gW key) (gR key) nonce 2 (List.take s.length (s ++ t1)) ++ List.drop s.length (s ++ t1)) = gStr key nonce s ++ t1 := by rw [e1, e2]; rfl
          have hXl : (gst (gW key) (gR key) nonce 2 (List.take s.length (s ++ t1)) ++ List.drop s.length (s ++ t1)).length = s.length + t1.length := by rw [hX, List.length_append, gStr_len]
          have hp2 : off [] + s.length ≤ (gst (gW key) (gR key) nonce 2 (List.take s.length (s ++ t1)) ++ List.drop s.length (s ++ t1)).length := by rw [hXl]; show 0 + _ ≤ _; omega
          have hT : (List.take s.length (List.drop (off []) (gst (gW key) (gR key) nonce 2 (List.take s.length (s ++ t1)) ++ List.drop s.length (s ++ t1)))) = gStr key nonce s := by
            rw [hX]; show List.take _ (List.drop 0 _) = _; rw [List.drop_zero]; exact List.take_left' (gStr_len _ _ _)
          have hT2 : List.take s.length (gst (gW key) (gR key) nonce 2 (List.take s.length (s ++ t1)) ++ List.drop s.length (s ++ t1)) = gStr key nonce s := by
            rw [hX]; exact List.take_left' (gStr_len _ _ _)
          have hTl : (gtg (gW key) (gR key) ((gH (gW key) (gR key)).1, (gH (gW key) (gR key)).2) nonce aad (List.take s.length (gst (gW key) (gR key) nonce 2 (List.take s.length (s ++ t1)) ++ List.drop s.length (s ++ t1)))).length = 16 := by unfold gtg; rw [gst_len, wr_len]
          have hp4 : (List.take s.length (List.drop (off []) (gst (gW key) (gR key) nonce 2 (List.take s.length (s ++ t1)) ++ List.drop s.length (s ++ t1)))).length + (gtg (gW key) (gR key) ((gH (gW key) (gR key)).1, (gH (gW key) (gR key)).2) nonce aad (List.take s.length (gst (gW key) (gR key) nonce 2 (List.take s.length (s ++ t1)) ++ List.drop s.length (s ++ t1)))).length < 9223372036854775808 := by
            rw [hTl, List.length_take]; omega
          have hpt : box = box ∧ nonce.length = 12 ∧ 1 ≤ gR key ∧ gR key ≤ 100 ∧ 16 * gR key ≤ (gW key).length ∧ s.length ≤ (gst (gW key) (gR key) nonce 2 (List.take s.length (s ++ t1)) ++ List.drop s.length (s ++ t1)).length ∧ s.length ≤ s.length + t1.length ∧ aad.length ≤ 65536 ∧ s.length ≤ 70000 := ⟨rfl, h0.1, by omega, by omega, by omega, by rw [hXl]; omega, by omega, h0.2.1, by omega⟩
          have hfin : (List.take s.length (List.drop (off []) (gst (gW key) (gR key) nonce 2 (List.take s.length (s ++ t1)) ++ List.drop s.length (s ++ t1)))) ++ (gtg (gW key) (gR key) ((gH (gW key) (gR key)).1, (gH (gW key) (gR key)).2) nonce aad (List.take s.length (gst (gW key) (gR key) nonce 2 (List.take s.length (s ++ t1)) ++ List.drop s.length (s ++ t1)))) = gSeal key nonce aad s := by
            rw [hT, hT2]; rfl
          repeat ((conv => whnf); first | refine pre_a ?_ | refine cond_ta ?_ | refine cond_fa ?_ | refine same_i ?_)
          conv => whnf
          conv => whnf
          refine final_h (hp' := []) [] h ?_
          repeat ((conv => whnf); refine same_i ?_)
          conv => whnf
          refine same_q (congrArg (fun y => SV.tup [SV.str y, SV.int 0]) hfin) ?_
          repeat ((conv => whnf); refine same_i ?_)
          exact trivial
        · rw [if_neg fun hh => h0 hh.2] at h
          have hd := decide_eq_false h0
          repeat ((conv => whnf); first | refine pre_a ?_ | refine cond_ta ?_ | refine cond_fa ?_ | refine same_i ?_ | refine pre_i (by first | exact hdk | exact hd | (rw [hd]; rfl)) ?_ | refine cond_t (by first | exact hdk | exact hd | (rw [hd]; rfl)) ?_ | refine cond_f (by first | exact hdk | exact hd | (rw [hd]; rfl)) ?_)
          conv => whnf
          refine final_h (hp' := []) [] h ?_
          repeat ((conv => whnf); refine same_i ?_)
          exact trivial
      · rw [if_neg fun hh => hk hh.1] at h
        have hdk := decide_eq_false hk
        repeat ((conv => whnf); first | refine pre_a ?_ | refine cond_ta ?_ | refine cond_fa ?_ | refine same_i ?_ | refine pre_i (by first | exact hdk | (rw [hdk]; rfl)) ?_ | refine cond_t (by first | exact hdk | (rw [hdk]; rfl)) ?_ | refine cond_f (by first | exact hdk | (rw [hdk]; rfl)) ?_)
        conv => whnf
        refine final_h (hp' := []) [] h ?_
        repeat ((conv => whnf); refine same_i ?_)
        exact trivial
    · exact h.elim
def gOpenS : Spec := fun args hp K => match args, hp with
  | [.str key, .str nonce, .str aad, .str s], [] =>
      if (key.length = 16 ∨ key.length = 32) ∧ nonce.length = 12 ∧ aad.length ≤ 65536 ∧ (s.length : Int) ≤ 65552 then
        (if 16 ≤ s.length ∧ gTag key nonce aad (s.take (s.length - 16)) = s.drop (s.length - 16) then K (.tup [.str (gStr key nonce (s.take (s.length - 16))), .int 0]) []
        else K (.tup [.str [], .int 501]) [])
      else K (.tup [.str [], .int 500]) []
  | _, _ => False
theorem gOpen_s : SoundC prog 37 gOpenS := by
  refine sound_f tyGcm_ok (fnok_cons gcmNew_s (fnok_cons gmay_s (fnok_cons gxor_s (fnok_cons gtag_s fnok_nil)))) rfl func37 rfl call37 (D := pl37) ?_ ?_
  · intro args hp K h
    unfold gOpenS at h
    split at h
    · exact Nat.le_of_ble_eq_true rfl
    · exact h.elim
  · intro args hp K h
    unfold gOpenS at h
    split at h
    · rename_i key nonce aad s
      by_cases hk : key.length = 16 ∨ key.length = 32
      · have hdk := decide_eq_true hk
        have hWl := gW_len hk
        have hR : gR key = key.length / 4 + 7 := rfl
        by_cases h0 : nonce.length = 12 ∧ aad.length ≤ 65536 ∧ (s.length : Int) ≤ 65552
        · rw [if_pos ⟨hk, h0⟩] at h
          have hd := decide_eq_true h0
          by_cases h1 : 16 ≤ s.length
          · have hn : ((s.length : Int) - 16).toNat = s.length - 16 := by omega
            have d1 : decide ((s.length : Int) - 16 < 0) = false := decide_eq_false (by omega)
            repeat ((conv => whnf); first | refine pre_a ?_ | refine cond_ta ?_ | refine cond_fa ?_ | refine same_i ?_ | refine pre_i (by first | exact hdk | exact hd | (rw [hd]; rfl)) ?_ | refine cond_t (by first | exact hdk | exact hd | (rw [hd]; rfl)) ?_ | refine cond_f (by first | exact hdk | exact hd | (rw [hd]; rfl)) ?_)
            conv => whnf
            refine all_i fun t1 => ?_
            repeat ((conv => whnf); first | refine pre_a ?_ | refine cond_ta ?_ | refine cond_fa ?_ | refine same_i ?_ | refine pre_i (by first | exact hdk | exact hd | (rw [hd]; rfl)) ?_ | refine cond_t (by first | exact hdk | exact hd | (rw [hd]; rfl)) ?_ | refine cond_f (by first | exact hdk | exact hd | (rw [hd]; rfl)) ?_)
            conv => whnf
            have hTl : (List.take ((s.length : Int) - 16).toNat s).length = s.length - 16 := by rw [hn, List.length_take]; omega
            have hTk : (List.take (List.take ((s.length : Int) - 16).toNat s).length ((List.take ((s.length : Int) - 16).toNat s) ++ t1)) = s.take (s.length - 16) := by rw [List.take_left' rfl, hn]
            by_cases hq : gTag key nonce aad (s.take (s.length - 16)) = s.drop (s.length - 16)
            · rw [if_pos ⟨h1, hq⟩] at h
              have hdq : decide (gtg (gW key) (gR key) ((gH (gW key) (gR key)).1, (gH (gW key) (gR key)).2) nonce aad (List.take (List.take ((s.length : Int) - 16).toNat s).length ((List.take ((s.length : Int) - 16).toNat s) ++ t1)) = List.drop ((s.length : Int) - 16).toNat s) = true := decide_eq_true (by rw [hTk, hn]; exact hq)
              repeat ((conv => whnf); first | refine pre_a ?_ | refine cond_ta ?_ | refine cond_fa ?_ | refine same_i ?_ | refine pre_i (by first | exact hdq | (rw [hdq]; rfl)) ?_ | refine cond_t (by first | exact hdq | (rw [hdq]; rfl)) ?_ | refine cond_f (by first | exact hdq | (rw [hdq]; rfl)) ?_)
              conv => whnf
              have hX : (gst (gW key) (gR key) nonce 2 (List.take (List.take ((s.length : Int) - 16).toNat s).length ((List.take ((s.length : Int) - 16).toNat s) ++ t1)) ++ List.drop (List.take ((s.length : Int) - 16).toNat s).length ((List.take ((s.length : Int) - 16).toNat s) ++ t1)) = gStr key nonce (s.take (s.length - 16)) ++ t1 := by rw [hTk, List.drop_left' rfl]; rfl
              have hp3 : off [] + (List.take ((s.length : Int) - 16).toNat s).length ≤ (gst (gW key) (gR key) nonce 2 (List.take (List.take ((s.length : Int) - 16).toNat s).length ((List.take ((s.length : Int) - 16).toNat s) ++ t1)) ++ List.drop (List.take ((s.length : Int) - 16).toNat s).length ((List.take ((s.length : Int) - 16).toNat s) ++ t1)).length := by rw [hX, List.length_append, gStr_len, hTl, List.length_take]; show 0 + _ ≤ _; omega
              have hF : List.take (List.take ((s.length : Int) - 16).toNat s).length (List.drop (off []) (gst (gW key) (gR key) nonce 2 (List.take (List.take ((s.length : Int) - 16).toNat s).length ((List.take ((s.length : Int) - 16).toNat s) ++ t1)) ++ List.drop (List.take ((s.length : Int) - 16).toNat s).length ((List.take ((s.length : Int) - 16).toNat s) ++ t1))) = gStr key nonce (s.take (s.length - 16)) := by
                rw [hX, hTl]; show List.take _ (List.drop 0 _) = _; rw [List.drop_zero]; exact List.take_left' (by rw [gStr_len, List.length_take]; omega)
              repeat ((conv => whnf); first | refine pre_a ?_ | refine cond_ta ?_ | refine cond_fa ?_ | refine same_i ?_)
              conv => whnf
              conv => whnf
              refine final_h (hp' := []) [] h ?_
              repeat ((conv => whnf); refine same_i ?_)
              conv => whnf
              refine same_q (congrArg (fun y => SV.tup [SV.str y, SV.int 0]) hF) ?_
              repeat ((conv => whnf); refine same_i ?_)
              exact trivial
            · rw [if_neg fun hh => hq hh.2] at h
              have hdq : decide (gtg (gW key) (gR key) ((gH (gW key) (gR key)).1, (gH (gW key) (gR key)).2) nonce aad (List.take (List.take ((s.length : Int) - 16).toNat s).length ((List.take ((s.length : Int) - 16).toNat s) ++ t1)) = List.drop ((s.length : Int) - 16).toNat s) = false := decide_eq_false (by rw [hTk, hn]; exact hq)
              repeat ((conv => whnf); first | refine pre_a ?_ | refine cond_ta ?_ | refine cond_fa ?_ | refine same_i ?_ | refine pre_i (by first | exact hdq | (rw [hdq]; rfl)) ?_ | refine cond_t (by first | exact hdq | (rw [hdq]; rfl)) ?_ | refine cond_f (by first | exact hdq | (rw [hdq]; rfl)) ?_)
              conv => whnf
              refine final_h (hp' := []) [] h ?_
              repeat ((conv => whnf); refine same_i ?_)
              exact trivial
          · rw [if_neg fun hh => h1 hh.1] at h
            repeat ((conv => whnf); first | refine pre_a ?_ | refine cond_ta ?_ | refine cond_fa ?_ | refine same_i ?_ | refine pre_i (by first | exact hdk | exact hd | (rw [hd]; rfl)) ?_ | refine cond_t (by first | exact hdk | exact hd | (rw [hd]; rfl)) ?_ | refine cond_f (by first | exact hdk | exact hd | (rw [hd]; rfl)) ?_)
            conv => whnf
            refine final_h (hp' := []) [] h ?_
            repeat ((conv => whnf); refine same_i ?_)
            exact trivial
        · rw [if_neg fun hh => h0 hh.2] at h
          have hd := decide_eq_false h0
          repeat ((conv => whnf); first | refine pre_a ?_ | refine cond_ta ?_ | refine cond_fa ?_ | refine same_i ?_ | refine pre_i (by first | exact hdk | exact hd | (rw [hd]; rfl)) ?_ | refine cond_t (by first | exact hdk | exact hd | (rw [hd]; rfl)) ?_ | refine cond_f (by first | exact hdk | exact hd | (rw [hd]; rfl)) ?_)
          conv => whnf
          refine final_h (hp' := []) [] h ?_
          repeat ((conv => whnf); refine same_i ?_)
          exact trivial
      · rw [if_neg fun hh => hk hh.1] at h
        have hdk := decide_eq_false hk
        repeat ((conv => whnf); first | refine pre_a ?_ | refine cond_ta ?_ | refine cond_fa ?_ | refine same_i ?_ | refine pre_i (by first | exact hdk | (rw [hdk]; rfl)) ?_ | refine cond_t (by first | exact hdk | (rw [hdk]; rfl)) ?_ | refine cond_f (by first | exact hdk | (rw [hdk]; rfl)) ?_)
        conv => whnf
        refine final_h (hp' := []) [] h ?_
        repeat ((conv => whnf); refine same_i ?_)
        exact trivial
    · exact h.elim
end Go.Sym.A

/-
  Bits of whole numbers. Plain laws. No program in sight.
-/
namespace Go.Sym.Ib
open Go Go.Sym
theorem ibits_and {a m : Int} (h0 : 0 ≤ m) (h1 : m < 9223372036854775808) : 0 ≤ ibits .and a m ∧ ibits .and a m ≤ m := by
  unfold ibits
  dsimp only
  have hle : (BitVec.ofInt 64 a &&& BitVec.ofInt 64 m).toNat ≤ (BitVec.ofInt 64 m).toNat := by
    rw [BitVec.toNat_and]; exact Nat.and_le_right
  have hm : ((BitVec.ofInt 64 m).toNat : Int) = m := by
    rw [BitVec.toNat_ofInt]
    have : (2 ^ 64 : Nat) = 18446744073709551616 := by decide
    rw [this]
    omega
  rw [wrap_i64 _ (by unfold fits; omega)]
  omega
theorem ibits_255 {a : Int} (h : 0 ≤ a) : ibits .and a 255 = a % 256 := by
  have hb := ibits_and (a := a) (m := 255) (by decide) (by decide)
  unfold ibits at hb ⊢
  dsimp only at hb ⊢
  have hle : (BitVec.ofInt 64 a &&& BitVec.ofInt 64 255).toNat = (BitVec.ofInt 64 a).toNat % 256 := by
    rw [BitVec.toNat_and]; exact Nat.and_two_pow_sub_one_eq_mod _ 8
  rw [hle, wrap_i64 _ (by unfold fits; omega), BitVec.toNat_ofInt]
  have : (2 ^ 64 : Nat) = 18446744073709551616 := by decide
  rw [this]
  omega

theorem u8_255 {a : Int} (h : 0 ≤ a) : UInt8.ofInt (ibits .and a 255) = UInt8.ofInt a := by
  rw [ibits_255 h]
  apply UInt8.toNat_inj.1
  have h1 := ofInt_8 (a % 256)
  have h2 := ofInt_8 a
  omega
theorem ibits_or {a b : Nat} (ha : a < 9223372036854775808) (hb : b < 9223372036854775808) (h : a ||| b < 9223372036854775808) : ibits .or (a : Int) (b : Int) = ((a ||| b : Nat) : Int) := by
  unfold ibits
  dsimp only
  have e : (2 ^ 64 : Nat) = 18446744073709551616 := by decide
  have e1 : (BitVec.ofInt 64 (a : Int)).toNat = a := by rw [BitVec.toNat_ofInt, e]; omega
  have e2 : (BitVec.ofInt 64 (b : Int)).toNat = b := by rw [BitVec.toNat_ofInt, e]; omega
  rw [BitVec.toNat_or, e1, e2, wrap_i64 _ (by unfold fits; omega)]
theorem ibits_or_bit {a c k : Nat} (h : a < 2 ^ k) (hc : c ≤ 1) (hk : k < 8) : ibits .or (a : Int) ((c : Int) * 2 ^ k) = ((a + c * 2 ^ k : Nat) : Int) := by
  have hp : 2 ^ k ≤ 2 ^ 7 := Nat.pow_le_pow_right (by decide) (by omega)
  have hcm : c * 2 ^ k ≤ 1 * 2 ^ 7 := Nat.mul_le_mul hc hp
  have e : 2 ^ k * c ||| a = 2 ^ k * c + a := (Nat.two_pow_add_eq_or_of_lt h c).symm
  have eo : a ||| c * 2 ^ k = a + c * 2 ^ k := by rw [Nat.or_comm, Nat.mul_comm c, e, Nat.add_comm]
  have ec : ((c : Int) * 2 ^ k) = ((c * 2 ^ k : Nat) : Int) := by rw [Int.natCast_mul, Int.natCast_pow]; rfl
  rw [ec, ibits_or (by omega) (by omega) (by rw [eo]; omega), eo]
end Go.Sym.Ib

namespace Go.Sym.A
open Go Go.Proofs.Try Go.Sym.Lp Go.Sym.Gcm Go.Sym.Aes
set_option maxRecDepth 100000
attribute [local irreducible] ldE half hf4 fold enc ks box wlSt tmX tmA
/-- the orders of the drawn regions of ref1.Be -/
def pl94 : List (Nat × List PStep) := []
/-- the orders of the drawn regions of ref4.halves -/
def pl115 : List (Nat × List PStep) := []
/-- the orders of the drawn regions of ref4.whole -/
def pl117 : List (Nat × List PStep) := []
/-- the orders of the drawn regions of ref4.times -/
def pl116 : List (Nat × List PStep) := []

/-- a number's bytes, so many of the last ones written -/
def beSt (x : Int) (s k : Nat) : List UInt8 := (List.range s).map fun j => if s ≤ j + k then UInt8.ofInt (x / 2 ^ (8 * (s - 1 - j))) else 0
theorem beSt_len (x : Int) (s k : Nat) : (beSt x s k).length = s := map_range_len _ _
theorem be_set {x : Int} {s k : Nat} (h : k < s) {v : UInt8} (hv : v = UInt8.ofInt (x / 2 ^ (8 * k))) {j : Nat} (hj : j = s - 1 - k) : (beSt x s k).set j v = beSt x s (k + 1) := by
  subst hv hj
  unfold beSt
  apply List.ext_getElem?
  intro i
  rw [List.getElem?_set]
  by_cases hi : s - 1 - k = i
  · rw [if_pos hi, if_pos (by simp; omega), List.getElem?_map, List.getElem?_range (by omega), Option.map_some, if_pos (by omega), show s - 1 - i = k by omega]
  · rw [if_neg hi, List.getElem?_map, List.getElem?_map]
    by_cases h2 : i < s
    · rw [List.getElem?_range h2, Option.map_some, Option.map_some]
      by_cases h3 : s ≤ i + k
      · rw [if_pos h3, if_pos (by omega)]
      · rw [if_neg h3, if_neg (by omega)]
    · rw [List.getElem?_eq_none (show (List.range s).length ≤ i by simp; omega)]; rfl
theorem be_zero (x : Int) (s : Nat) : beSt x s 0 = List.replicate s 0 := by
  unfold beSt
  apply List.ext_getElem?
  intro i
  rw [List.getElem?_map, List.getElem?_replicate]
  by_cases h : i < s
  · rw [List.getElem?_range h, if_pos h, Option.map_some, if_neg (by omega)]
  · rw [List.getElem?_eq_none (by simp; omega), if_neg h]; rfl
theorem be_all (x : Int) (s : Nat) : beSt x s s = beB x s := by
  unfold beSt beB
  exact map_range_congr fun j hj => if_pos (by omega)
def beS : Spec := fun args hp K => match args, hp with
  | [.int x, .int s], [] => Pre (0 ≤ x ∧ x < 9223372036854775808 ∧ 0 ≤ s ∧ s ≤ 64) (K (.str (beB x s.toNat)) [])
  | _, _ => False
theorem be_s : SoundC prog 94 beS := by
  refine sound_f tyGcm_ok fnok_nil rfl func94 rfl call94 (D := pl94) ?_ ?_
  · intro args hp K h
    unfold beS at h
    split at h
    · exact Nat.le_of_ble_eq_true rfl
    · exact h.elim
  · intro args hp K h
    unfold beS at h
    split at h
    · rename_i x s
      obtain ⟨⟨hx, hx2, hs, hs2⟩, h⟩ := pre_e h
      obtain ⟨n, rfl⟩ := Int.eq_ofNat_of_zero_le hs
      rw [Int.toNat_natCast] at h
      have hnn : ((n : Int)).toNat = n := Int.toNat_natCast _
      repeat ((conv => whnf); first | refine pre_a ?_ | refine cond_ta ?_ | refine cond_fa ?_ | refine same_i ?_)
      conv => whnf
      refine loop_h (Ix (n)) (fun q => ⟨[(0, .int (x / 2 ^ (8 * q.i))), (5, .sl 0 0 0 [] n n), (6, .int ((n : Int) - 1 - q.i))], [.mk 5 [.arr8 n (beSt x n q.i)]]⟩) (fun q => (n) - q.i) ⟨0, Nat.zero_le _⟩ [0] ?_ ?_
      · repeat ((conv => whnf); refine same_i ?_)
        conv => whnf
        refine same_q (congrArg (fun x => SV.agg [SV.arr8 n x]) (be_zero x n).symm) ?_
        repeat ((conv => whnf); refine same_i ?_)
        conv => whnf
        refine same_q (congrArg SV.int (show x = x / 2 ^ (8 * 0) by rw [Nat.mul_zero, Int.pow_zero, Int.ediv_one])) ?_
        repeat ((conv => whnf); refine same_i ?_)
        conv => whnf
        refine same_q (congrArg SV.int (show (n : Int) - 1 = (n : Int) - 1 - ((0 : Nat) : Int) by omega)) ?_
        repeat ((conv => whnf); refine same_i ?_)
        exact trivial
      · intro q
        have hi := q.hi
        have hl := beSt_len x n q.i
        have hq0 : 0 ≤ x / 2 ^ (8 * q.i) := Int.ediv_nonneg hx (Int.le_of_lt (Int.pow_pos (by decide)))
        have hq1 : x / 2 ^ (8 * q.i) ≤ x := Int.ediv_le_self _ hx
        have hI : ((n : Int) - 1 - (q.i : Int)).toNat = n - 1 - q.i := by omega
        by_cases h4 : q.i < n
        · repeat ((conv => whnf); first | refine pre_a ?_ | refine cond_ta ?_ | refine cond_fa ?_ | refine same_i ?_)
          conv => whnf
          conv => whnf
          refine ⟨⟨q.i + 1, h4⟩, [0], by show (n) - (q.i + 1) < (n) - q.i; omega, ?_⟩
          repeat ((conv => whnf); refine same_i ?_)
          conv => whnf
          refine same_q (congrArg (fun x => SV.agg [SV.arr8 n x]) (be_set h4 ?hv ?hj)) ?_
          case hj => show ((n : Int) - 1 - (q.i : Int)).toNat = n - 1 - q.i; omega
          case hv => exact Go.Sym.Ib.u8_255 hq0
          repeat ((conv => whnf); refine same_i ?_)
          conv => whnf
          refine same_q (congrArg SV.int (show x / 2 ^ (8 * q.i) / 2 ^ 8 = x / 2 ^ (8 * (q.i + 1)) by rw [Int.ediv_ediv_of_nonneg (Int.le_of_lt (Int.pow_pos (by decide))), ← Int.pow_add]; rfl)) ?_
          repeat ((conv => whnf); refine same_i ?_)
          conv => whnf
          refine same_q (congrArg SV.int (show (n : Int) - 1 - (q.i : Int) - 1 = (n : Int) - 1 - ((q.i + 1 : Nat) : Int) by omega)) ?_
          repeat ((conv => whnf); refine same_i ?_)
          exact trivial
        · have e4 : q.i = n := by omega
          rw [e4]
          have hbl := beSt_len x n n
          have hp1 : off [] + n ≤ (beSt x n n).length := by rw [hbl]; show 0 + _ ≤ _; omega
          have hT : List.take n (List.drop (off []) (beSt x n n)) = beB x n := by rw [be_all]; exact List.take_of_length_le (Nat.le_of_eq (beB_len x n))
          repeat ((conv => whnf); first | refine pre_a ?_ | refine cond_ta ?_ | refine cond_fa ?_ | refine same_i ?_)
          conv => whnf
          refine final_h (hp' := []) [] h ?_
          repeat ((conv => whnf); refine same_i ?_)
          conv => whnf
          refine same_q (congrArg SV.str hT) ?_
          repeat ((conv => whnf); refine same_i ?_)
          exact trivial
    · exact h.elim
def halvesS : Spec := fun args hp K => match args, hp with
  | [.str s], [] => Pre (s.length = 16) (K (.tup [.u64 (ld s).1, .u64 (ld s).2]) [])
  | _, _ => False
theorem halves_s : SoundC prog 115 halvesS := by
  refine sound_f tyGcm_ok fnok_nil rfl func115 rfl call115 (D := pl115) ?_ ?_
  · intro args hp K h
    unfold halvesS at h
    split at h
    · exact Nat.le_of_ble_eq_true rfl
    · exact h.elim
  · intro args hp K h
    unfold halvesS at h
    split at h
    · rename_i s
      obtain ⟨hs, h⟩ := pre_e h
      repeat ((conv => whnf); first | refine pre_a ?_ | refine cond_ta ?_ | refine cond_fa ?_ | refine same_i ?_)
      conv => whnf
      refine loop_h (Ix (8)) (fun q => ⟨[(0, .str s), (4, .u64 (ldE s q.i).1), (5, .u64 (ldE s q.i).2), (6, .int q.i)], []⟩) (fun q => (8) - q.i) ⟨0, Nat.zero_le _⟩ [] ?_ ?_
      · repeat ((conv => whnf); refine same_i ?_)
        conv => whnf
        refine same_q (congrArg (fun e : El => SV.u64 e.1) (show z0 = ldE _ 0 by unfold ldE; rfl)) ?_
        repeat ((conv => whnf); refine same_i ?_)
        conv => whnf
        refine same_q (congrArg (fun e : El => SV.u64 e.2) (show z0 = ldE _ 0 by unfold ldE; rfl)) ?_
        repeat ((conv => whnf); refine same_i ?_)
        exact trivial
      · intro q
        have hi := q.hi
        have hI : ((q.i : Int)).toNat = q.i := Int.toNat_natCast _
        have hJ : ((8 : Int) + (q.i : Int)).toNat = 8 + q.i := by omega
        by_cases h4 : q.i < 8
        · repeat ((conv => whnf); first | refine pre_a ?_ | refine cond_ta ?_ | refine cond_fa ?_ | refine same_i ?_)
          conv => whnf
          refine ⟨⟨q.i + 1, h4⟩, [], by show (8) - (q.i + 1) < (8) - q.i; omega, ?_⟩
          repeat ((conv => whnf); refine same_i ?_)
          conv => whnf
          refine same_q (congrArg SV.u64 (show _ = (ldE s (q.i + 1)).1 by simp only [ldE]; rw [← hI]; rfl)) ?_
          repeat ((conv => whnf); refine same_i ?_)
          conv => whnf
          refine same_q (congrArg SV.u64 (show _ = (ldE s (q.i + 1)).2 by simp only [ldE]; rw [← hJ]; rfl)) ?_
          repeat ((conv => whnf); refine same_i ?_)
          exact trivial
        · have e4 : q.i = 8 := by omega
          have hL : ldE s 8 = ld s := by unfold ld; rfl
          rw [e4, hL]
          repeat ((conv => whnf); first | refine pre_a ?_ | refine cond_ta ?_ | refine cond_fa ?_ | refine same_i ?_)
          conv => whnf
          refine final_h (hp' := []) [] h ?_
          repeat ((conv => whnf); refine same_i ?_)
          exact trivial
    · exact h.elim
def gwholeS : Spec := fun args hp K => match args, hp with
  | [.u64 a, .u64 b], [] => K (.str (wr (a, b))) []
  | _, _ => False
theorem gwhole_s : SoundC prog 117 gwholeS := by
  refine sound_f tyGcm_ok fnok_nil rfl func117 rfl call117 (D := pl117) ?_ ?_
  · intro args hp K h
    unfold gwholeS at h
    split at h
    · exact Nat.le_of_ble_eq_true rfl
    · exact h.elim
  · intro args hp K h
    unfold gwholeS at h
    split at h
    · rename_i a b
      repeat ((conv => whnf); first | refine pre_a ?_ | refine cond_ta ?_ | refine cond_fa ?_ | refine same_i ?_)
      conv => whnf
      refine loop_h (Ix (8)) (fun q => ⟨[(0, .u64 (sr8 a q.i)), (1, .u64 (sr8 b q.i)), (5, .sl 0 0 0 [] 16 16), (6, .int (7 - (q.i : Int)))], [.mk 5 [.arr8 16 (wlSt (a, b) q.i)]]⟩) (fun q => (8) - q.i) ⟨0, Nat.zero_le _⟩ [0] ?_ ?_
      · repeat ((conv => whnf); refine same_i ?_)
        conv => whnf
        refine same_q (congrArg (fun x => SV.agg [SV.arr8 16 x]) (show _ = wlSt (a, b) 0 by unfold wlSt; rfl)) ?_
        repeat ((conv => whnf); refine same_i ?_)
        exact trivial
      · intro q
        have hi := q.hi
        have hl := wlSt_len (a, b) q.i
        have hA : ((7 : Int) - (q.i : Int)).toNat = 7 - q.i := by omega
        have hB : ((8 : Int) + ((7 : Int) - (q.i : Int))).toNat = 15 - q.i := by omega
        by_cases h4 : q.i < 8
        · repeat ((conv => whnf); first | refine pre_a ?_ | refine cond_ta ?_ | refine cond_fa ?_ | refine same_i ?_)
          conv => whnf
          conv => whnf
          refine ⟨⟨q.i + 1, h4⟩, [0], by show (8) - (q.i + 1) < (8) - q.i; omega, ?_⟩
          repeat ((conv => whnf); refine same_i ?_)
          conv => whnf
          refine same_q (congrArg (fun x => SV.agg [SV.arr8 16 x]) (show _ = wlSt (a, b) (q.i + 1) by simp only [wlSt]; rw [← hA, ← hB]; rfl)) ?_
          repeat ((conv => whnf); refine same_i ?_)
          conv => whnf
          refine same_q (congrArg SV.int (show (7 : Int) - (q.i : Int) - 1 = 7 - ((q.i + 1 : Nat) : Int) by omega)) ?_
          repeat ((conv => whnf); refine same_i ?_)
          exact trivial
        · have e4 : q.i = 8 := by omega
          rw [e4] at hl
          rw [e4]
          repeat ((conv => whnf); first | refine pre_a ?_ | refine cond_ta ?_ | refine cond_fa ?_ | refine same_i ?_)
          conv => whnf
          have hT : List.take 16 (List.drop (off []) (wlSt (a, b) 8)) = wr (a, b) := by rw [← wl_wr]; exact List.take_of_length_le (Nat.le_of_eq hl)
          conv => whnf
          refine final_h (hp' := []) [] h ?_
          repeat ((conv => whnf); refine same_i ?_)
          conv => whnf
          refine same_q (congrArg SV.str hT) ?_
          repeat ((conv => whnf); refine same_i ?_)
          exact trivial
    · exact h.elim
theorem half_one {c d : UInt64} (h : d &&& 1 = 1) : half (c, d) = (c >>> 1 ^^^ R64, d >>> 1 ||| c <<< 63) := by
  unfold half msk
  rw [h]
  rfl
theorem half_nil {c d : UInt64} (h : ¬ d &&& 1 = 1) : half (c, d) = (c >>> 1, d >>> 1 ||| c <<< 63) := by
  have h0 : d &&& 1 = 0 := (and1 d).resolve_right h
  unfold half msk
  rw [h0]
  show (c >>> 1 ^^^ (R64 &&& (0 - 0)), _) = _
  rw [show R64 &&& (0 - 0) = 0 by decide, UInt64.xor_zero]
theorem tmA_s (a : UInt64) (i : Nat) : tmA a (i + 1) = tmA a i <<< 1 := by rw [tmA]
theorem tmX_t {a c : El} {i : Nat} (h : tmBit a i = 1) : tmX a c (i + 1) = xr (tmX a c i) (Nat.repeat half i c) := by rw [tmX, if_pos h]
theorem tmX_f {a c : El} {i : Nat} (h : ¬ tmBit a i = 1) : tmX a c (i + 1) = tmX a c i := by rw [tmX, if_neg h]
def gtimesS : Spec := fun args hp K => match args, hp with
  | [.u64 a, .u64 b, .u64 c, .u64 d], [] => K (.tup [.u64 (gmul (c, d) (a, b)).1, .u64 (gmul (c, d) (a, b)).2]) []
  | _, _ => False
set_option maxHeartbeats 4000000 in
theorem gtimes_s : SoundC prog 116 gtimesS := by
  refine sound_f tyGcm_ok fnok_nil rfl func116 rfl call116 (D := pl116) ?_ ?_
  · intro args hp K h
    unfold gtimesS at h
    split at h
    · exact Nat.le_of_ble_eq_true rfl
    · exact h.elim
  · intro args hp K h
    unfold gtimesS at h
    split at h
    · rename_i a b c d
      rw [← tmX_eq] at h
      repeat ((conv => whnf); first | refine pre_a ?_ | refine cond_ta ?_ | refine cond_fa ?_ | refine same_i ?_)
      conv => whnf
      refine loop_h (Ix (128)) (fun q => ⟨[(0, .u64 (tmA a (min q.i 64))), (1, .u64 (tmA b (q.i - 64))), (2, .u64 (Nat.repeat half q.i (c, d)).1), (3, .u64 (Nat.repeat half q.i (c, d)).2), (10, .u64 (tmX (a, b) (c, d) q.i).1), (11, .u64 (tmX (a, b) (c, d) q.i).2), (12, .int q.i)], []⟩) (fun q => (128) - q.i) ⟨0, Nat.zero_le _⟩ [] ?_ ?_
      · repeat ((conv => whnf); refine same_i ?_)
        conv => whnf
        refine same_q (congrArg SV.u64 (show a = tmA a (min 0 64) by rw [Nat.zero_min]; unfold tmA; rfl)) ?_
        repeat ((conv => whnf); refine same_i ?_)
        conv => whnf
        refine same_q (congrArg SV.u64 (show b = tmA b (0 - 64) by rw [Nat.zero_sub]; unfold tmA; rfl)) ?_
        repeat ((conv => whnf); refine same_i ?_)
        conv => whnf
        refine same_q (congrArg (fun e : El => SV.u64 e.1) (show z0 = tmX (a, b) (c, d) 0 by unfold tmX; rfl)) ?_
        repeat ((conv => whnf); refine same_i ?_)
        conv => whnf
        refine same_q (congrArg (fun e : El => SV.u64 e.2) (show z0 = tmX (a, b) (c, d) 0 by unfold tmX; rfl)) ?_
        repeat ((conv => whnf); refine same_i ?_)
        exact trivial
      · intro q
        have hi := q.hi
        have hrep : Nat.repeat half (q.i + 1) (c, d) = half ((Nat.repeat half q.i (c, d)).1, (Nat.repeat half q.i (c, d)).2) := rfl
        by_cases h4 : q.i < 128
        · by_cases h63 : 63 < q.i
          · have hbt : tmBit (a, b) q.i = tmA b (q.i - 64) >>> UInt64.ofNat (UInt64.ofNat 63).toNat := by unfold tmBit; rw [if_pos h63]; rfl
            by_cases hb : tmBit (a, b) q.i = 1
            · have hdb : decide (tmA b (q.i - 64) >>> UInt64.ofNat (UInt64.ofNat 63).toNat = UInt64.ofNat 1) = true := decide_eq_true (by rw [← hbt]; exact hb)
              have hX := tmX_t (c := (c, d)) hb
              by_cases hw : (Nat.repeat half q.i (c, d)).2 &&& 1 = 1
              · have hdl : decide ((Nat.repeat half q.i (c, d)).2 &&& UInt64.ofNat 1 = UInt64.ofNat 1) = true := decide_eq_true hw
                have hH := half_one (c := (Nat.repeat half q.i (c, d)).1) hw
                rw [← hrep] at hH
                repeat ((conv => whnf); first | refine pre_a ?_ | refine cond_ta ?_ | refine cond_fa ?_ | refine same_i ?_ | refine pre_i (by first | exact hdb | exact hdl) ?_ | refine cond_t (by first | exact hdb | exact hdl) ?_ | refine cond_f (by first | exact hdb | exact hdl) ?_)
                conv => whnf
                conv => whnf
                refine ⟨⟨q.i + 1, h4⟩, [], by show (128) - (q.i + 1) < (128) - q.i; omega, ?_⟩
                repeat ((conv => whnf); refine same_i ?_)
                conv => whnf
                refine same_q (congrArg SV.u64 (show tmA a (min q.i 64) = tmA a (min (q.i + 1) 64) by rw [show min q.i 64 = min (q.i + 1) 64 by omega])) ?_
                repeat ((conv => whnf); refine same_i ?_)
                conv => whnf
                refine same_q (congrArg SV.u64 (show tmA b (q.i - 64) <<< 1 = tmA b (q.i + 1 - 64) by rw [show q.i + 1 - 64 = (q.i - 64) + 1 by omega]; exact (tmA_s b _).symm)) ?_
                repeat ((conv => whnf); refine same_i ?_)
                conv => whnf
                refine same_q (congrArg SV.u64 (show _ = (Nat.repeat half (q.i + 1) (c, d)).1 by rw [hH] <;> rfl)) ?_
                repeat ((conv => whnf); refine same_i ?_)
                conv => whnf
                refine same_q (congrArg SV.u64 (show _ = (Nat.repeat half (q.i + 1) (c, d)).2 by rw [hH] <;> rfl)) ?_
                repeat ((conv => whnf); refine same_i ?_)
                conv => whnf
                refine same_q (congrArg SV.u64 (show _ = (tmX (a, b) (c, d) (q.i + 1)).1 by rw [hX] <;> rfl)) ?_
                repeat ((conv => whnf); refine same_i ?_)
                conv => whnf
                refine same_q (congrArg SV.u64 (show _ = (tmX (a, b) (c, d) (q.i + 1)).2 by rw [hX] <;> rfl)) ?_
                repeat ((conv => whnf); refine same_i ?_)
                exact trivial
              · have hdl : decide ((Nat.repeat half q.i (c, d)).2 &&& UInt64.ofNat 1 = UInt64.ofNat 1) = false := decide_eq_false hw
                have hH := half_nil (c := (Nat.repeat half q.i (c, d)).1) hw
                rw [← hrep] at hH
                repeat ((conv => whnf); first | refine pre_a ?_ | refine cond_ta ?_ | refine cond_fa ?_ | refine same_i ?_ | refine pre_i (by first | exact hdb | exact hdl) ?_ | refine cond_t (by first | exact hdb | exact hdl) ?_ | refine cond_f (by first | exact hdb | exact hdl) ?_)
                conv => whnf
                conv => whnf
                refine ⟨⟨q.i + 1, h4⟩, [], by show (128) - (q.i + 1) < (128) - q.i; omega, ?_⟩
                repeat ((conv => whnf); refine same_i ?_)
                conv => whnf
                refine same_q (congrArg SV.u64 (show tmA a (min q.i 64) = tmA a (min (q.i + 1) 64) by rw [show min q.i 64 = min (q.i + 1) 64 by omega])) ?_
                repeat ((conv => whnf); refine same_i ?_)
                conv => whnf
                refine same_q (congrArg SV.u64 (show tmA b (q.i - 64) <<< 1 = tmA b (q.i + 1 - 64) by rw [show q.i + 1 - 64 = (q.i - 64) + 1 by omega]; exact (tmA_s b _).symm)) ?_
                repeat ((conv => whnf); refine same_i ?_)
                conv => whnf
                refine same_q (congrArg SV.u64 (show _ = (Nat.repeat half (q.i + 1) (c, d)).1 by rw [hH] <;> rfl)) ?_
                repeat ((conv => whnf); refine same_i ?_)
                conv => whnf
                refine same_q (congrArg SV.u64 (show _ = (Nat.repeat half (q.i + 1) (c, d)).2 by rw [hH] <;> rfl)) ?_
                repeat ((conv => whnf); refine same_i ?_)
                conv => whnf
                refine same_q (congrArg SV.u64 (show _ = (tmX (a, b) (c, d) (q.i + 1)).1 by rw [hX] <;> rfl)) ?_
                repeat ((conv => whnf); refine same_i ?_)
                conv => whnf
                refine same_q (congrArg SV.u64 (show _ = (tmX (a, b) (c, d) (q.i + 1)).2 by rw [hX] <;> rfl)) ?_
                repeat ((conv => whnf); refine same_i ?_)
                exact trivial
            · have hdb : decide (tmA b (q.i - 64) >>> UInt64.ofNat (UInt64.ofNat 63).toNat = UInt64.ofNat 1) = false := decide_eq_false (by rw [← hbt]; exact hb)
              have hX := tmX_f (c := (c, d)) hb
              by_cases hw : (Nat.repeat half q.i (c, d)).2 &&& 1 = 1
              · have hdl : decide ((Nat.repeat half q.i (c, d)).2 &&& UInt64.ofNat 1 = UInt64.ofNat 1) = true := decide_eq_true hw
                have hH := half_one (c := (Nat.repeat half q.i (c, d)).1) hw
                rw [← hrep] at hH
                repeat ((conv => whnf); first | refine pre_a ?_ | refine cond_ta ?_ | refine cond_fa ?_ | refine same_i ?_ | refine pre_i (by first | exact hdb | exact hdl) ?_ | refine cond_t (by first | exact hdb | exact hdl) ?_ | refine cond_f (by first | exact hdb | exact hdl) ?_)
                conv => whnf
                conv => whnf
                refine ⟨⟨q.i + 1, h4⟩, [], by show (128) - (q.i + 1) < (128) - q.i; omega, ?_⟩
                repeat ((conv => whnf); refine same_i ?_)
                conv => whnf
                refine same_q (congrArg SV.u64 (show tmA a (min q.i 64) = tmA a (min (q.i + 1) 64) by rw [show min q.i 64 = min (q.i + 1) 64 by omega])) ?_
                repeat ((conv => whnf); refine same_i ?_)
                conv => whnf
                refine same_q (congrArg SV.u64 (show tmA b (q.i - 64) <<< 1 = tmA b (q.i + 1 - 64) by rw [show q.i + 1 - 64 = (q.i - 64) + 1 by omega]; exact (tmA_s b _).symm)) ?_
                repeat ((conv => whnf); refine same_i ?_)
                conv => whnf
                refine same_q (congrArg SV.u64 (show _ = (Nat.repeat half (q.i + 1) (c, d)).1 by rw [hH] <;> rfl)) ?_
                repeat ((conv => whnf); refine same_i ?_)
                conv => whnf
                refine same_q (congrArg SV.u64 (show _ = (Nat.repeat half (q.i + 1) (c, d)).2 by rw [hH] <;> rfl)) ?_
                repeat ((conv => whnf); refine same_i ?_)
                conv => whnf
                refine same_q (congrArg SV.u64 (show _ = (tmX (a, b) (c, d) (q.i + 1)).1 by rw [hX] <;> rfl)) ?_
                repeat ((conv => whnf); refine same_i ?_)
                conv => whnf
                refine same_q (congrArg SV.u64 (show _ = (tmX (a, b) (c, d) (q.i + 1)).2 by rw [hX] <;> rfl)) ?_
                repeat ((conv => whnf); refine same_i ?_)
                exact trivial
              · have hdl : decide ((Nat.repeat half q.i (c, d)).2 &&& UInt64.ofNat 1 = UInt64.ofNat 1) = false := decide_eq_false hw
                have hH := half_nil (c := (Nat.repeat half q.i (c, d)).1) hw
                rw [← hrep] at hH
                repeat ((conv => whnf); first | refine pre_a ?_ | refine cond_ta ?_ | refine cond_fa ?_ | refine same_i ?_ | refine pre_i (by first | exact hdb | exact hdl) ?_ | refine cond_t (by first | exact hdb | exact hdl) ?_ | refine cond_f (by first | exact hdb | exact hdl) ?_)
                conv => whnf
                conv => whnf
                refine ⟨⟨q.i + 1, h4⟩, [], by show (128) - (q.i + 1) < (128) - q.i; omega, ?_⟩
                repeat ((conv => whnf); refine same_i ?_)
                conv => whnf
                refine same_q (congrArg SV.u64 (show tmA a (min q.i 64) = tmA a (min (q.i + 1) 64) by rw [show min q.i 64 = min (q.i + 1) 64 by omega])) ?_
                repeat ((conv => whnf); refine same_i ?_)
                conv => whnf
                refine same_q (congrArg SV.u64 (show tmA b (q.i - 64) <<< 1 = tmA b (q.i + 1 - 64) by rw [show q.i + 1 - 64 = (q.i - 64) + 1 by omega]; exact (tmA_s b _).symm)) ?_
                repeat ((conv => whnf); refine same_i ?_)
                conv => whnf
                refine same_q (congrArg SV.u64 (show _ = (Nat.repeat half (q.i + 1) (c, d)).1 by rw [hH] <;> rfl)) ?_
                repeat ((conv => whnf); refine same_i ?_)
                conv => whnf
                refine same_q (congrArg SV.u64 (show _ = (Nat.repeat half (q.i + 1) (c, d)).2 by rw [hH] <;> rfl)) ?_
                repeat ((conv => whnf); refine same_i ?_)
                conv => whnf
                refine same_q (congrArg SV.u64 (show _ = (tmX (a, b) (c, d) (q.i + 1)).1 by rw [hX] <;> rfl)) ?_
                repeat ((conv => whnf); refine same_i ?_)
                conv => whnf
                refine same_q (congrArg SV.u64 (show _ = (tmX (a, b) (c, d) (q.i + 1)).2 by rw [hX] <;> rfl)) ?_
                repeat ((conv => whnf); refine same_i ?_)
                exact trivial
          · have hbt : tmBit (a, b) q.i = tmA a (min q.i 64) >>> UInt64.ofNat (UInt64.ofNat 63).toNat := by unfold tmBit; rw [if_neg h63, show min q.i 64 = q.i by omega]; rfl
            by_cases hb : tmBit (a, b) q.i = 1
            · have hdb : decide (tmA a (min q.i 64) >>> UInt64.ofNat (UInt64.ofNat 63).toNat = UInt64.ofNat 1) = true := decide_eq_true (by rw [← hbt]; exact hb)
              have hX := tmX_t (c := (c, d)) hb
              by_cases hw : (Nat.repeat half q.i (c, d)).2 &&& 1 = 1
              · have hdl : decide ((Nat.repeat half q.i (c, d)).2 &&& UInt64.ofNat 1 = UInt64.ofNat 1) = true := decide_eq_true hw
                have hH := half_one (c := (Nat.repeat half q.i (c, d)).1) hw
                rw [← hrep] at hH
                repeat ((conv => whnf); first | refine pre_a ?_ | refine cond_ta ?_ | refine cond_fa ?_ | refine same_i ?_ | refine pre_i (by first | exact hdb | exact hdl) ?_ | refine cond_t (by first | exact hdb | exact hdl) ?_ | refine cond_f (by first | exact hdb | exact hdl) ?_)
                conv => whnf
                conv => whnf
                refine ⟨⟨q.i + 1, h4⟩, [], by show (128) - (q.i + 1) < (128) - q.i; omega, ?_⟩
                repeat ((conv => whnf); refine same_i ?_)
                conv => whnf
                refine same_q (congrArg SV.u64 (show tmA a (min q.i 64) <<< 1 = tmA a (min (q.i + 1) 64) by rw [show min (q.i + 1) 64 = min q.i 64 + 1 by omega]; exact (tmA_s a _).symm)) ?_
                repeat ((conv => whnf); refine same_i ?_)
                conv => whnf
                refine same_q (congrArg SV.u64 (show tmA b (q.i - 64) = tmA b (q.i + 1 - 64) by rw [show q.i + 1 - 64 = q.i - 64 by omega])) ?_
                repeat ((conv => whnf); refine same_i ?_)
                conv => whnf
                refine same_q (congrArg SV.u64 (show _ = (Nat.repeat half (q.i + 1) (c, d)).1 by rw [hH] <;> rfl)) ?_
                repeat ((conv => whnf); refine same_i ?_)
                conv => whnf
                refine same_q (congrArg SV.u64 (show _ = (Nat.repeat half (q.i + 1) (c, d)).2 by rw [hH] <;> rfl)) ?_
                repeat ((conv => whnf); refine same_i ?_)
                conv => whnf
                refine same_q (congrArg SV.u64 (show _ = (tmX (a, b) (c, d) (q.i + 1)).1 by rw [hX] <;> rfl)) ?_
                repeat ((conv => whnf); refine same_i ?_)
                conv => whnf
                refine same_q (congrArg SV.u64 (show _ = (tmX (a, b) (c, d) (q.i + 1)).2 by rw [hX] <;> rfl)) ?_
                repeat ((conv => whnf); refine same_i ?_)
                exact trivial
              · have hdl : decide ((Nat.repeat half q.i (c, d)).2 &&& UInt64.ofNat 1 = UInt64.ofNat 1) = false := decide_eq_false hw
                have hH := half_nil (c := (Nat.repeat half q.i (c, d)).1) hw
                rw [← hrep] at hH
                repeat ((conv => whnf); first | refine pre_a ?_ | refine cond_ta ?_ | refine cond_fa ?_ | refine same_i ?_ | refine pre_i (by first | exact hdb | exact hdl) ?_ | refine cond_t (by first | exact hdb | exact hdl) ?_ | refine cond_f (by first | exact hdb | exact hdl) ?_)
                conv => whnf
                conv => whnf
                refine ⟨⟨q.i + 1, h4⟩, [], by show (128) - (q.i + 1) < (128) - q.i; omega, ?_⟩
                repeat ((conv => whnf); refine same_i ?_)
                conv => whnf
                refine same_q (congrArg SV.u64 (show tmA a (min q.i 64) <<< 1 = tmA a (min (q.i + 1) 64) by rw [show min (q.i + 1) 64 = min q.i 64 + 1 by omega]; exact (tmA_s a _).symm)) ?_
                repeat ((conv => whnf); refine same_i ?_)
                conv => whnf
                refine same_q (congrArg SV.u64 (show tmA b (q.i - 64) = tmA b (q.i + 1 - 64) by rw [show q.i + 1 - 64 = q.i - 64 by omega])) ?_
                repeat ((conv => whnf); refine same_i ?_)
                conv => whnf
                refine same_q (congrArg SV.u64 (show _ = (Nat.repeat half (q.i + 1) (c, d)).1 by rw [hH] <;> rfl)) ?_
                repeat ((conv => whnf); refine same_i ?_)
                conv => whnf
                refine same_q (congrArg SV.u64 (show _ = (Nat.repeat half (q.i + 1) (c, d)).2 by rw [hH] <;> rfl)) ?_
                repeat ((conv => whnf); refine same_i ?_)
                conv => whnf
                refine same_q (congrArg SV.u64 (show _ = (tmX (a, b) (c, d) (q.i + 1)).1 by rw [hX] <;> rfl)) ?_
                repeat ((conv => whnf); refine same_i ?_)
                conv => whnf
                refine same_q (congrArg SV.u64 (show _ = (tmX (a, b) (c, d) (q.i + 1)).2 by rw [hX] <;> rfl)) ?_
                repeat ((conv => whnf); refine same_i ?_)
                exact trivial
            · have hdb : decide (tmA a (min q.i 64) >>> UInt64.ofNat (UInt64.ofNat 63).toNat = UInt64.ofNat 1) = false := decide_eq_false (by rw [← hbt]; exact hb)
              have hX := tmX_f (c := (c, d)) hb
              by_cases hw : (Nat.repeat half q.i (c, d)).2 &&& 1 = 1
              · have hdl : decide ((Nat.repeat half q.i (c, d)).2 &&& UInt64.ofNat 1 = UInt64.ofNat 1) = true := decide_eq_true hw
                have hH := half_one (c := (Nat.repeat half q.i (c, d)).1) hw
                rw [← hrep] at hH
                repeat ((conv => whnf); first | refine pre_a ?_ | refine cond_ta ?_ | refine cond_fa ?_ | refine same_i ?_ | refine pre_i (by first | exact hdb | exact hdl) ?_ | refine cond_t (by first | exact hdb | exact hdl) ?_ | refine cond_f (by first | exact hdb | exact hdl) ?_)
                conv => whnf
                conv => whnf
                refine ⟨⟨q.i + 1, h4⟩, [], by show (128) - (q.i + 1) < (128) - q.i; omega, ?_⟩
                repeat ((conv => whnf); refine same_i ?_)
                conv => whnf
                refine same_q (congrArg SV.u64 (show tmA a (min q.i 64) <<< 1 = tmA a (min (q.i + 1) 64) by rw [show min (q.i + 1) 64 = min q.i 64 + 1 by omega]; exact (tmA_s a _).symm)) ?_
                repeat ((conv => whnf); refine same_i ?_)
                conv => whnf
                refine same_q (congrArg SV.u64 (show tmA b (q.i - 64) = tmA b (q.i + 1 - 64) by rw [show q.i + 1 - 64 = q.i - 64 by omega])) ?_
                repeat ((conv => whnf); refine same_i ?_)
                conv => whnf
                refine same_q (congrArg SV.u64 (show _ = (Nat.repeat half (q.i + 1) (c, d)).1 by rw [hH] <;> rfl)) ?_
                repeat ((conv => whnf); refine same_i ?_)
                conv => whnf
                refine same_q (congrArg SV.u64 (show _ = (Nat.repeat half (q.i + 1) (c, d)).2 by rw [hH] <;> rfl)) ?_
                repeat ((conv => whnf); refine same_i ?_)
                conv => whnf
                refine same_q (congrArg SV.u64 (show _ = (tmX (a, b) (c, d) (q.i + 1)).1 by rw [hX] <;> rfl)) ?_
                repeat ((conv => whnf); refine same_i ?_)
                conv => whnf
                refine same_q (congrArg SV.u64 (show _ = (tmX (a, b) (c, d) (q.i + 1)).2 by rw [hX] <;> rfl)) ?_
                repeat ((conv => whnf); refine same_i ?_)
                exact trivial
              · have hdl : decide ((Nat.repeat half q.i (c, d)).2 &&& UInt64.ofNat 1 = UInt64.ofNat 1) = false := decide_eq_false hw
                have hH := half_nil (c := (Nat.repeat half q.i (c, d)).1) hw
                rw [← hrep] at hH
                repeat ((conv => whnf); first | refine pre_a ?_ | refine cond_ta ?_ | refine cond_fa ?_ | refine same_i ?_ | refine pre_i (by first | exact hdb | exact hdl) ?_ | refine cond_t (by first | exact hdb | exact hdl) ?_ | refine cond_f (by first | exact hdb | exact hdl) ?_)
                conv => whnf
                conv => whnf
                refine ⟨⟨q.i + 1, h4⟩, [], by show (128) - (q.i + 1) < (128) - q.i; omega, ?_⟩
                repeat ((conv => whnf); refine same_i ?_)
                conv => whnf
                refine same_q (congrArg SV.u64 (show tmA a (min q.i 64) <<< 1 = tmA a (min (q.i + 1) 64) by rw [show min (q.i + 1) 64 = min q.i 64 + 1 by omega]; exact (tmA_s a _).symm)) ?_
                repeat ((conv => whnf); refine same_i ?_)
                conv => whnf
                refine same_q (congrArg SV.u64 (show tmA b (q.i - 64) = tmA b (q.i + 1 - 64) by rw [show q.i + 1 - 64 = q.i - 64 by omega])) ?_
                repeat ((conv => whnf); refine same_i ?_)
                conv => whnf
                refine same_q (congrArg SV.u64 (show _ = (Nat.repeat half (q.i + 1) (c, d)).1 by rw [hH] <;> rfl)) ?_
                repeat ((conv => whnf); refine same_i ?_)
                conv => whnf
                refine same_q (congrArg SV.u64 (show _ = (Nat.repeat half (q.i + 1) (c, d)).2 by rw [hH] <;> rfl)) ?_
                repeat ((conv => whnf); refine same_i ?_)
                conv => whnf
                refine same_q (congrArg SV.u64 (show _ = (tmX (a, b) (c, d) (q.i + 1)).1 by rw [hX] <;> rfl)) ?_
                repeat ((conv => whnf); refine same_i ?_)
                conv => whnf
                refine same_q (congrArg SV.u64 (show _ = (tmX (a, b) (c, d) (q.i + 1)).2 by rw [hX] <;> rfl)) ?_
                repeat ((conv => whnf); refine same_i ?_)
                exact trivial
        · have e4 : q.i = 128 := by omega
          rw [e4]
          repeat ((conv => whnf); first | refine pre_a ?_ | refine cond_ta ?_ | refine cond_fa ?_ | refine same_i ?_)
          conv => whnf
          refine final_h (hp' := []) [] h ?_
          repeat ((conv => whnf); refine same_i ?_)
          exact trivial
    · exact h.elim
end Go.Sym.A


namespace Go.Sym.A
open Go Go.Proofs.Try Go.Sym.Lp Go.Sym.Aes
set_option maxRecDepth 100000
attribute [local irreducible] box tw rc ks
/-- the orders of the drawn regions of ref4.double -/
def pl92 : List (Nat × List PStep) := []
/-- the orders of the drawn regions of ref4.schedule -/
def pl62 : List (Nat × List PStep) := [(6, [⟨0, []⟩, ⟨1, [0]⟩, ⟨2, [0, 1]⟩, ⟨3, [0, 1]⟩, ⟨4, [0]⟩, ⟨5, [0, 1, 2, 3, 4]⟩, ⟨6, [0, 1, 2, 3, 4, 5]⟩, ⟨7, [0, 1, 2, 3, 4, 5]⟩, ⟨8, [0, 1, 2, 3, 4, 5]⟩, ⟨9, [0, 1, 2, 3, 4]⟩, ⟨10, [0, 1, 2, 3, 4, 5, 6, 7, 8, 9]⟩, ⟨11, [0, 1, 2, 3, 4, 5, 6, 7, 8, 9, 10]⟩, ⟨12, [0, 1, 2, 3, 4, 5, 6, 7, 8, 9, 10]⟩, ⟨13, [0, 1, 2, 3, 4, 5, 6, 7, 8, 9, 10]⟩, ⟨14, [0, 1, 2, 3, 4, 5, 6, 7, 8, 9]⟩, ⟨15, [0, 1, 2, 3, 4, 5, 6, 7, 8, 9, 10, 11, 12, 13, 14]⟩, ⟨16, [0, 1, 2, 3, 4, 5, 6, 7, 8, 9, 10, 11, 12, 13, 14, 15]⟩, ⟨17, [0, 1, 2, 3, 4, 5, 6, 7, 8, 9, 10, 11, 12, 13, 14, 15]⟩, ⟨18, [0, 1, 2, 3, 4, 5, 6, 7, 8, 9, 10, 11, 12, 13, 14, 15]⟩, ⟨19, [0, 1, 2, 3, 4, 5, 6, 7, 8, 9, 10, 11, 12, 13, 14]⟩, ⟨20, [0]⟩, ⟨21, [0]⟩, ⟨22, []⟩, ⟨23, []⟩]), (13, [⟨0, []⟩, ⟨1, []⟩, ⟨2, []⟩, ⟨3, [0, 1, 2]⟩, ⟨4, []⟩, ⟨5, [0, 1, 2, 3, 4]⟩, ⟨6, [0, 1, 2, 3, 4]⟩, ⟨7, [0, 1, 2, 3, 4]⟩, ⟨8, [0, 1, 2, 3, 4, 5, 6, 7]⟩, ⟨9, [0, 1, 2, 3, 4, 5, 6, 7]⟩, ⟨10, [0, 1, 2, 3, 4, 5, 6, 7]⟩, ⟨11, [0, 1, 2, 3, 4, 5, 6, 7, 8, 9, 10]⟩, ⟨12, [0, 1, 2, 3, 4, 5, 6, 7, 8, 9, 10]⟩, ⟨13, [0, 1, 2, 3, 4, 5, 6, 7, 8, 9, 10]⟩, ⟨14, []⟩, ⟨15, []⟩]), (16, [⟨0, []⟩, ⟨1, []⟩, ⟨2, []⟩, ⟨3, [0, 1, 2]⟩, ⟨4, [0, 1, 2]⟩, ⟨5, [0, 1, 2]⟩, ⟨6, [0, 1, 2, 3, 4, 5]⟩, ⟨7, [0, 1, 2, 3, 4, 5]⟩, ⟨8, [0, 1, 2, 3, 4, 5]⟩, ⟨9, [0, 1, 2, 3, 4, 5, 6, 7, 8]⟩, ⟨10, [0, 1, 2, 3, 4, 5, 6, 7, 8]⟩, ⟨11, [0, 1, 2, 3, 4, 5, 6, 7, 8]⟩, ⟨12, []⟩, ⟨13, []⟩]), (20, [⟨0, []⟩, ⟨1, [0]⟩, ⟨2, [0]⟩, ⟨3, [0]⟩, ⟨4, [0, 1, 2, 3]⟩, ⟨5, [0, 1, 2, 3, 4]⟩, ⟨6, [0, 1, 2, 3, 4, 5]⟩, ⟨7, [0, 1, 2, 3, 4]⟩, ⟨8, [0, 1, 2, 3, 4, 5, 6, 7]⟩, ⟨9, [0, 1, 2, 3, 8]⟩, ⟨10, [0, 1, 2, 3]⟩, ⟨11, [0, 1, 2, 3]⟩, ⟨12, [0]⟩, ⟨13, []⟩, ⟨14, []⟩])]

def doubleS : Spec := fun args hp K => match args, hp with
  | [.u8 x], [] => K (.u8 (tw x)) []
  | _, _ => False
theorem double_s : SoundC prog 92 doubleS := by
  refine sound_f tyAes_ok fnok_nil rfl func92 rfl call92 (D := pl92) ?_ ?_
  · intro args hp K h
    unfold doubleS at h
    split at h
    · exact Nat.le_of_ble_eq_true rfl
    · exact h.elim
  · intro args hp K h
    unfold doubleS at h
    split at h
    · rename_i x
      by_cases hx : 127 < x.toNat
      · have hd : decide (UInt8.ofNat 127 < x) = true := decide_eq_true (by rw [UInt8.lt_iff_toNat_lt]; exact hx)
        repeat ((conv => whnf); first | refine pre_a ?_ | refine cond_ta ?_ | refine cond_fa ?_ | refine same_i ?_ | refine pre_i (by first | exact hd) ?_ | refine cond_t (by first | exact hd) ?_ | refine cond_f (by first | exact hd) ?_)
        conv => whnf
        rw [tw_hi hx] at h
        conv => whnf
        refine final_h (hp' := []) [] h ?_
        repeat ((conv => whnf); refine same_i ?_)
        exact trivial
      · have hd : decide (UInt8.ofNat 127 < x) = false := decide_eq_false (by rw [UInt8.lt_iff_toNat_lt]; exact hx)
        repeat ((conv => whnf); first | refine pre_a ?_ | refine cond_ta ?_ | refine cond_fa ?_ | refine same_i ?_ | refine pre_i (by first | exact hd) ?_ | refine cond_t (by first | exact hd) ?_ | refine cond_f (by first | exact hd) ?_)
        conv => whnf
        rw [tw_lo hx] at h
        conv => whnf
        refine final_h (hp' := []) [] h ?_
        repeat ((conv => whnf); refine same_i ?_)
        exact trivial
    · exact h.elim
/-- so many words, with room behind them -/
structure Wx (n : Nat) where
  i : Nat
  hi : i ≤ n
  t : Tl UInt8 4
structure Wz (n m : Nat) where
  i : Nat
  h1 : n ≤ i
  h2 : i ≤ m
  t : Tl UInt8 4
def rschedS : Spec := fun args hp K => match args, hp with
  | [.str key], [] => Pre (key.length = 16 ∨ key.length = 32) (AllVC fun x : Tl UInt8 4 => K (.sl 0 0 0 [] (key.length + 28) (key.length + 28 + x.t)) [.mk 140 [.arr8 (4 * (key.length + 28) + x.t * 4) (ks key (key.length / 4) (key.length + 28) ++ x.l)]])
  | _, _ => False
set_option maxHeartbeats 8000000 in
theorem rsched_s : SoundC prog 62 rschedS := by
  refine sound_f tyAes_ok (fnok_cons double_s fnok_nil) rfl func62 rfl call62 (D := pl62) ?_ ?_
  · intro args hp K h
    unfold rschedS at h
    split at h
    · exact Nat.le_of_ble_eq_true rfl
    · exact h.elim
  · intro args hp K h
    unfold rschedS at h
    split at h
    · rename_i key
      obtain ⟨hk, h⟩ := pre_e h
      have hB := box_len
      rcases hk with hk | hk
      · have hkn : key.length = 4 * 4 := hk
        have hq : (key.length : Int).tdiv 4 = 4 := by rw [hk]; rfl
        have hf : fits ((key.length : Int).tdiv 4) := by rw [hq]; unfold fits; omega
        have hf2 : (4 : Int) ≠ 0 ∧ fits ((key.length : Int).tdiv 4) := ⟨by decide, hf⟩
        have h := all_e h
        rw [hk] at h
        replace h : ∀ x : Tl UInt8 4, K (.sl 0 0 0 [] 44 (44 + x.t)) [.mk 140 [.arr8 (4 * 44 + x.t * 4) (ks key 4 44 ++ x.l)]] := h
        repeat ((conv => whnf); first | refine pre_a ?_ | refine cond_ta ?_ | refine cond_fa ?_ | refine same_i ?_)
        conv => whnf
        rw [hq]
        repeat ((conv => whnf); first | refine pre_a ?_ | refine cond_ta ?_ | refine cond_fa ?_ | refine same_i ?_)
        conv => whnf
        refine loop_h (Option (Wx 4)) (fun q => match q with
          | none => ⟨[(0, .str key), (3, .int 4), (4, .nilsl), (5, .int 0)], []⟩
          | some s => ⟨[(0, .str key), (3, .int 4), (4, .sl 0 0 0 [] s.i (s.i + s.t.t)), (5, .int s.i)], [.mk 140 [.arr8 (4 * s.i + s.t.t * 4) (ks key 4 s.i ++ s.t.l)]]⟩)
          (fun q => match q with | none => 4+1 | some s => 4 - s.i) none [] ?_ ?_
        · repeat ((conv => whnf); refine same_i ?_)
          exact trivial
        · intro q
          cases q with
          | none =>
            repeat ((conv => whnf); first | refine pre_a ?_ | refine cond_ta ?_ | refine cond_fa ?_ | refine same_i ?_)
            conv => whnf
            refine all_i fun x => ?_
            repeat ((conv => whnf); first | refine pre_a ?_ | refine cond_ta ?_ | refine cond_fa ?_ | refine same_i ?_)
            conv => whnf
            refine ⟨some ⟨1, by decide, x⟩, [1], by show 4 - 1 < 4 + 1; omega, ?_⟩
            repeat ((conv => whnf); refine same_i ?_)
            conv => whnf
            refine same_q (agg8 rfl ?hl) ?_
            case hl =>
              show [key.getD 0 0, key.getD 1 0, key.getD 2 0, key.getD 3 0] ++ x.l = ks key 4 1 ++ x.l
              rw [ks_succ key 4 0, ks_zero]
              unfold nextW
              rw [if_pos (by decide), take4 (by omega)]; rfl
            repeat ((conv => whnf); refine same_i ?_)
            exact trivial
          | some s =>
            have hi := s.hi
            have hl := ks_len hkn s.i
            have ht := s.t.h
            have hI : ((s.i : Int)).toNat = s.i := Int.toNat_natCast _
            by_cases h4 : s.i < 4
            · repeat ((conv => whnf); first | refine pre_a ?_ | refine cond_ta ?_ | refine cond_fa ?_ | refine same_i ?_)
              conv => whnf
              refine pre_i ⟨Nat.le_add_right _ _, by show 4 * s.i + s.t.t * 4 = (s.i + s.t.t) * 4; omega, by decide, by show (s.i + 1) * 4 ≤ _; omega⟩ ?_
              repeat ((conv => whnf); first | refine pre_a ?_ | refine cond_ta ?_ | refine cond_fa ?_ | refine same_i ?_)
              conv => whnf
              refine all_i fun x => ?_
              repeat ((conv => whnf); first | refine pre_a ?_ | refine cond_ta ?_ | refine cond_fa ?_ | refine same_i ?_)
              conv => whnf
              refine ⟨some ⟨s.i + 1, h4, x⟩, [2], by show 4 - (s.i + 1) < 4 - s.i; omega, ?_⟩
              repeat ((conv => whnf); refine same_i ?_)
              conv => whnf
              refine same_q (agg8 (by show s.i * 4 + 1 * 4 + x.t * 4 = 4 * (s.i + 1) + x.t * 4; omega) ?hl) ?_
              case hl =>
                show List.take (s.i * 4) (ks key 4 s.i ++ s.t.l) ++ [key.getD (4 * s.i) 0, key.getD (4 * s.i + 1) 0, key.getD (4 * s.i + 2) 0, key.getD (4 * s.i + 3) 0] ++ x.l = ks key 4 (s.i + 1) ++ x.l
                rw [List.take_left' (by rw [hl]; omega)]
                rw [ks_succ]
                unfold nextW
                rw [if_pos h4, take4 (by omega)]
              repeat ((conv => whnf); refine same_i ?_)
              exact trivial
            · have e4 : s.i = 4 := by omega
              obtain ⟨si, shi, st⟩ := s
              replace e4 : si = 4 := e4
              subst e4
              clear hi hI h4 hl ht
              repeat ((conv => whnf); first | refine pre_a ?_ | refine cond_ta ?_ | refine cond_fa ?_ | refine same_i ?_)
              conv => whnf
              refine loop_h (Wz 4 44) (fun s => ⟨[(0, .str key), (3, .int 4), (4, .sl 0 0 0 [] s.i (s.i + s.t.t)), (6, .u8 (rc ((s.i - 1) / 4))), (7, .int s.i)], [.mk 140 [.arr8 (4 * s.i + s.t.t * 4) (ks key 4 s.i ++ s.t.l)]]⟩)
                (fun s => 44 - s.i) ⟨4, by decide, by decide, st⟩ [0] ?_ ?_
              · repeat ((conv => whnf); refine same_i ?_)
                conv => whnf
                refine same_q (congrArg SV.u8 (by show UInt8.ofNat 1 = rc ((4 - 1) / 4); rw [show (4 - 1) / 4 = 0 by decide]; unfold rc; rfl)) ?_
                repeat ((conv => whnf); refine same_i ?_)
                exact trivial
              · intro s
                have hi1 := s.h1
                have hi2 := s.h2
                have hl := ks_len hkn s.i
                have ht := s.t.h
                have hI : ((s.i : Int)).toNat = s.i := Int.toNat_natCast _
                have hm0 : ((s.i : Int)).tmod 4 = ((s.i % 4 : Nat) : Int) := by rw [Int.tmod_eq_emod_of_nonneg (by omega)]; omega
                by_cases h4 : s.i < 44
                · obtain ⟨T, hT⟩ : ∃ T, T = ((ks key 4 s.i).drop (4 * (s.i - 1))).take 4 := ⟨_, rfl⟩
                  have hTl : T.length = 4 := by rw [hT, List.length_take, List.length_drop, ks_len hkn]; omega
                  have tT : List.take ty140.sz (List.drop (off (addO [] ((s.i : Int) - 1).toNat ty140.sz)) (ks key 4 s.i ++ s.t.l)) = T := by
                    rw [hT]
                    show List.take 4 (List.drop (((s.i : Int) - 1).toNat * 4) _) = _
                    rw [show ((s.i : Int) - 1).toNat * 4 = 4 * (s.i - 1) by omega, List.drop_append_of_le_length (by omega), List.take_append_of_le_length (by rw [List.length_drop]; omega)]
                  have hnx : (List.range 4).map (fun k => (ks key 4 s.i).getD (4 * (s.i - 4) + k) 0 ^^^ (tmpW 4 s.i T).getD k 0) = nextW key 4 s.i (ks key 4 s.i) := by
                    unfold nextW; rw [if_neg (by omega), ← hT]
                  by_cases h6 : s.i % 4 = 0
                  · repeat ((conv => whnf); first | refine pre_a ?_ | refine cond_ta ?_ | refine cond_fa ?_ | refine same_i ?_)
                    conv => whnf
                    rw [boxA, tT]
                    refine loop_h (Ix (4)) (fun r => ⟨[(0, .str key), (3, .int 4), (4, .sl 0 0 0 [] s.i (s.i + s.t.t)), (6, .u8 (tw (rc ((s.i - 1) / 4)))), (7, .int s.i), (8, .ptr 1 0 0 []), (9, .int r.i)], [.mk 140 [.arr8 (4 * s.i + s.t.t * 4) (ks key 4 s.i ++ s.t.l)], .mk 140 [.arr8 4 (ovr (tmpW 4 s.i T) 0 (fun k => (ks key 4 s.i).getD (4 * (s.i - 4) + k) 0 ^^^ (tmpW 4 s.i T).getD k 0) r.i)]]⟩) (fun r => (4) - r.i) ⟨0, Nat.zero_le _⟩ [0, 1] ?_ ?_
                    · repeat ((conv => whnf); refine same_i ?_)
                      conv => whnf
                      refine same_q (by show _ = SV.agg [SV.arr8 4 (ovr _ 0 _ 0)]; rw [ovr_zero]; unfold tmpW; rw [if_pos h6]; rfl) ?_
                      repeat ((conv => whnf); refine same_i ?_)
                      exact trivial
                    · intro r
                      have hri := r.hi
                      have hJ : ((r.i : Int)).toNat = r.i := Int.toNat_natCast _
                      have hTW := tmpW_len (n := 4) (i := s.i) hTl
                      have hlo := ovr_len (l := tmpW 4 s.i T) (a := 0) (i := r.i) (by omega) (fun k => (ks key 4 s.i).getD (4 * (s.i - 4) + k) 0 ^^^ (tmpW 4 s.i T).getD k 0)
                      have hWl : (ks key 4 s.i ++ s.t.l).length = 4 * s.i + s.t.t * 4 := by rw [List.length_append, hl, ht]
                      by_cases h7 : r.i < 4
                      · repeat ((conv => whnf); first | refine pre_a ?_ | refine cond_ta ?_ | refine cond_fa ?_ | refine same_i ?_)
                        conv => whnf
                        refine ⟨⟨r.i + 1, h7⟩, [0, 1], by show (4) - (r.i + 1) < (4) - r.i; omega, ?_⟩
                        repeat ((conv => whnf); refine same_i ?_)
                        conv => whnf
                        refine same_q (congrArg (fun x => SV.agg [SV.arr8 4 x]) (ovr_step (by omega) ?hv ?hkk)) ?_
                        case hkk => show r.i = 0 + r.i; omega
                        case hv =>
                          show List.getD (ovr _ _ _ _) r.i 0 ^^^ List.getD (ks key 4 s.i ++ s.t.l) (((s.i : Int) - 4).toNat * 4 + r.i) 0 = _
                          rw [ovr_get (by omega) _ (by omega), show ((s.i : Int) - 4).toNat * 4 + r.i = 4 * (s.i - 4) + r.i by omega, List.getD_eq_getElem?_getD (l := _ ++ _), List.getElem?_append_left (by omega), ← List.getD_eq_getElem?_getD, UInt8.xor_comm]
                        repeat ((conv => whnf); refine same_i ?_)
                        exact trivial
                      · have e7 : r.i = 4 := by omega
                        rw [e7, ovr_fin hTW, hnx]
                        have hNl := nextW_len (i := s.i) hkn (ks key 4 s.i)
                        have eSp : splice (List.replicate (1 * 4) 0) (off [(0, ty140.sz)]) (nextW key 4 s.i (ks key 4 s.i)) = nextW key 4 s.i (ks key 4 s.i) := by
                          show List.take 0 _ ++ nextW key 4 s.i (ks key 4 s.i) ++ List.drop (0 + _) (List.replicate 4 0) = _
                          rw [hNl]; simp
                        repeat ((conv => whnf); first | refine pre_a ?_ | refine cond_ta ?_ | refine cond_fa ?_ | refine same_i ?_)
                        conv => whnf
                        rw [eSp]
                        repeat ((conv => whnf); first | refine pre_a ?_ | refine cond_ta ?_ | refine cond_fa ?_ | refine same_i ?_)
                        conv => whnf
                        refine pre_i ⟨Nat.le_add_right _ _, by show 4 * s.i + s.t.t * 4 = (s.i + s.t.t) * 4; omega, by decide, by show (s.i + 1) * 4 ≤ _; omega⟩ ?_
                        repeat ((conv => whnf); first | refine pre_a ?_ | refine cond_ta ?_ | refine cond_fa ?_ | refine same_i ?_)
                        conv => whnf
                        refine all_i fun x => ?_
                        repeat ((conv => whnf); first | refine pre_a ?_ | refine cond_ta ?_ | refine cond_fa ?_ | refine same_i ?_)
                        conv => whnf
                        refine ⟨⟨s.i + 1, by omega, h4, x⟩, [3], by show 44 - (s.i + 1) < 44 - s.i; omega, ?_⟩
                        repeat ((conv => whnf); refine same_i ?_)
                        conv => whnf
                        refine same_q (agg8 (by show s.i * 4 + 1 * 4 + x.t * 4 = 4 * (s.i + 1) + x.t * 4; omega) ?hl) ?_
                        case hl =>
                          show List.take (s.i * 4) (ks key 4 s.i ++ s.t.l) ++ List.take (1 * 4) (nextW key 4 s.i (ks key 4 s.i)) ++ x.l = ks key 4 (s.i + 1) ++ x.l
                          rw [List.take_left' (by rw [hl]; omega), ks_succ, List.take_of_length_le (by omega)]
                        repeat ((conv => whnf); refine same_i ?_)
                        conv => whnf
                        refine same_q (congrArg SV.u8 (by show (tw (rc ((s.i - 1) / 4))) = rc ((s.i + 1 - 1) / 4); rw [Nat.add_sub_cancel, rc_next (by omega) (by omega) h6])) ?_
                        repeat ((conv => whnf); refine same_i ?_)
                        exact trivial
                  · repeat ((conv => whnf); first | refine pre_a ?_ | refine cond_ta ?_ | refine cond_fa ?_ | refine same_i ?_)
                    conv => whnf
                    rw [tT]
                    refine loop_h (Ix (4)) (fun r => ⟨[(0, .str key), (3, .int 4), (4, .sl 0 0 0 [] s.i (s.i + s.t.t)), (6, .u8 (rc ((s.i - 1) / 4))), (7, .int s.i), (8, .ptr 1 0 0 []), (9, .int r.i)], [.mk 140 [.arr8 (4 * s.i + s.t.t * 4) (ks key 4 s.i ++ s.t.l)], .mk 140 [.arr8 4 (ovr (tmpW 4 s.i T) 0 (fun k => (ks key 4 s.i).getD (4 * (s.i - 4) + k) 0 ^^^ (tmpW 4 s.i T).getD k 0) r.i)]]⟩) (fun r => (4) - r.i) ⟨0, Nat.zero_le _⟩ [0, 1] ?_ ?_
                    · repeat ((conv => whnf); refine same_i ?_)
                      conv => whnf
                      refine same_q (by show SV.agg [SV.arr8 4 T] = SV.agg [SV.arr8 4 (ovr _ 0 _ 0)]; rw [ovr_zero]; unfold tmpW; rw [if_neg h6, if_neg (fun h => absurd h.1 (by decide))]) ?_
                      repeat ((conv => whnf); refine same_i ?_)
                      exact trivial
                    · intro r
                      have hri := r.hi
                      have hJ : ((r.i : Int)).toNat = r.i := Int.toNat_natCast _
                      have hTW := tmpW_len (n := 4) (i := s.i) hTl
                      have hlo := ovr_len (l := tmpW 4 s.i T) (a := 0) (i := r.i) (by omega) (fun k => (ks key 4 s.i).getD (4 * (s.i - 4) + k) 0 ^^^ (tmpW 4 s.i T).getD k 0)
                      have hWl : (ks key 4 s.i ++ s.t.l).length = 4 * s.i + s.t.t * 4 := by rw [List.length_append, hl, ht]
                      by_cases h7 : r.i < 4
                      · repeat ((conv => whnf); first | refine pre_a ?_ | refine cond_ta ?_ | refine cond_fa ?_ | refine same_i ?_)
                        conv => whnf
                        refine ⟨⟨r.i + 1, h7⟩, [0, 1], by show (4) - (r.i + 1) < (4) - r.i; omega, ?_⟩
                        repeat ((conv => whnf); refine same_i ?_)
                        conv => whnf
                        refine same_q (congrArg (fun x => SV.agg [SV.arr8 4 x]) (ovr_step (by omega) ?hv ?hkk)) ?_
                        case hkk => show r.i = 0 + r.i; omega
                        case hv =>
                          show List.getD (ovr _ _ _ _) r.i 0 ^^^ List.getD (ks key 4 s.i ++ s.t.l) (((s.i : Int) - 4).toNat * 4 + r.i) 0 = _
                          rw [ovr_get (by omega) _ (by omega), show ((s.i : Int) - 4).toNat * 4 + r.i = 4 * (s.i - 4) + r.i by omega, List.getD_eq_getElem?_getD (l := _ ++ _), List.getElem?_append_left (by omega), ← List.getD_eq_getElem?_getD, UInt8.xor_comm]
                        repeat ((conv => whnf); refine same_i ?_)
                        exact trivial
                      · have e7 : r.i = 4 := by omega
                        rw [e7, ovr_fin hTW, hnx]
                        have hNl := nextW_len (i := s.i) hkn (ks key 4 s.i)
                        have eSp : splice (List.replicate (1 * 4) 0) (off [(0, ty140.sz)]) (nextW key 4 s.i (ks key 4 s.i)) = nextW key 4 s.i (ks key 4 s.i) := by
                          show List.take 0 _ ++ nextW key 4 s.i (ks key 4 s.i) ++ List.drop (0 + _) (List.replicate 4 0) = _
                          rw [hNl]; simp
                        repeat ((conv => whnf); first | refine pre_a ?_ | refine cond_ta ?_ | refine cond_fa ?_ | refine same_i ?_)
                        conv => whnf
                        rw [eSp]
                        repeat ((conv => whnf); first | refine pre_a ?_ | refine cond_ta ?_ | refine cond_fa ?_ | refine same_i ?_)
                        conv => whnf
                        refine pre_i ⟨Nat.le_add_right _ _, by show 4 * s.i + s.t.t * 4 = (s.i + s.t.t) * 4; omega, by decide, by show (s.i + 1) * 4 ≤ _; omega⟩ ?_
                        repeat ((conv => whnf); first | refine pre_a ?_ | refine cond_ta ?_ | refine cond_fa ?_ | refine same_i ?_)
                        conv => whnf
                        refine all_i fun x => ?_
                        repeat ((conv => whnf); first | refine pre_a ?_ | refine cond_ta ?_ | refine cond_fa ?_ | refine same_i ?_)
                        conv => whnf
                        refine ⟨⟨s.i + 1, by omega, h4, x⟩, [3], by show 44 - (s.i + 1) < 44 - s.i; omega, ?_⟩
                        repeat ((conv => whnf); refine same_i ?_)
                        conv => whnf
                        refine same_q (agg8 (by show s.i * 4 + 1 * 4 + x.t * 4 = 4 * (s.i + 1) + x.t * 4; omega) ?hl) ?_
                        case hl =>
                          show List.take (s.i * 4) (ks key 4 s.i ++ s.t.l) ++ List.take (1 * 4) (nextW key 4 s.i (ks key 4 s.i)) ++ x.l = ks key 4 (s.i + 1) ++ x.l
                          rw [List.take_left' (by rw [hl]; omega), ks_succ, List.take_of_length_le (by omega)]
                        repeat ((conv => whnf); refine same_i ?_)
                        conv => whnf
                        refine same_q (congrArg SV.u8 (by show (rc ((s.i - 1) / 4)) = rc ((s.i + 1 - 1) / 4); rw [Nat.add_sub_cancel, rc_keep (by omega) h6])) ?_
                        repeat ((conv => whnf); refine same_i ?_)
                        exact trivial
                · have e4 : s.i = 44 := by omega
                  obtain ⟨si, sh1, sh2, st⟩ := s
                  replace e4 : si = 44 := e4
                  subst e4
                  have h := h st
                  repeat ((conv => whnf); first | refine pre_a ?_ | refine cond_ta ?_ | refine cond_fa ?_ | refine same_i ?_)
                  conv => whnf
                  refine final_h (hp' := [.mk 140 [.arr8 (4 * 44 + st.t * 4) (ks key 4 44 ++ st.l)]]) [0] h ?_
                  repeat ((conv => whnf); refine same_i ?_)
                  exact trivial
      · have hkn : key.length = 4 * 8 := hk
        have hq : (key.length : Int).tdiv 4 = 8 := by rw [hk]; rfl
        have hf : fits ((key.length : Int).tdiv 4) := by rw [hq]; unfold fits; omega
        have hf2 : (4 : Int) ≠ 0 ∧ fits ((key.length : Int).tdiv 4) := ⟨by decide, hf⟩
        have h := all_e h
        rw [hk] at h
        replace h : ∀ x : Tl UInt8 4, K (.sl 0 0 0 [] 60 (60 + x.t)) [.mk 140 [.arr8 (4 * 60 + x.t * 4) (ks key 8 60 ++ x.l)]] := h
        repeat ((conv => whnf); first | refine pre_a ?_ | refine cond_ta ?_ | refine cond_fa ?_ | refine same_i ?_)
        conv => whnf
        rw [hq]
        repeat ((conv => whnf); first | refine pre_a ?_ | refine cond_ta ?_ | refine cond_fa ?_ | refine same_i ?_)
        conv => whnf
        refine loop_h (Option (Wx 8)) (fun q => match q with
          | none => ⟨[(0, .str key), (3, .int 8), (4, .nilsl), (5, .int 0)], []⟩
          | some s => ⟨[(0, .str key), (3, .int 8), (4, .sl 0 0 0 [] s.i (s.i + s.t.t)), (5, .int s.i)], [.mk 140 [.arr8 (4 * s.i + s.t.t * 4) (ks key 8 s.i ++ s.t.l)]]⟩)
          (fun q => match q with | none => 8+1 | some s => 8 - s.i) none [] ?_ ?_
        · repeat ((conv => whnf); refine same_i ?_)
          exact trivial
        · intro q
          cases q with
          | none =>
            repeat ((conv => whnf); first | refine pre_a ?_ | refine cond_ta ?_ | refine cond_fa ?_ | refine same_i ?_)
            conv => whnf
            refine all_i fun x => ?_
            repeat ((conv => whnf); first | refine pre_a ?_ | refine cond_ta ?_ | refine cond_fa ?_ | refine same_i ?_)
            conv => whnf
            refine ⟨some ⟨1, by decide, x⟩, [1], by show 8 - 1 < 8 + 1; omega, ?_⟩
            repeat ((conv => whnf); refine same_i ?_)
            conv => whnf
            refine same_q (agg8 rfl ?hl) ?_
            case hl =>
              show [key.getD 0 0, key.getD 1 0, key.getD 2 0, key.getD 3 0] ++ x.l = ks key 8 1 ++ x.l
              rw [ks_succ key 8 0, ks_zero]
              unfold nextW
              rw [if_pos (by decide), take4 (by omega)]; rfl
            repeat ((conv => whnf); refine same_i ?_)
            exact trivial
          | some s =>
            have hi := s.hi
            have hl := ks_len hkn s.i
            have ht := s.t.h
            have hI : ((s.i : Int)).toNat = s.i := Int.toNat_natCast _
            by_cases h4 : s.i < 8
            · repeat ((conv => whnf); first | refine pre_a ?_ | refine cond_ta ?_ | refine cond_fa ?_ | refine same_i ?_)
              conv => whnf
              refine pre_i ⟨Nat.le_add_right _ _, by show 4 * s.i + s.t.t * 4 = (s.i + s.t.t) * 4; omega, by decide, by show (s.i + 1) * 4 ≤ _; omega⟩ ?_
              repeat ((conv => whnf); first | refine pre_a ?_ | refine cond_ta ?_ | refine cond_fa ?_ | refine same_i ?_)
              conv => whnf
              refine all_i fun x => ?_
              repeat ((conv => whnf); first | refine pre_a ?_ | refine cond_ta ?_ | refine cond_fa ?_ | refine same_i ?_)
              conv => whnf
              refine ⟨some ⟨s.i + 1, h4, x⟩, [2], by show 8 - (s.i + 1) < 8 - s.i; omega, ?_⟩
              repeat ((conv => whnf); refine same_i ?_)
              conv => whnf
              refine same_q (agg8 (by show s.i * 4 + 1 * 4 + x.t * 4 = 4 * (s.i + 1) + x.t * 4; omega) ?hl) ?_
              case hl =>
                show List.take (s.i * 4) (ks key 8 s.i ++ s.t.l) ++ [key.getD (4 * s.i) 0, key.getD (4 * s.i + 1) 0, key.getD (4 * s.i + 2) 0, key.getD (4 * s.i + 3) 0] ++ x.l = ks key 8 (s.i + 1) ++ x.l
                rw [List.take_left' (by rw [hl]; omega)]
                rw [ks_succ]
                unfold nextW
                rw [if_pos h4, take4 (by omega)]
              repeat ((conv => whnf); refine same_i ?_)
              exact trivial
            · have e4 : s.i = 8 := by omega
              obtain ⟨si, shi, st⟩ := s
              replace e4 : si = 8 := e4
              subst e4
              clear hi hI h4 hl ht
              repeat ((conv => whnf); first | refine pre_a ?_ | refine cond_ta ?_ | refine cond_fa ?_ | refine same_i ?_)
              conv => whnf
              refine loop_h (Wz 8 60) (fun s => ⟨[(0, .str key), (3, .int 8), (4, .sl 0 0 0 [] s.i (s.i + s.t.t)), (6, .u8 (rc ((s.i - 1) / 8))), (7, .int s.i)], [.mk 140 [.arr8 (4 * s.i + s.t.t * 4) (ks key 8 s.i ++ s.t.l)]]⟩)
                (fun s => 60 - s.i) ⟨8, by decide, by decide, st⟩ [0] ?_ ?_
              · repeat ((conv => whnf); refine same_i ?_)
                conv => whnf
                refine same_q (congrArg SV.u8 (by show UInt8.ofNat 1 = rc ((8 - 1) / 8); rw [show (8 - 1) / 8 = 0 by decide]; unfold rc; rfl)) ?_
                repeat ((conv => whnf); refine same_i ?_)
                exact trivial
              · intro s
                have hi1 := s.h1
                have hi2 := s.h2
                have hl := ks_len hkn s.i
                have ht := s.t.h
                have hI : ((s.i : Int)).toNat = s.i := Int.toNat_natCast _
                have hm0 : ((s.i : Int)).tmod 8 = ((s.i % 8 : Nat) : Int) := by rw [Int.tmod_eq_emod_of_nonneg (by omega)]; omega
                by_cases h4 : s.i < 60
                · obtain ⟨T, hT⟩ : ∃ T, T = ((ks key 8 s.i).drop (4 * (s.i - 1))).take 4 := ⟨_, rfl⟩
                  have hTl : T.length = 4 := by rw [hT, List.length_take, List.length_drop, ks_len hkn]; omega
                  have tT : List.take ty140.sz (List.drop (off (addO [] ((s.i : Int) - 1).toNat ty140.sz)) (ks key 8 s.i ++ s.t.l)) = T := by
                    rw [hT]
                    show List.take 4 (List.drop (((s.i : Int) - 1).toNat * 4) _) = _
                    rw [show ((s.i : Int) - 1).toNat * 4 = 4 * (s.i - 1) by omega, List.drop_append_of_le_length (by omega), List.take_append_of_le_length (by rw [List.length_drop]; omega)]
                  have hnx : (List.range 4).map (fun k => (ks key 8 s.i).getD (4 * (s.i - 8) + k) 0 ^^^ (tmpW 8 s.i T).getD k 0) = nextW key 8 s.i (ks key 8 s.i) := by
                    unfold nextW; rw [if_neg (by omega), ← hT]
                  by_cases h6 : s.i % 8 = 0
                  · repeat ((conv => whnf); first | refine pre_a ?_ | refine cond_ta ?_ | refine cond_fa ?_ | refine same_i ?_)
                    conv => whnf
                    rw [boxA, tT]
                    refine loop_h (Ix (4)) (fun r => ⟨[(0, .str key), (3, .int 8), (4, .sl 0 0 0 [] s.i (s.i + s.t.t)), (6, .u8 (tw (rc ((s.i - 1) / 8)))), (7, .int s.i), (8, .ptr 1 0 0 []), (9, .int r.i)], [.mk 140 [.arr8 (4 * s.i + s.t.t * 4) (ks key 8 s.i ++ s.t.l)], .mk 140 [.arr8 4 (ovr (tmpW 8 s.i T) 0 (fun k => (ks key 8 s.i).getD (4 * (s.i - 8) + k) 0 ^^^ (tmpW 8 s.i T).getD k 0) r.i)]]⟩) (fun r => (4) - r.i) ⟨0, Nat.zero_le _⟩ [0, 1] ?_ ?_
                    · repeat ((conv => whnf); refine same_i ?_)
                      conv => whnf
                      refine same_q (by show _ = SV.agg [SV.arr8 4 (ovr _ 0 _ 0)]; rw [ovr_zero]; unfold tmpW; rw [if_pos h6]; rfl) ?_
                      repeat ((conv => whnf); refine same_i ?_)
                      exact trivial
                    · intro r
                      have hri := r.hi
                      have hJ : ((r.i : Int)).toNat = r.i := Int.toNat_natCast _
                      have hTW := tmpW_len (n := 8) (i := s.i) hTl
                      have hlo := ovr_len (l := tmpW 8 s.i T) (a := 0) (i := r.i) (by omega) (fun k => (ks key 8 s.i).getD (4 * (s.i - 8) + k) 0 ^^^ (tmpW 8 s.i T).getD k 0)
                      have hWl : (ks key 8 s.i ++ s.t.l).length = 4 * s.i + s.t.t * 4 := by rw [List.length_append, hl, ht]
                      by_cases h7 : r.i < 4
                      · repeat ((conv => whnf); first | refine pre_a ?_ | refine cond_ta ?_ | refine cond_fa ?_ | refine same_i ?_)
                        conv => whnf
                        refine ⟨⟨r.i + 1, h7⟩, [0, 1], by show (4) - (r.i + 1) < (4) - r.i; omega, ?_⟩
                        repeat ((conv => whnf); refine same_i ?_)
                        conv => whnf
                        refine same_q (congrArg (fun x => SV.agg [SV.arr8 4 x]) (ovr_step (by omega) ?hv ?hkk)) ?_
                        case hkk => show r.i = 0 + r.i; omega
                        case hv =>
                          show List.getD (ovr _ _ _ _) r.i 0 ^^^ List.getD (ks key 8 s.i ++ s.t.l) (((s.i : Int) - 8).toNat * 4 + r.i) 0 = _
                          rw [ovr_get (by omega) _ (by omega), show ((s.i : Int) - 8).toNat * 4 + r.i = 4 * (s.i - 8) + r.i by omega, List.getD_eq_getElem?_getD (l := _ ++ _), List.getElem?_append_left (by omega), ← List.getD_eq_getElem?_getD, UInt8.xor_comm]
                        repeat ((conv => whnf); refine same_i ?_)
                        exact trivial
                      · have e7 : r.i = 4 := by omega
                        rw [e7, ovr_fin hTW, hnx]
                        have hNl := nextW_len (i := s.i) hkn (ks key 8 s.i)
                        have eSp : splice (List.replicate (1 * 4) 0) (off [(0, ty140.sz)]) (nextW key 8 s.i (ks key 8 s.i)) = nextW key 8 s.i (ks key 8 s.i) := by
                          show List.take 0 _ ++ nextW key 8 s.i (ks key 8 s.i) ++ List.drop (0 + _) (List.replicate 4 0) = _
                          rw [hNl]; simp
                        repeat ((conv => whnf); first | refine pre_a ?_ | refine cond_ta ?_ | refine cond_fa ?_ | refine same_i ?_)
                        conv => whnf
                        rw [eSp]
                        repeat ((conv => whnf); first | refine pre_a ?_ | refine cond_ta ?_ | refine cond_fa ?_ | refine same_i ?_)
                        conv => whnf
                        refine pre_i ⟨Nat.le_add_right _ _, by show 4 * s.i + s.t.t * 4 = (s.i + s.t.t) * 4; omega, by decide, by show (s.i + 1) * 4 ≤ _; omega⟩ ?_
                        repeat ((conv => whnf); first | refine pre_a ?_ | refine cond_ta ?_ | refine cond_fa ?_ | refine same_i ?_)
                        conv => whnf
                        refine all_i fun x => ?_
                        repeat ((conv => whnf); first | refine pre_a ?_ | refine cond_ta ?_ | refine cond_fa ?_ | refine same_i ?_)
                        conv => whnf
                        refine ⟨⟨s.i + 1, by omega, h4, x⟩, [3], by show 60 - (s.i + 1) < 60 - s.i; omega, ?_⟩
                        repeat ((conv => whnf); refine same_i ?_)
                        conv => whnf
                        refine same_q (agg8 (by show s.i * 4 + 1 * 4 + x.t * 4 = 4 * (s.i + 1) + x.t * 4; omega) ?hl) ?_
                        case hl =>
                          show List.take (s.i * 4) (ks key 8 s.i ++ s.t.l) ++ List.take (1 * 4) (nextW key 8 s.i (ks key 8 s.i)) ++ x.l = ks key 8 (s.i + 1) ++ x.l
                          rw [List.take_left' (by rw [hl]; omega), ks_succ, List.take_of_length_le (by omega)]
                        repeat ((conv => whnf); refine same_i ?_)
                        conv => whnf
                        refine same_q (congrArg SV.u8 (by show (tw (rc ((s.i - 1) / 8))) = rc ((s.i + 1 - 1) / 8); rw [Nat.add_sub_cancel, rc_next (by omega) (by omega) h6])) ?_
                        repeat ((conv => whnf); refine same_i ?_)
                        exact trivial
                  · by_cases h9 : s.i % 8 = 4
                    · repeat ((conv => whnf); first | refine pre_a ?_ | refine cond_ta ?_ | refine cond_fa ?_ | refine same_i ?_)
                      conv => whnf
                      rw [boxA, tT]
                      refine loop_h (Ix (4)) (fun r => ⟨[(0, .str key), (3, .int 8), (4, .sl 0 0 0 [] s.i (s.i + s.t.t)), (6, .u8 (rc ((s.i - 1) / 8))), (7, .int s.i), (8, .ptr 1 0 0 []), (9, .int r.i)], [.mk 140 [.arr8 (4 * s.i + s.t.t * 4) (ks key 8 s.i ++ s.t.l)], .mk 140 [.arr8 4 (ovr (tmpW 8 s.i T) 0 (fun k => (ks key 8 s.i).getD (4 * (s.i - 8) + k) 0 ^^^ (tmpW 8 s.i T).getD k 0) r.i)]]⟩) (fun r => (4) - r.i) ⟨0, Nat.zero_le _⟩ [0, 1] ?_ ?_
                      · repeat ((conv => whnf); refine same_i ?_)
                        conv => whnf
                        refine same_q (by show _ = SV.agg [SV.arr8 4 (ovr _ 0 _ 0)]; rw [ovr_zero]; unfold tmpW; rw [if_neg h6, if_pos ⟨rfl, h9⟩]; rfl) ?_
                        repeat ((conv => whnf); refine same_i ?_)
                        exact trivial
                      · intro r
                        have hri := r.hi
                        have hJ : ((r.i : Int)).toNat = r.i := Int.toNat_natCast _
                        have hTW := tmpW_len (n := 8) (i := s.i) hTl
                        have hlo := ovr_len (l := tmpW 8 s.i T) (a := 0) (i := r.i) (by omega) (fun k => (ks key 8 s.i).getD (4 * (s.i - 8) + k) 0 ^^^ (tmpW 8 s.i T).getD k 0)
                        have hWl : (ks key 8 s.i ++ s.t.l).length = 4 * s.i + s.t.t * 4 := by rw [List.length_append, hl, ht]
                        by_cases h7 : r.i < 4
                        · repeat ((conv => whnf); first | refine pre_a ?_ | refine cond_ta ?_ | refine cond_fa ?_ | refine same_i ?_)
                          conv => whnf
                          refine ⟨⟨r.i + 1, h7⟩, [0, 1], by show (4) - (r.i + 1) < (4) - r.i; omega, ?_⟩
                          repeat ((conv => whnf); refine same_i ?_)
                          conv => whnf
                          refine same_q (congrArg (fun x => SV.agg [SV.arr8 4 x]) (ovr_step (by omega) ?hv ?hkk)) ?_
                          case hkk => show r.i = 0 + r.i; omega
                          case hv =>
                            show List.getD (ovr _ _ _ _) r.i 0 ^^^ List.getD (ks key 8 s.i ++ s.t.l) (((s.i : Int) - 8).toNat * 4 + r.i) 0 = _
                            rw [ovr_get (by omega) _ (by omega), show ((s.i : Int) - 8).toNat * 4 + r.i = 4 * (s.i - 8) + r.i by omega, List.getD_eq_getElem?_getD (l := _ ++ _), List.getElem?_append_left (by omega), ← List.getD_eq_getElem?_getD, UInt8.xor_comm]
                          repeat ((conv => whnf); refine same_i ?_)
                          exact trivial
                        · have e7 : r.i = 4 := by omega
                          rw [e7, ovr_fin hTW, hnx]
                          have hNl := nextW_len (i := s.i) hkn (ks key 8 s.i)
                          have eSp : splice (List.replicate (1 * 4) 0) (off [(0, ty140.sz)]) (nextW key 8 s.i (ks key 8 s.i)) = nextW key 8 s.i (ks key 8 s.i) := by
                            show List.take 0 _ ++ nextW key 8 s.i (ks key 8 s.i) ++ List.drop (0 + _) (List.replicate 4 0) = _
                            rw [hNl]; simp
                          repeat ((conv => whnf); first | refine pre_a ?_ | refine cond_ta ?_ | refine cond_fa ?_ | refine same_i ?_)
                          conv => whnf
                          rw [eSp]
                          repeat ((conv => whnf); first | refine pre_a ?_ | refine cond_ta ?_ | refine cond_fa ?_ | refine same_i ?_)
                          conv => whnf
                          refine pre_i ⟨Nat.le_add_right _ _, by show 4 * s.i + s.t.t * 4 = (s.i + s.t.t) * 4; omega, by decide, by show (s.i + 1) * 4 ≤ _; omega⟩ ?_
                          repeat ((conv => whnf); first | refine pre_a ?_ | refine cond_ta ?_ | refine cond_fa ?_ | refine same_i ?_)
                          conv => whnf
                          refine all_i fun x => ?_
                          repeat ((conv => whnf); first | refine pre_a ?_ | refine cond_ta ?_ | refine cond_fa ?_ | refine same_i ?_)
                          conv => whnf
                          refine ⟨⟨s.i + 1, by omega, h4, x⟩, [3], by show 60 - (s.i + 1) < 60 - s.i; omega, ?_⟩
                          repeat ((conv => whnf); refine same_i ?_)
                          conv => whnf
                          refine same_q (agg8 (by show s.i * 4 + 1 * 4 + x.t * 4 = 4 * (s.i + 1) + x.t * 4; omega) ?hl) ?_
                          case hl =>
                            show List.take (s.i * 4) (ks key 8 s.i ++ s.t.l) ++ List.take (1 * 4) (nextW key 8 s.i (ks key 8 s.i)) ++ x.l = ks key 8 (s.i + 1) ++ x.l
                            rw [List.take_left' (by rw [hl]; omega), ks_succ, List.take_of_length_le (by omega)]
                          repeat ((conv => whnf); refine same_i ?_)
                          conv => whnf
                          refine same_q (congrArg SV.u8 (by show (rc ((s.i - 1) / 8)) = rc ((s.i + 1 - 1) / 8); rw [Nat.add_sub_cancel, rc_keep (by omega) h6])) ?_
                          repeat ((conv => whnf); refine same_i ?_)
                          exact trivial
                    · repeat ((conv => whnf); first | refine pre_a ?_ | refine cond_ta ?_ | refine cond_fa ?_ | refine same_i ?_)
                      conv => whnf
                      rw [tT]
                      refine loop_h (Ix (4)) (fun r => ⟨[(0, .str key), (3, .int 8), (4, .sl 0 0 0 [] s.i (s.i + s.t.t)), (6, .u8 (rc ((s.i - 1) / 8))), (7, .int s.i), (8, .ptr 1 0 0 []), (9, .int r.i)], [.mk 140 [.arr8 (4 * s.i + s.t.t * 4) (ks key 8 s.i ++ s.t.l)], .mk 140 [.arr8 4 (ovr (tmpW 8 s.i T) 0 (fun k => (ks key 8 s.i).getD (4 * (s.i - 8) + k) 0 ^^^ (tmpW 8 s.i T).getD k 0) r.i)]]⟩) (fun r => (4) - r.i) ⟨0, Nat.zero_le _⟩ [0, 1] ?_ ?_
                      · repeat ((conv => whnf); refine same_i ?_)
                        conv => whnf
                        refine same_q (by show SV.agg [SV.arr8 4 T] = SV.agg [SV.arr8 4 (ovr _ 0 _ 0)]; rw [ovr_zero]; unfold tmpW; rw [if_neg h6, if_neg (fun h => h9 h.2)]) ?_
                        repeat ((conv => whnf); refine same_i ?_)
                        exact trivial
                      · intro r
                        have hri := r.hi
                        have hJ : ((r.i : Int)).toNat = r.i := Int.toNat_natCast _
                        have hTW := tmpW_len (n := 8) (i := s.i) hTl
                        have hlo := ovr_len (l := tmpW 8 s.i T) (a := 0) (i := r.i) (by omega) (fun k => (ks key 8 s.i).getD (4 * (s.i - 8) + k) 0 ^^^ (tmpW 8 s.i T).getD k 0)
                        have hWl : (ks key 8 s.i ++ s.t.l).length = 4 * s.i + s.t.t * 4 := by rw [List.length_append, hl, ht]
                        by_cases h7 : r.i < 4
                        · repeat ((conv => whnf); first | refine pre_a ?_ | refine cond_ta ?_ | refine cond_fa ?_ | refine same_i ?_)
                          conv => whnf
                          refine ⟨⟨r.i + 1, h7⟩, [0, 1], by show (4) - (r.i + 1) < (4) - r.i; omega, ?_⟩
                          repeat ((conv => whnf); refine same_i ?_)
                          conv => whnf
                          refine same_q (congrArg (fun x => SV.agg [SV.arr8 4 x]) (ovr_step (by omega) ?hv ?hkk)) ?_
                          case hkk => show r.i = 0 + r.i; omega
                          case hv =>
                            show List.getD (ovr _ _ _ _) r.i 0 ^^^ List.getD (ks key 8 s.i ++ s.t.l) (((s.i : Int) - 8).toNat * 4 + r.i) 0 = _
                            rw [ovr_get (by omega) _ (by omega), show ((s.i : Int) - 8).toNat * 4 + r.i = 4 * (s.i - 8) + r.i by omega, List.getD_eq_getElem?_getD (l := _ ++ _), List.getElem?_append_left (by omega), ← List.getD_eq_getElem?_getD, UInt8.xor_comm]
                          repeat ((conv => whnf); refine same_i ?_)
                          exact trivial
                        · have e7 : r.i = 4 := by omega
                          rw [e7, ovr_fin hTW, hnx]
                          have hNl := nextW_len (i := s.i) hkn (ks key 8 s.i)
                          have eSp : splice (List.replicate (1 * 4) 0) (off [(0, ty140.sz)]) (nextW key 8 s.i (ks key 8 s.i)) = nextW key 8 s.i (ks key 8 s.i) := by
                            show List.take 0 _ ++ nextW key 8 s.i (ks key 8 s.i) ++ List.drop (0 + _) (List.replicate 4 0) = _
                            rw [hNl]; simp
                          repeat ((conv => whnf); first | refine pre_a ?_ | refine cond_ta ?_ | refine cond_fa ?_ | refine same_i ?_)
                          conv => whnf
                          rw [eSp]
                          repeat ((conv => whnf); first | refine pre_a ?_ | refine cond_ta ?_ | refine cond_fa ?_ | refine same_i ?_)
                          conv => whnf
                          refine pre_i ⟨Nat.le_add_right _ _, by show 4 * s.i + s.t.t * 4 = (s.i + s.t.t) * 4; omega, by decide, by show (s.i + 1) * 4 ≤ _; omega⟩ ?_
                          repeat ((conv => whnf); first | refine pre_a ?_ | refine cond_ta ?_ | refine cond_fa ?_ | refine same_i ?_)
                          conv => whnf
                          refine all_i fun x => ?_
                          repeat ((conv => whnf); first | refine pre_a ?_ | refine cond_ta ?_ | refine cond_fa ?_ | refine same_i ?_)
                          conv => whnf
                          refine ⟨⟨s.i + 1, by omega, h4, x⟩, [3], by show 60 - (s.i + 1) < 60 - s.i; omega, ?_⟩
                          repeat ((conv => whnf); refine same_i ?_)
                          conv => whnf
                          refine same_q (agg8 (by show s.i * 4 + 1 * 4 + x.t * 4 = 4 * (s.i + 1) + x.t * 4; omega) ?hl) ?_
                          case hl =>
                            show List.take (s.i * 4) (ks key 8 s.i ++ s.t.l) ++ List.take (1 * 4) (nextW key 8 s.i (ks key 8 s.i)) ++ x.l = ks key 8 (s.i + 1) ++ x.l
                            rw [List.take_left' (by rw [hl]; omega), ks_succ, List.take_of_length_le (by omega)]
                          repeat ((conv => whnf); refine same_i ?_)
                          conv => whnf
                          refine same_q (congrArg SV.u8 (by show (rc ((s.i - 1) / 8)) = rc ((s.i + 1 - 1) / 8); rw [Nat.add_sub_cancel, rc_keep (by omega) h6])) ?_
                          repeat ((conv => whnf); refine same_i ?_)
                          exact trivial
                · have e4 : s.i = 60 := by omega
                  obtain ⟨si, sh1, sh2, st⟩ := s
                  replace e4 : si = 60 := e4
                  subst e4
                  have h := h st
                  repeat ((conv => whnf); first | refine pre_a ?_ | refine cond_ta ?_ | refine cond_fa ?_ | refine same_i ?_)
                  conv => whnf
                  refine final_h (hp' := [.mk 140 [.arr8 (4 * 60 + st.t * 4) (ks key 8 60 ++ st.l)]]) [0] h ?_
                  repeat ((conv => whnf); refine same_i ?_)
                  exact trivial
    · exact h.elim
end Go.Sym.A

namespace Go.Sym.A
open Go Go.Proofs.Try Go.Sym.Lp Go.Sym.Aes
set_option maxRecDepth 100000
attribute [local irreducible] box tw subS mixC
/-- the orders of the drawn regions of ref4.cipher -/
def pl93 : List (Nat × List PStep) := [(5, [⟨0, []⟩, ⟨1, [0]⟩, ⟨2, [0, 1]⟩, ⟨3, [0]⟩, ⟨4, [0, 1, 2, 3]⟩, ⟨5, [0, 1, 2, 3, 4]⟩, ⟨6, [0, 1, 2, 3, 4]⟩, ⟨7, [0, 1, 2, 3, 4, 5, 6]⟩, ⟨8, [0, 1, 2, 3, 4, 5, 6]⟩, ⟨9, [0, 1, 2, 3, 7, 8]⟩, ⟨10, [0, 1, 2, 3]⟩, ⟨11, [0, 1, 2, 3]⟩, ⟨12, [0]⟩, ⟨13, []⟩, ⟨14, []⟩]), (19, [⟨0, []⟩, ⟨1, []⟩, ⟨2, []⟩, ⟨3, [0, 1, 2]⟩, ⟨4, [0, 1, 2]⟩, ⟨5, [0, 1, 2]⟩, ⟨6, [0, 1, 2]⟩, ⟨7, []⟩, ⟨8, [0, 1, 2, 3, 4, 5, 6, 7]⟩, ⟨9, [0, 1, 2, 3, 4, 5, 6, 7]⟩, ⟨10, [0, 1, 2, 3, 4, 5, 6, 7]⟩, ⟨11, [0, 1, 2, 3, 4, 5, 6, 7]⟩, ⟨12, []⟩, ⟨13, [0, 1, 2, 3, 4, 5, 6, 7, 8, 9, 10, 11, 12]⟩, ⟨14, [0, 1, 2, 3, 4, 5, 6, 7, 8, 9, 10, 11, 12]⟩, ⟨15, [0, 1, 2, 3, 4, 5, 6, 7, 8, 9, 10, 11, 12]⟩, ⟨16, [0, 1, 2, 3, 4, 5, 6, 7, 8, 9, 10, 11, 12]⟩, ⟨17, []⟩, ⟨18, []⟩]), (24, [⟨0, []⟩, ⟨1, [0]⟩, ⟨2, []⟩, ⟨3, [0, 1, 2]⟩, ⟨4, [0, 1, 2, 3]⟩, ⟨5, [0, 1, 2]⟩, ⟨6, [0, 1, 2]⟩, ⟨7, [0, 1, 2]⟩, ⟨8, [0, 1, 2, 3, 4, 5, 6, 7]⟩, ⟨9, [0, 1, 2]⟩, ⟨10, [0, 1, 2, 3, 4, 5, 6, 7, 8, 9]⟩, ⟨11, [0, 1, 2, 3, 4, 5, 6, 7, 8, 9, 10]⟩, ⟨12, [0, 1, 2, 3, 4, 5, 6, 7, 8, 9]⟩, ⟨13, [0, 1, 2, 3, 4, 5, 6, 7, 8, 9]⟩, ⟨14, [0, 1, 2, 3, 4, 5, 6, 7, 8, 9]⟩, ⟨15, [0, 1, 2, 3, 4, 5, 6, 7, 8, 9, 10, 11, 12, 13, 14]⟩, ⟨16, [0, 1, 2, 3, 4, 5, 6, 7, 8, 9, 10, 11, 12, 13, 14, 15]⟩, ⟨17, [0, 1, 2, 3, 4, 5, 6, 7, 8, 9, 10, 11, 12, 13, 14]⟩, ⟨18, [0, 1, 2, 3, 4, 5, 6, 7, 8, 9, 10, 11, 12, 13, 14]⟩, ⟨19, [0, 1, 2, 3, 4, 5, 6, 7, 8, 9, 10, 11, 12, 13, 14]⟩, ⟨20, [0, 1, 2, 3, 4, 5, 6, 7, 8, 9, 10, 11, 12, 13, 14]⟩, ⟨21, [0, 1, 2, 3, 4, 5, 6, 7, 8, 9]⟩, ⟨22, [0, 1, 2, 3, 4, 5, 6, 7, 8, 9]⟩, ⟨23, [0, 1, 2]⟩, ⟨24, []⟩, ⟨25, []⟩]), (25, [⟨0, []⟩, ⟨1, []⟩, ⟨2, [0, 1]⟩, ⟨3, [0, 1]⟩, ⟨4, [0, 1]⟩, ⟨5, [0, 1]⟩, ⟨6, [0, 1, 2, 3, 4, 5]⟩, ⟨7, [0, 1]⟩, ⟨8, [0, 1, 2, 3, 4, 5, 6, 7]⟩, ⟨9, [0, 1, 2, 3, 4, 5, 6, 7]⟩, ⟨10, [0, 1, 2, 3, 4, 5, 6, 7]⟩, ⟨11, [0, 1, 2, 3, 4, 5, 6, 7]⟩, ⟨12, [0, 1, 2, 3, 4, 5, 6, 7, 8, 9, 10, 11]⟩, ⟨13, [0, 1, 2, 3, 4, 5, 6, 7]⟩, ⟨14, [0, 1, 2, 3, 4, 5, 6, 7]⟩, ⟨15, [0, 1]⟩, ⟨16, []⟩, ⟨17, []⟩]), (29, [⟨0, []⟩, ⟨1, [0]⟩, ⟨2, [0]⟩, ⟨3, [0]⟩, ⟨4, [0, 1, 2, 3]⟩, ⟨5, [0, 1, 2, 3, 4]⟩, ⟨6, [0, 1, 2, 3, 4]⟩, ⟨7, [0, 1, 2, 3, 4, 5, 6]⟩, ⟨8, [0, 1, 2, 3, 4, 5, 6]⟩, ⟨9, [0, 1, 2, 3, 4]⟩, ⟨10, [0, 1, 2, 3, 4, 5, 6, 7, 8, 9]⟩, ⟨11, [0, 1, 2, 3, 4, 5, 6, 7, 8, 9]⟩, ⟨12, [0, 1, 2, 3, 10, 11]⟩, ⟨13, [0, 1, 2, 3]⟩, ⟨14, [0, 1, 2, 3]⟩, ⟨15, [0]⟩, ⟨16, []⟩, ⟨17, []⟩])]

def rcipherS : Spec := fun args hp K => match args, hp with
  | [.sl 0 0 0 [] n c, .str s], [.mk t [.arr8 N W]] => ∃ R, (n = 4 * R ∧ 1 ≤ R ∧ R ≤ 100 ∧ s.length = 16 ∧ 16 * R ≤ W.length) ∧ K (.str (enc W R s)) [.mk t [.arr8 N W]]
  | _, _ => False
set_option maxHeartbeats 8000000 in
theorem rcipher_s : SoundC prog 93 rcipherS := by
  refine sound_f tyAes_ok (fnok_cons double_s fnok_nil) rfl func93 rfl call93 (D := pl93) ?_ ?_
  · intro args hp K h
    unfold rcipherS at h
    split at h
    · exact Nat.le_of_ble_eq_true rfl
    · exact h.elim
  · intro args hp K h
    unfold rcipherS at h
    split at h
    · rename_i n c s t N W
      obtain ⟨R, ⟨rfl, hR, hR2, hs, hW⟩, h⟩ := h
      have hB := box_len
      repeat ((conv => whnf); first | refine pre_a ?_ | refine cond_ta ?_ | refine cond_fa ?_ | refine same_i ?_)
      conv => whnf
      refine loop_h (Ix (16)) (fun q => ⟨[(0, .sl 0 0 0 [] (4 * R) c), (1, .str s), (5, .ptr 1 0 0 []), (6, .int q.i)], [.mk t [.arr8 N W], .mk 103 [.arr8 16 (ovr (List.replicate 16 0) 0 (fun j => s.getD j 0 ^^^ W.getD (16 * 0 + j) 0) q.i)]]⟩) (fun q => (16) - q.i) ⟨0, Nat.zero_le _⟩ [0, 1] ?_ ?_
      · repeat ((conv => whnf); refine same_i ?_)
        exact trivial
      · intro q
        have hi := q.hi
        have hI : ((q.i : Int)).toNat = q.i := Int.toNat_natCast _
        have hd4 : (q.i : Int).tdiv 4 = ((q.i / 4 : Nat) : Int) := by rw [Int.tdiv_eq_ediv_of_nonneg (by omega)]; omega
        have hm4 : (q.i : Int).tmod 4 = ((q.i % 4 : Nat) : Int) := by rw [Int.tmod_eq_emod_of_nonneg (by omega)]; omega
        have hpd : (4 : Int) ≠ 0 ∧ fits ((q.i : Int).tdiv 4) := ⟨by decide, by unfold fits; omega⟩
        have hlo := ovr_len (l := List.replicate 16 (0 : UInt8)) (a := 0) (i := q.i) (by rw [List.length_replicate]; omega) (fun j => s.getD j 0 ^^^ W.getD (16 * 0 + j) 0)
        rw [List.length_replicate] at hlo
        by_cases h4 : q.i < 16
        · repeat ((conv => whnf); first | refine pre_a ?_ | refine cond_ta ?_ | refine cond_fa ?_ | refine same_i ?_)
          conv => whnf
          refine ⟨⟨q.i + 1, h4⟩, [0, 1], by show (16) - (q.i + 1) < (16) - q.i; omega, ?_⟩
          repeat ((conv => whnf); refine same_i ?_)
          conv => whnf
          refine same_q (congrArg (fun x => SV.agg [SV.arr8 16 x]) (ovr_step (by rw [List.length_replicate]; omega) ?hv ?hkk)) ?_
          case hkk => show q.i = 0 + q.i; omega
          case hv =>
            show s.getD q.i 0 ^^^ W.getD (((q.i : Int).tdiv 4).toNat * 4 + ((q.i : Int).tmod 4).toNat) 0 = _
            rw [show ((q.i : Int).tdiv 4).toNat * 4 + ((q.i : Int).tmod 4).toNat = 16 * 0 + q.i by omega]
          repeat ((conv => whnf); refine same_i ?_)
          exact trivial
        · have e4 : q.i = 16 := by omega
          rw [e4, ovr_fin (List.length_replicate), show (List.range 16).map (fun j => s.getD j 0 ^^^ W.getD (16 * 0 + j) 0) = encSt W R s 0 from rfl]
          clear hlo hI hi h4 e4 hd4 hm4 hpd q
          have hR4 : ((4 * R : Nat) : Int).tdiv 4 = (R : Int) := by rw [Int.tdiv_eq_ediv_of_nonneg (by omega)]; omega
          have hpd : (4 : Int) ≠ 0 ∧ fits (((4 * R : Nat) : Int).tdiv 4) := ⟨by decide, by unfold fits; omega⟩
          repeat ((conv => whnf); first | refine pre_a ?_ | refine cond_ta ?_ | refine cond_fa ?_ | refine same_i ?_)
          conv => whnf
          rw [hR4]
          refine loop_h (Ix ((R - 1))) (fun q => ⟨[(0, .sl 0 0 0 [] (4 * R) c), (1, .str s), (5, .ptr 1 0 0 []), (7, .int ((R : Int) - 1)), (8, .int ((q.i : Int) + 1))], [.mk t [.arr8 N W], .mk 103 [.arr8 16 (encSt W R s q.i)]]⟩) (fun q => ((R - 1)) - q.i) ⟨0, Nat.zero_le _⟩ [0, 1] ?_ ?_
          · repeat ((conv => whnf); refine same_i ?_)
            exact trivial
          · intro q
            have hi := q.hi
            have hX := encSt_len W R s q.i
            by_cases h4 : q.i < R - 1
            · repeat ((conv => whnf); first | refine pre_a ?_ | refine cond_ta ?_ | refine cond_fa ?_ | refine same_i ?_)
              conv => whnf
              generalize hXe : encSt W R s q.i = X at *
              refine loop_h (Ix (16)) (fun r => ⟨[(0, .sl 0 0 0 [] (4 * R) c), (1, .str s), (5, .ptr 1 0 0 []), (7, .int ((R : Int) - 1)), (8, .int ((q.i : Int) + 1)), (9, .ptr 2 0 0 []), (10, .int r.i)], [.mk t [.arr8 N W], .mk 103 [.arr8 16 X], .mk 103 [.arr8 16 (ovr (List.replicate 16 0) 0 (fun i => box.getD (X.getD ((i + 4 * (i % 4)) % 16) 0).toNat 0) r.i)]]⟩) (fun r => (16) - r.i) ⟨0, Nat.zero_le _⟩ [0, 1, 2] ?_ ?_
              · repeat ((conv => whnf); refine same_i ?_)
                exact trivial
              · intro r
                have hri := r.hi
                have hJ : ((r.i : Int)).toNat = r.i := Int.toNat_natCast _
                have hm4 : (r.i : Int).tmod 4 = ((r.i % 4 : Nat) : Int) := by rw [Int.tmod_eq_emod_of_nonneg (by omega)]; omega
                have hm16 : ((r.i : Int) + 4 * (r.i : Int).tmod 4).tmod 16 = (((r.i + 4 * (r.i % 4)) % 16 : Nat) : Int) := by rw [hm4, Int.tmod_eq_emod_of_nonneg (by omega)]; omega
                have hlo := ovr_len (l := List.replicate 16 (0 : UInt8)) (a := 0) (i := r.i) (by rw [List.length_replicate]; omega) (fun i => box.getD (X.getD ((i + 4 * (i % 4)) % 16) 0).toNat 0)
                rw [List.length_replicate] at hlo
                by_cases h5 : r.i < 16
                · repeat ((conv => whnf); first | refine pre_a ?_ | refine cond_ta ?_ | refine cond_fa ?_ | refine same_i ?_)
                  conv => whnf
                  rw [boxA]
                  conv => whnf
                  refine ⟨⟨r.i + 1, h5⟩, [0, 1, 2], by show (16) - (r.i + 1) < (16) - r.i; omega, ?_⟩
                  repeat ((conv => whnf); refine same_i ?_)
                  conv => whnf
                  refine same_q (congrArg (fun x => SV.agg [SV.arr8 16 x]) (ovr_step (by rw [List.length_replicate]; omega) ?hv ?hkk)) ?_
                  case hkk => show r.i = 0 + r.i; omega
                  case hv =>
                    show box.getD (UInt8.toNat (X.getD (((r.i : Int) + 4 * (r.i : Int).tmod 4).tmod 16).toNat 0)) 0 = _
                    rw [hm16, Int.toNat_natCast]
                  repeat ((conv => whnf); refine same_i ?_)
                  exact trivial
                · have e5 : r.i = 16 := by omega
                  rw [e5, ovr_fin (List.length_replicate), show (List.range 16).map (fun i => box.getD (X.getD ((i + 4 * (i % 4)) % 16) 0).toNat 0) = subS X by unfold subS; rfl]
                  clear hm4 hm16 hlo hJ hri h5 e5 r
                  have hS := subS_len X
                  by_cases h6 : q.i + 1 < R - 1
                  · repeat ((conv => whnf); first | refine pre_a ?_ | refine cond_ta ?_ | refine cond_fa ?_ | refine same_i ?_)
                    conv => whnf
                    refine loop_h (Ix (4)) (fun m => ⟨[(0, .sl 0 0 0 [] (4 * R) c), (1, .str s), (5, .ptr 1 0 0 []), (7, .int ((R : Int) - 1)), (8, .int ((q.i : Int) + 1)), (9, .ptr 2 0 0 []), (11, .int (4 * (m.i : Int)))], [.mk t [.arr8 N W], .mk 103 [.arr8 16 X], .mk 103 [.arr8 16 (ovr (subS X) 0 (mixG (subS X)) (4 * m.i))]]⟩) (fun m => (4) - m.i) ⟨0, Nat.zero_le _⟩ [0, 1, 2] ?_ ?_
                    · repeat ((conv => whnf); refine same_i ?_)
                      exact trivial
                    · intro m
                      have hmi := m.hi
                      have hlm := ovr_len (l := subS X) (a := 0) (i := 4 * m.i) (by omega) (mixG (subS X))
                      by_cases h8 : m.i < 4
                      · have hg : ∀ j, 4 * m.i ≤ j → (ovr (subS X) 0 (mixG (subS X)) (4 * m.i)).getD j 0 = (subS X).getD j 0 := fun j hj => ovr_get (by omega) _ (by omega) _
                        repeat ((conv => whnf); first | refine pre_a ?_ | refine cond_ta ?_ | refine cond_fa ?_ | refine same_i ?_)
                        conv => whnf
                        obtain ⟨al, hal⟩ : ∃ al, al = (subS X).getD (4 * m.i) 0 ^^^ (subS X).getD (4 * m.i + 1) 0 ^^^ (subS X).getD (4 * m.i + 2) 0 ^^^ (subS X).getD (4 * m.i + 3) 0 := ⟨_, rfl⟩
                        refine loop_h (Ix (3)) (fun u => ⟨[(0, .sl 0 0 0 [] (4 * R) c), (1, .str s), (5, .ptr 1 0 0 []), (7, .int ((R : Int) - 1)), (8, .int ((q.i : Int) + 1)), (9, .ptr 2 0 0 []), (11, .int (4 * (m.i : Int))), (12, .u8 al), (13, .u8 ((subS X).getD (4 * m.i) 0)), (14, .int u.i)], [.mk t [.arr8 N W], .mk 103 [.arr8 16 X], .mk 103 [.arr8 16 (ovr (subS X) 0 (mixG (subS X)) (4 * m.i + u.i))]]⟩) (fun u => (3) - u.i) ⟨0, Nat.zero_le _⟩ [0, 1, 2] ?_ ?_
                        · repeat ((conv => whnf); refine same_i ?_)
                          conv => whnf
                          refine same_q (congrArg SV.u8 (by show (ovr _ _ _ _).getD (4 * m.i) 0 ^^^ (ovr _ _ _ _).getD (4 * m.i + 1) 0 ^^^ (ovr _ _ _ _).getD (4 * m.i + 2) 0 ^^^ (ovr _ _ _ _).getD (4 * m.i + 3) 0 = al; rw [hg _ (by omega), hg _ (by omega), hg _ (by omega), hg _ (by omega), hal])) ?_
                          repeat ((conv => whnf); refine same_i ?_)
                          conv => whnf
                          refine same_q (congrArg SV.u8 (by show (ovr _ _ _ _).getD (4 * m.i) 0 = (subS X).getD (4 * m.i) 0; rw [hg _ (by omega)])) ?_
                          repeat ((conv => whnf); refine same_i ?_)
                          exact trivial
                        · intro u
                          have hui := u.hi
                          have hlu := ovr_len (l := subS X) (a := 0) (i := 4 * m.i + u.i) (by omega) (mixG (subS X))
                          have hgu : ∀ j, 4 * m.i + u.i ≤ j → (ovr (subS X) 0 (mixG (subS X)) (4 * m.i + u.i)).getD j 0 = (subS X).getD j 0 := fun j hj => ovr_get (by omega) _ (by omega) _
                          by_cases h9 : u.i < 3
                          · have hat := mixG_at (subS X) m.i u.i (by omega)
                            rw [← hal, Nat.mod_eq_of_lt (by omega)] at hat
                            repeat ((conv => whnf); first | refine pre_a ?_ | refine cond_ta ?_ | refine cond_fa ?_ | refine same_i ?_)
                            conv => whnf
                            refine ⟨⟨u.i + 1, h9⟩, [0, 1, 2], by show (3) - (u.i + 1) < (3) - u.i; omega, ?_⟩
                            repeat ((conv => whnf); refine same_i ?_)
                            conv => whnf
                            refine same_q (congrArg (fun x => SV.agg [SV.arr8 16 x]) (ovr_step (by omega) ?hv ?hkk)) ?_
                            case hkk => show 4 * m.i + u.i = 0 + (4 * m.i + u.i); omega
                            case hv =>
                              show (ovr _ _ _ _).getD (4 * m.i + u.i) 0 ^^^ al ^^^ tw ((ovr _ _ _ _).getD (4 * m.i + u.i) 0 ^^^ (ovr _ _ _ _).getD (4 * m.i + u.i + 1) 0) = _
                              rw [hgu _ (by omega), hgu _ (by omega), hat, UInt8.xor_assoc]; rfl
                            repeat ((conv => whnf); refine same_i ?_)
                            exact trivial
                          · have e9 : u.i = 3 := by omega
                            have hat := mixG_at (subS X) m.i 3 (by omega)
                            rw [← hal, show (3 + 1) % 4 = 0 by decide, Nat.add_zero] at hat
                            rw [e9] at hlu hgu
                            rw [e9]
                            repeat ((conv => whnf); first | refine pre_a ?_ | refine cond_ta ?_ | refine cond_fa ?_ | refine same_i ?_)
                            conv => whnf
                            refine ⟨⟨m.i + 1, h8⟩, [0, 1, 2], by show (4) - (m.i + 1) < (4) - m.i; omega, ?_⟩
                            repeat ((conv => whnf); refine same_i ?_)
                            conv => whnf
                            refine same_q (congrArg (fun x => SV.agg [SV.arr8 16 x]) (ovr_step (by omega) ?hv ?hkk)) ?_
                            case hkk => show 4 * m.i + 3 = 0 + (4 * m.i + 3); omega
                            case hv =>
                              show (ovr _ _ _ _).getD (4 * m.i + 3) 0 ^^^ al ^^^ tw ((ovr _ _ _ _).getD (4 * m.i + 3) 0 ^^^ (subS X).getD (4 * m.i) 0) = _
                              rw [hgu _ (by omega), hat, UInt8.xor_assoc]; rfl
                            repeat ((conv => whnf); refine same_i ?_)
                            exact trivial
                      · have e8 : m.i = 4 := by omega
                        rw [e8, show ovr (subS X) 0 (mixG (subS X)) (4 * 4) = mixC (subS X) by unfold mixC; exact ovr_fin hS _]
                        clear hlm hmi h8 e8 m
                        repeat ((conv => whnf); first | refine pre_a ?_ | refine cond_ta ?_ | refine cond_fa ?_ | refine same_i ?_)
                        conv => whnf
                        refine loop_h (Ix (16)) (fun k => ⟨[(0, .sl 0 0 0 [] (4 * R) c), (1, .str s), (5, .ptr 1 0 0 []), (7, .int ((R : Int) - 1)), (8, .int ((q.i : Int) + 1)), (9, .ptr 2 0 0 []), (15, .int k.i)], [.mk t [.arr8 N W], .mk 103 [.arr8 16 (ovr X 0 (fun j => (mixC (subS X)).getD j 0 ^^^ W.getD (16 * (q.i + 1) + j) 0) k.i)], .mk 103 [.arr8 16 (mixC (subS X))]]⟩) (fun k => (16) - k.i) ⟨0, Nat.zero_le _⟩ [0, 1, 2] ?_ ?_
                        · repeat ((conv => whnf); refine same_i ?_)
                          exact trivial
                        · intro k
                          have hki := k.hi
                          have hK : ((k.i : Int)).toNat = k.i := Int.toNat_natCast _
                          have hd4 : (k.i : Int).tdiv 4 = ((k.i / 4 : Nat) : Int) := by rw [Int.tdiv_eq_ediv_of_nonneg (by omega)]; omega
                          have hm4 : (k.i : Int).tmod 4 = ((k.i % 4 : Nat) : Int) := by rw [Int.tmod_eq_emod_of_nonneg (by omega)]; omega
                          have hpd : (4 : Int) ≠ 0 ∧ fits ((k.i : Int).tdiv 4) := ⟨by decide, by unfold fits; omega⟩
                          have hlo := ovr_len (l := X) (a := 0) (i := k.i) (by omega) (fun j => (mixC (subS X)).getD j 0 ^^^ W.getD (16 * (q.i + 1) + j) 0)
                          have hls : (mixC (subS X)).length = 16 := mixC_len _
                          by_cases h7 : k.i < 16
                          · repeat ((conv => whnf); first | refine pre_a ?_ | refine cond_ta ?_ | refine cond_fa ?_ | refine same_i ?_)
                            conv => whnf
                            refine ⟨⟨k.i + 1, h7⟩, [0, 1, 2], by show (16) - (k.i + 1) < (16) - k.i; omega, ?_⟩
                            repeat ((conv => whnf); refine same_i ?_)
                            conv => whnf
                            refine same_q (congrArg (fun x => SV.agg [SV.arr8 16 x]) (ovr_step (by omega) ?hv ?hkk)) ?_
                            case hkk => show k.i = 0 + k.i; omega
                            case hv =>
                              show List.getD _ k.i 0 ^^^ W.getD ((4 * ((q.i : Int) + 1) + (k.i : Int).tdiv 4).toNat * 4 + ((k.i : Int).tmod 4).toNat) 0 = _
                              rw [show (4 * ((q.i : Int) + 1) + (k.i : Int).tdiv 4).toNat * 4 + ((k.i : Int).tmod 4).toNat = 16 * (q.i + 1) + k.i by omega]
                            repeat ((conv => whnf); refine same_i ?_)
                            exact trivial
                          · have e7 : k.i = 16 := by omega
                            have hnx : ovr X 0 (fun j => (mixC (subS X)).getD j 0 ^^^ W.getD (16 * (q.i + 1) + j) 0) 16 = encSt W R s (q.i + 1) := by
                              rw [ovr_fin hX]
                              simp only [encSt]
                              unfold rnd addK
                              rw [hXe, if_pos h6]
                            rw [e7, hnx]
                            repeat ((conv => whnf); first | refine pre_a ?_ | refine cond_ta ?_ | refine cond_fa ?_ | refine same_i ?_)
                            conv => whnf
                            refine ⟨⟨q.i + 1, h4⟩, [0, 1], by show ((R - 1)) - (q.i + 1) < ((R - 1)) - q.i; omega, ?_⟩
                            repeat ((conv => whnf); refine same_i ?_)
                            exact trivial
                  · repeat ((conv => whnf); first | refine pre_a ?_ | refine cond_ta ?_ | refine cond_fa ?_ | refine same_i ?_)
                    conv => whnf
                    refine loop_h (Ix (16)) (fun k => ⟨[(0, .sl 0 0 0 [] (4 * R) c), (1, .str s), (5, .ptr 1 0 0 []), (7, .int ((R : Int) - 1)), (8, .int ((q.i : Int) + 1)), (9, .ptr 2 0 0 []), (15, .int k.i)], [.mk t [.arr8 N W], .mk 103 [.arr8 16 (ovr X 0 (fun j => (subS X).getD j 0 ^^^ W.getD (16 * (q.i + 1) + j) 0) k.i)], .mk 103 [.arr8 16 (subS X)]]⟩) (fun k => (16) - k.i) ⟨0, Nat.zero_le _⟩ [0, 1, 2] ?_ ?_
                    · repeat ((conv => whnf); refine same_i ?_)
                      exact trivial
                    · intro k
                      have hki := k.hi
                      have hK : ((k.i : Int)).toNat = k.i := Int.toNat_natCast _
                      have hd4 : (k.i : Int).tdiv 4 = ((k.i / 4 : Nat) : Int) := by rw [Int.tdiv_eq_ediv_of_nonneg (by omega)]; omega
                      have hm4 : (k.i : Int).tmod 4 = ((k.i % 4 : Nat) : Int) := by rw [Int.tmod_eq_emod_of_nonneg (by omega)]; omega
                      have hpd : (4 : Int) ≠ 0 ∧ fits ((k.i : Int).tdiv 4) := ⟨by decide, by unfold fits; omega⟩
                      have hlo := ovr_len (l := X) (a := 0) (i := k.i) (by omega) (fun j => (subS X).getD j 0 ^^^ W.getD (16 * (q.i + 1) + j) 0)
                      have hls : (subS X).length = 16 := subS_len X
                      by_cases h7 : k.i < 16
                      · repeat ((conv => whnf); first | refine pre_a ?_ | refine cond_ta ?_ | refine cond_fa ?_ | refine same_i ?_)
                        conv => whnf
                        refine ⟨⟨k.i + 1, h7⟩, [0, 1, 2], by show (16) - (k.i + 1) < (16) - k.i; omega, ?_⟩
                        repeat ((conv => whnf); refine same_i ?_)
                        conv => whnf
                        refine same_q (congrArg (fun x => SV.agg [SV.arr8 16 x]) (ovr_step (by omega) ?hv ?hkk)) ?_
                        case hkk => show k.i = 0 + k.i; omega
                        case hv =>
                          show List.getD _ k.i 0 ^^^ W.getD ((4 * ((q.i : Int) + 1) + (k.i : Int).tdiv 4).toNat * 4 + ((k.i : Int).tmod 4).toNat) 0 = _
                          rw [show (4 * ((q.i : Int) + 1) + (k.i : Int).tdiv 4).toNat * 4 + ((k.i : Int).tmod 4).toNat = 16 * (q.i + 1) + k.i by omega]
                        repeat ((conv => whnf); refine same_i ?_)
                        exact trivial
                      · have e7 : k.i = 16 := by omega
                        have hnx : ovr X 0 (fun j => (subS X).getD j 0 ^^^ W.getD (16 * (q.i + 1) + j) 0) 16 = encSt W R s (q.i + 1) := by
                          rw [ovr_fin hX]
                          simp only [encSt]
                          unfold rnd addK
                          rw [hXe, if_neg h6]
                        rw [e7, hnx]
                        repeat ((conv => whnf); first | refine pre_a ?_ | refine cond_ta ?_ | refine cond_fa ?_ | refine same_i ?_)
                        conv => whnf
                        refine ⟨⟨q.i + 1, h4⟩, [0, 1], by show ((R - 1)) - (q.i + 1) < ((R - 1)) - q.i; omega, ?_⟩
                        repeat ((conv => whnf); refine same_i ?_)
                        exact trivial
            · have e4 : q.i = R - 1 := by omega
              rw [e4]
              have hE := encSt_len W R s (R - 1)
              have hT : List.take 16 (List.drop (off []) (encSt W R s (R - 1))) = enc W R s := by unfold enc; exact List.take_of_length_le (Nat.le_of_eq hE)
              repeat ((conv => whnf); first | refine pre_a ?_ | refine cond_ta ?_ | refine cond_fa ?_ | refine same_i ?_)
              conv => whnf
              rw [hT]
              conv => whnf
              refine final_h (hp' := [.mk t [.arr8 N W]]) [0] h ?_
              repeat ((conv => whnf); refine same_i ?_)
              exact trivial
    · exact h.elim
end Go.Sym.A

namespace Go.Sym.A
open Go Go.Proofs.Try Go.Sym.Lp Go.Sym.Gcm Go.Sym.Aes
set_option maxRecDepth 100000
attribute [local irreducible] ldE ld half hf4 fold enc ks box gmul wr
/-- the orders of the drawn regions of ref4.ghash -/
def pl95 : List (Nat × List PStep) := []
/-- the orders of the drawn regions of ref4.counter -/
def pl63 : List (Nat × List PStep) := [(9, [⟨0, []⟩, ⟨1, [0]⟩, ⟨2, [0, 1]⟩, ⟨3, [0]⟩, ⟨4, [0, 1, 2, 3]⟩, ⟨5, [0, 1, 2, 3, 4]⟩, ⟨6, [0, 1, 2, 3, 4, 5]⟩, ⟨7, [0, 1, 2, 3, 4]⟩, ⟨8, [0, 1, 2, 3]⟩, ⟨9, [0, 1, 2, 3, 4, 5, 6, 7, 8]⟩, ⟨10, [0, 1, 2, 3, 4, 5, 6, 7, 8, 9]⟩, ⟨11, [0, 1, 2, 3, 4, 5, 6, 7, 8]⟩, ⟨12, [0, 1, 2, 3]⟩, ⟨13, []⟩, ⟨14, []⟩])]

theorem agg8g {n m : Nat} {x y : List UInt8} (h : n = m) (e : x = y) : SV.agg [SV.arr8 n x] = SV.agg [SV.arr8 m y] := by rw [h, e]
theorem ghSt_s (h : El) (s : List UInt8) (t : Nat) : ghSt h s (t + 1) = gmul h (xr (ghSt h s t) (ld ((s.drop (16 * t)).take 16))) := rfl
def ghashS : Spec := fun args hp K => match args, hp with
  | [.str g, .str s], [] => Pre (g.length = 16 ∧ s.length ≤ 4611686018427387904) (K (.str (wr (ghSt (ld g) s (s.length / 16)))) [])
  | _, _ => False
theorem ghash_s : SoundC prog 95 ghashS := by
  refine sound_f tyGcm_ok (fnok_cons halves_s (fnok_cons gtimes_s (fnok_cons gwhole_s fnok_nil))) rfl func95 rfl call95 (D := pl95) ?_ ?_
  · intro args hp K h
    unfold ghashS at h
    split at h
    · exact Nat.le_of_ble_eq_true rfl
    · exact h.elim
  · intro args hp K h
    unfold ghashS at h
    split at h
    · rename_i g s
      obtain ⟨⟨hg, hs⟩, h⟩ := pre_e h
      repeat ((conv => whnf); first | refine pre_a ?_ | refine cond_ta ?_ | refine cond_fa ?_ | refine same_i ?_)
      conv => whnf
      refine loop_h (Ix ((s.length / 16))) (fun q => ⟨[(1, .str s), (5, .u64 (ld g).1), (6, .u64 (ld g).2), (7, .u64 (ghSt (ld g) s q.i).1), (8, .u64 (ghSt (ld g) s q.i).2), (9, .int (16 * (q.i : Int)))], []⟩) (fun q => ((s.length / 16)) - q.i) ⟨0, Nat.zero_le _⟩ [] ?_ ?_
      · repeat ((conv => whnf); refine same_i ?_)
        exact trivial
      · intro q
        have hi := q.hi
        have hP1 : (16 * (q.i : Int) + 16).toNat - (16 * (q.i : Int)).toNat = 16 := by omega
        have hP2 : (16 * (q.i : Int)).toNat = 16 * q.i := by omega
        by_cases h4 : q.i < s.length / 16
        · repeat ((conv => whnf); first | refine pre_a ?_ | refine cond_ta ?_ | refine cond_fa ?_ | refine same_i ?_)
          conv => whnf
          conv => whnf
          refine ⟨⟨q.i + 1, h4⟩, [], by show ((s.length / 16)) - (q.i + 1) < ((s.length / 16)) - q.i; omega, ?_⟩
          repeat ((conv => whnf); refine same_i ?_)
          conv => whnf
          refine same_q (congrArg SV.u64 (show _ = (ghSt (ld g) s (q.i + 1)).1 by rw [ghSt_s, hP1, hP2] <;> rfl)) ?_
          repeat ((conv => whnf); refine same_i ?_)
          conv => whnf
          refine same_q (congrArg SV.u64 (show _ = (ghSt (ld g) s (q.i + 1)).2 by rw [ghSt_s, hP1, hP2] <;> rfl)) ?_
          repeat ((conv => whnf); refine same_i ?_)
          exact trivial
        · have e4 : q.i = s.length / 16 := by omega
          rw [← e4] at h
          repeat ((conv => whnf); first | refine pre_a ?_ | refine cond_ta ?_ | refine cond_fa ?_ | refine same_i ?_)
          conv => whnf
          refine final_h (hp' := []) [] h ?_
          repeat ((conv => whnf); refine same_i ?_)
          exact trivial
    · exact h.elim
def rcounterS : Spec := fun args hp K => match args, hp with
  | [.sl 0 0 0 [] n c, .str nonce, .int f, .str s], [.mk t [.arr8 N W]] => ∃ R, (n = 4 * R ∧ 1 ≤ R ∧ R ≤ 100 ∧ 16 * R ≤ W.length ∧ nonce.length = 12 ∧ 0 ≤ f ∧ f ≤ 1000 ∧ s.length ≤ 1073741824) ∧ K (.str (gst W R nonce (UInt32.ofNat f.toNat) s)) [.mk t [.arr8 N W]]
  | _, _ => False
theorem rcounter_s : SoundC prog 63 rcounterS := by
  refine sound_f tyGcm_ok (fnok_cons be_s (fnok_cons rcipher_s fnok_nil)) rfl func63 rfl call63 (D := pl63) ?_ ?_
  · intro args hp K h
    unfold rcounterS at h
    split at h
    · exact Nat.le_of_ble_eq_true rfl
    · exact h.elim
  · intro args hp K h
    unfold rcounterS at h
    split at h
    · rename_i n c nonce f s t N W
      obtain ⟨R, ⟨rfl, hR1, hR2, hW, hn, hf0, hf1, hs⟩, h⟩ := h
      obtain ⟨g, rfl⟩ := Int.eq_ofNat_of_zero_le hf0
      rw [Int.toNat_natCast] at h
      have hS : (s.length : Int).toNat = s.length := Int.toNat_natCast _
      repeat ((conv => whnf); first | refine pre_a ?_ | refine cond_ta ?_ | refine cond_fa ?_ | refine same_i ?_)
      conv => whnf
      refine loop_h (Ix (s.length)) (fun q => ⟨[(0, .sl 0 0 0 [] (4 * R) c), (1, .str nonce), (2, .int g), (3, .str s), (9, .sl 1 0 0 [] s.length s.length), (10, .int (16 * (q.i : Int)))], [.mk t [.arr8 N W], .mk 5 [.arr8 s.length (ovr (List.replicate s.length 0) 0 (stG W R nonce (UInt32.ofNat g) s) (min s.length (16 * q.i)))]]⟩) (fun q => (s.length) - q.i) ⟨0, Nat.zero_le _⟩ [0, 1] ?_ ?_
      · repeat ((conv => whnf); refine same_i ?_)
        conv => whnf
        refine same_q (agg8g (by omega) (by rw [hS]; show _ = ovr _ 0 _ (min s.length (16 * 0)); rw [Nat.mul_zero, Nat.min_zero, ovr_zero])) ?_
        repeat ((conv => whnf); refine same_i ?_)
        exact trivial
      · intro q
        have hi := q.hi
        have hlr := List.length_replicate (n := s.length) (a := (0 : UInt8))
        by_cases h4 : 16 * q.i < s.length
        · have hpd : (16 : Int) ≠ 0 ∧ fits ((16 * (q.i : Int)).tdiv 16) := ⟨by decide, by rw [Int.tdiv_eq_ediv_of_nonneg (by omega)]; unfold fits; omega⟩
          have hq : (16 * (q.i : Int)).tdiv 16 = (q.i : Int) := by rw [Int.tdiv_eq_ediv_of_nonneg (by omega)]; omega
          have hbe : nonce ++ beB ((g : Int) + (16 * (q.i : Int)).tdiv 16) 4 = ctr nonce (UInt32.ofNat g + UInt32.ofNat q.i) := by
            rw [hq, show (g : Int) + (q.i : Int) = ((g + q.i : Nat) : Int) by omega, ctr_be (by omega), UInt32.ofNat_add]
          have hcl : (ctr nonce (UInt32.ofNat g + UInt32.ofNat q.i)).length = 16 := ctr_len hn _
          have hpl : nonce.length + (beB ((g : Int) + (16 * (q.i : Int)).tdiv 16) (Int.toNat 4)).length < 9223372036854775808 := by rw [beB_len, hn]; decide
          have hll : (nonce ++ beB ((g : Int) + (16 * (q.i : Int)).tdiv 16) (Int.toNat 4)).length = 16 := by rw [List.length_append, beB_len, hn]; rfl
          have hbl := enc_len W R (nonce ++ beB ((g : Int) + (16 * (q.i : Int)).tdiv 16) (Int.toNat 4))
          repeat ((conv => whnf); first | refine pre_a ?_ | refine cond_ta ?_ | refine cond_fa ?_ | refine same_i ?_)
          conv => whnf
          refine ⟨R, ⟨rfl, hR1, hR2, hll, hW⟩, ?_⟩
          repeat ((conv => whnf); first | refine pre_a ?_ | refine cond_ta ?_ | refine cond_fa ?_ | refine same_i ?_)
          conv => whnf
          refine loop_h (Ix ((min 16 (s.length - 16 * q.i)))) (fun r => ⟨[(0, .sl 0 0 0 [] (4 * R) c), (1, .str nonce), (2, .int g), (3, .str s), (9, .sl 1 0 0 [] s.length s.length), (10, .int (16 * (q.i : Int))), (11, .str (enc W R (nonce ++ beB ((g : Int) + (16 * (q.i : Int)).tdiv 16) (Int.toNat 4)))), (12, .int r.i)], [.mk t [.arr8 N W], .mk 5 [.arr8 s.length (ovr (List.replicate s.length 0) 0 (stG W R nonce (UInt32.ofNat g) s) (16 * q.i + r.i))]]⟩) (fun r => ((min 16 (s.length - 16 * q.i))) - r.i) ⟨0, Nat.zero_le _⟩ [0, 1] ?_ ?_
          · repeat ((conv => whnf); refine same_i ?_)
            conv => whnf
            refine same_q (congrArg (fun k => SV.agg [SV.arr8 s.length (ovr (List.replicate s.length 0) 0 (stG W R nonce (UInt32.ofNat g) s) k)]) (by show min s.length (16 * q.i) = 16 * q.i + 0; omega)) ?_
            repeat ((conv => whnf); refine same_i ?_)
            exact trivial
          · intro r
            have hri := r.hi
            have hlo := ovr_len (l := List.replicate s.length (0 : UInt8)) (a := 0) (i := 16 * q.i + r.i) (by omega) (stG W R nonce (UInt32.ofNat g) s)
            rw [hlr] at hlo
            by_cases h5 : r.i < 16
            · by_cases h6 : 16 * q.i + r.i < s.length
              · have h7 : r.i < min 16 (s.length - 16 * q.i) := by omega
                repeat ((conv => whnf); first | refine pre_a ?_ | refine cond_ta ?_ | refine cond_fa ?_ | refine same_i ?_)
                conv => whnf
                refine ⟨⟨r.i + 1, h7⟩, [0, 1], by show ((min 16 (s.length - 16 * q.i))) - (r.i + 1) < ((min 16 (s.length - 16 * q.i))) - r.i; omega, ?_⟩
                repeat ((conv => whnf); refine same_i ?_)
                conv => whnf
                refine same_q (congrArg (fun x => SV.agg [SV.arr8 s.length x]) (ovr_step (by omega) ?hv ?hkk)) ?_
                case hkk => show (16 * (q.i : Int) + (r.i : Int)).toNat = 0 + (16 * q.i + r.i); omega
                case hv =>
                  show s.getD (16 * (q.i : Int) + (r.i : Int)).toNat 0 ^^^ (enc W R (nonce ++ beB ((g : Int) + (16 * (q.i : Int)).tdiv 16) 4)).getD ((r.i : Int)).toNat 0 = stG W R nonce (UInt32.ofNat g) s (16 * q.i + r.i)
                  unfold stG kb
                  rw [hbe, show (16 * (q.i : Int) + (r.i : Int)).toNat = 16 * q.i + r.i by omega, Int.toNat_natCast, show (16 * q.i + r.i) / 16 = q.i by omega, show (16 * q.i + r.i) % 16 = r.i by omega]
                repeat ((conv => whnf); refine same_i ?_)
                exact trivial
              · have e5 : 16 * q.i + r.i = s.length := by omega
                repeat ((conv => whnf); first | refine pre_a ?_ | refine cond_ta ?_ | refine cond_fa ?_ | refine same_i ?_)
                conv => whnf
                have hq1 : q.i < s.length := by omega
                conv => whnf
                refine ⟨⟨q.i + 1, hq1⟩, [0, 1], by show (s.length) - (q.i + 1) < (s.length) - q.i; omega, ?_⟩
                repeat ((conv => whnf); refine same_i ?_)
                conv => whnf
                refine same_q (congrArg (fun k => SV.agg [SV.arr8 s.length (ovr (List.replicate s.length 0) 0 (stG W R nonce (UInt32.ofNat g) s) k)]) (by show 16 * q.i + r.i = min s.length (16 * (q.i + 1)); omega)) ?_
                repeat ((conv => whnf); refine same_i ?_)
                exact trivial
            · repeat ((conv => whnf); first | refine pre_a ?_ | refine cond_ta ?_ | refine cond_fa ?_ | refine same_i ?_)
              conv => whnf
              have hq1 : q.i < s.length := by omega
              conv => whnf
              refine ⟨⟨q.i + 1, hq1⟩, [0, 1], by show (s.length) - (q.i + 1) < (s.length) - q.i; omega, ?_⟩
              repeat ((conv => whnf); refine same_i ?_)
              conv => whnf
              refine same_q (congrArg (fun k => SV.agg [SV.arr8 s.length (ovr (List.replicate s.length 0) 0 (stG W R nonce (UInt32.ofNat g) s) k)]) (by show 16 * q.i + r.i = min s.length (16 * (q.i + 1)); omega)) ?_
              repeat ((conv => whnf); refine same_i ?_)
              exact trivial
        · have hlo := ovr_len (l := List.replicate s.length (0 : UInt8)) (a := 0) (i := s.length) (by omega) (stG W R nonce (UInt32.ofNat g) s)
          rw [hlr] at hlo
          have e5 : min s.length (16 * q.i) = s.length := by omega
          have e6 : List.take s.length (List.drop (off []) (ovr (List.replicate s.length 0) 0 (stG W R nonce (UInt32.ofNat g) s) s.length)) = gst W R nonce (UInt32.ofNat g) s := by
            rw [ovr_fin hlr]
            exact List.take_of_length_le (Nat.le_of_eq (map_range_len _ _))
          rw [e5]
          repeat ((conv => whnf); first | refine pre_a ?_ | refine cond_ta ?_ | refine cond_fa ?_ | refine same_i ?_)
          conv => whnf
          rw [e6]
          conv => whnf
          refine final_h (hp' := [.mk t [.arr8 N W]]) [0] h ?_
          repeat ((conv => whnf); refine same_i ?_)
          exact trivial
    · exact h.elim
end Go.Sym.A
