/-
  Contracts of functions of the program, each said of symbolic values; no condition beyond each statement's own.
-/
import Derived.Test.YtofhjelmgekofaaT8
import Derived.Test.YtofhjelmgekofaaSymAd
namespace Go.Sym.R
open Go Go.Proofs.Try Go.Sym.Ring
set_option maxRecDepth 100000

/-- a law's context -/
def lawG (nt : Nat) (ty : List (Nat × TyI)) (fs : List (Nat × Spec)) (w : World) (rs : List Row) : Ctx := { nt := nt, ty := ty, fn := fs, E := fun w' => Ext (fun _ => False) w w', ext := rowsExt rs }

def ty30 : TyI := ⟨(.struct [(0, 3), (1, 9), (2, 3), (3, 3)]), 4, 40, (.agg [.int 0, .str [], .int 0, .int 0]), false⟩
theorem ty30_ok : TyOK prog 30 ty30 := ⟨⟨_, info_of Go.Proofs.Try.typeInfo30, rfl, rfl, fun _ => rfl⟩, ⟨by simp [ty30, SV.ok, okL], by simp [ty30, Ty.agg], by simp [ty30, SV.size, sizeL]⟩, ⟨_, Go.Proofs.Try.underlying30, rfl, by decide⟩, fun h => by cases h⟩
def ty22 : TyI := ⟨(.sl 30), 1, 24, .nilsl, false⟩
theorem ty22_ok : TyOK prog 22 ty22 := ⟨⟨_, info_of Go.Proofs.Try.typeInfo22, rfl, rfl, fun _ => rfl⟩, ⟨by simp [ty22, SV.ok, okL], by simp [ty22, Ty.agg], by simp [ty22, SV.size, sizeL]⟩, Go.Proofs.Try.underlying22, fun h => by cases h⟩
def tysA : List (Nat × TyI) := (30, ty30) :: (22, ty22) :: tys
theorem tysA_ok : ∀ t i, look tysA t = some i → TyOK prog t i := tyok_cons ty30_ok (tyok_cons ty22_ok tys_ok)
def ringFnA : List (Nat × Spec) := (16, awakeS) :: ringFn
theorem ringFnA_ok : ∀ f S, look ringFnA f = some S → SoundC prog f S := fnok_cons awake_s ringFn_ok

/-- the orders of the drawn regions of halberdlaw22.RingActs -/
def pl3 : List (Nat × List PStep) := [(28, [⟨0, []⟩, ⟨1, [0]⟩, ⟨2, [0]⟩, ⟨4, [0, 1, 2]⟩, ⟨5, [0, 1, 2, 4]⟩, ⟨6, [0, 1, 2]⟩, ⟨3, [4, 5, 6]⟩, ⟨7, []⟩])]

def actsRow (a : Option Addr) (rows : List (List At)) : Row := ⟨30, a.getD ⟨0, 0, none⟩, 4, false, rows⟩

/-- at the loop's head -/
structure AS (N : Nat) (n : Nat) where
  i : Nat
  hd : List UInt8
  b : Int
  l : List UInt8
  hi : i ≤ n
  ok : ringOK N N N l b hd.length
  hc : content l b.toNat hd.length = hd

set_option maxHeartbeats 1000000 in
theorem ringActs_vc (w : World) (z : Int) (a : Option Addr) (n c : Nat) (rows : List (List At)) (hn : rows.length = n) (hnc : n ≤ 9223372036854775807)
    (hrows : ∀ r ∈ rows, ∃ k s p m, r = [.int k, .str s, .int p, .int m] ∧ s.length ≤ 140737488351232 ∧ -9223372036854775808 ≤ m ∧ m ≤ 9223372036854775807) :
    fnVC (lawG f3.ntmps tysA ringFnA w [actsRow a rows]) pl3 (codeOf f3) f3.results.toList [.int z, .xsl a n c] [] (fun r _ => r = .bool true) := by
  by_cases hz : z < 1 ∨ 262144 < z
  · conv => whnf
    refine cond_t (by rw [decide_eq_true_eq]; exact hz) ?_
    have hz' : ¬ (1 ≤ z ∧ z ≤ 262144) := by omega
    by_cases h1 : z < 1
    · repeat ((conv => whnf); first | (refine pre_i ?hc ?_; case hc => first | exact (show planOK _ _ _ = true from by kernel_rfl) | assumption | omega | (unfold fits; omega) | decide +kernel | (constructor <;> first | assumption | omega) | (simp only [off_addO, ty3, ty4, ty5, ty9, ty23, ty24, ty35, ty63, ty71, ty79, off, offE] <;> omega) | (simp only [List.length_append, List.length_take, List.length_drop, List.length_nil, List.length_cons, List.length_replicate, List.length_set, off_addO, off, offE] <;> omega)) | (refine cond_t ?hc ?_; case hc => first | rfl | assumption | (rw [decide_eq_true_eq]; omega) | (rw [decide_eq_false_iff_not]; omega) | (simp <;> omega)) | (refine cond_f ?hc ?_; case hc => first | rfl | assumption | (rw [decide_eq_true_eq]; omega) | (rw [decide_eq_false_iff_not]; omega) | (simp <;> omega)) | refine same_i ?_)
      refine final_h (hp' := []) [] rfl ?_
      repeat ((conv => whnf); first | (refine pre_i ?hc ?_; case hc => first | exact (show planOK _ _ _ = true from by kernel_rfl) | assumption | omega | (unfold fits; omega) | decide +kernel | (constructor <;> first | assumption | omega) | (simp only [off_addO, ty3, ty4, ty5, ty9, ty23, ty24, ty35, ty63, ty71, ty79, off, offE] <;> omega) | (simp only [List.length_append, List.length_take, List.length_drop, List.length_nil, List.length_cons, List.length_replicate, List.length_set, off_addO, off, offE] <;> omega)) | (refine cond_t ?hc ?_; case hc => first | rfl | assumption | (rw [decide_eq_true_eq]; omega) | (rw [decide_eq_false_iff_not]; omega) | (simp <;> omega)) | (refine cond_f ?hc ?_; case hc => first | rfl | assumption | (rw [decide_eq_true_eq]; omega) | (rw [decide_eq_false_iff_not]; omega) | (simp <;> omega)) | refine same_i ?_)
      exact trivial
    · repeat ((conv => whnf); first | (refine pre_i ?hc ?_; case hc => first | exact (show planOK _ _ _ = true from by kernel_rfl) | assumption | omega | (unfold fits; omega) | decide +kernel | (constructor <;> first | assumption | omega) | (simp only [off_addO, ty3, ty4, ty5, ty9, ty23, ty24, ty35, ty63, ty71, ty79, off, offE] <;> omega) | (simp only [List.length_append, List.length_take, List.length_drop, List.length_nil, List.length_cons, List.length_replicate, List.length_set, off_addO, off, offE] <;> omega)) | (refine cond_t ?hc ?_; case hc => first | rfl | assumption | (rw [decide_eq_true_eq]; omega) | (rw [decide_eq_false_iff_not]; omega) | (simp <;> omega)) | (refine cond_f ?hc ?_; case hc => first | rfl | assumption | (rw [decide_eq_true_eq]; omega) | (rw [decide_eq_false_iff_not]; omega) | (simp <;> omega)) | refine same_i ?_)
      refine final_h (hp' := []) [] rfl ?_
      repeat ((conv => whnf); first | (refine pre_i ?hc ?_; case hc => first | exact (show planOK _ _ _ = true from by kernel_rfl) | assumption | omega | (unfold fits; omega) | decide +kernel | (constructor <;> first | assumption | omega) | (simp only [off_addO, ty3, ty4, ty5, ty9, ty23, ty24, ty35, ty63, ty71, ty79, off, offE] <;> omega) | (simp only [List.length_append, List.length_take, List.length_drop, List.length_nil, List.length_cons, List.length_replicate, List.length_set, off_addO, off, offE] <;> omega)) | (refine cond_t ?hc ?_; case hc => first | rfl | assumption | (rw [decide_eq_true_eq]; omega) | (rw [decide_eq_false_iff_not]; omega) | (simp <;> omega)) | (refine cond_f ?hc ?_; case hc => first | rfl | assumption | (rw [decide_eq_true_eq]; omega) | (rw [decide_eq_false_iff_not]; omega) | (simp <;> omega)) | refine same_i ?_)
      exact trivial
  · obtain ⟨N, rfl⟩ : ∃ N : Nat, z = N := ⟨z.toNat, by omega⟩
    conv => whnf
    refine cond_f (by rw [decide_eq_false_iff_not]; exact hz) ?_
    repeat ((conv => whnf); first | (refine pre_i ?hc ?_; case hc => first | exact (show planOK _ _ _ = true from by kernel_rfl) | assumption | omega | (unfold fits; omega) | decide +kernel | (constructor <;> first | assumption | omega) | (simp only [off_addO, ty3, ty4, ty5, ty9, ty23, ty24, ty35, ty63, ty71, ty79, off, offE] <;> omega) | (simp only [List.length_append, List.length_take, List.length_drop, List.length_nil, List.length_cons, List.length_replicate, List.length_set, off_addO, off, offE] <;> omega)) | (refine cond_t ?hc ?_; case hc => first | rfl | assumption | (rw [decide_eq_true_eq]; omega) | (rw [decide_eq_false_iff_not]; omega) | (simp <;> omega)) | (refine cond_f ?hc ?_; case hc => first | rfl | assumption | (rw [decide_eq_true_eq]; omega) | (rw [decide_eq_false_iff_not]; omega) | (simp <;> omega)) | refine same_i ?_)
    conv => whnf
    refine loop_h (AS N n) (fun s => ⟨[(0, .int N), (1, .xsl a n c), (5, .ptr 0 0 0 []), (7, .str s.hd), (8, .int s.i)], [.mk 63 [.sl 1 0 0 [] N N, .int s.b, .int s.hd.length], .mk 5 [.arr8 N s.l]]⟩)
      (fun s => n - s.i) ⟨0, [], 0, List.replicate N 0, Nat.zero_le _, by unfold ringOK; simp; omega, by simp [content]⟩ [0, 1] ?_ ?_
    · repeat ((conv => whnf); first | (refine pre_i ?hc ?_; case hc => first | exact (show planOK _ _ _ = true from by kernel_rfl) | assumption | omega | (unfold fits; omega) | decide +kernel | (constructor <;> first | assumption | omega) | (simp only [off_addO, ty3, ty4, ty5, ty9, ty23, ty24, ty35, ty63, ty71, ty79, off, offE] <;> omega) | (simp only [List.length_append, List.length_take, List.length_drop, List.length_nil, List.length_cons, List.length_replicate, List.length_set, off_addO, off, offE] <;> omega)) | (refine cond_t ?hc ?_; case hc => first | rfl | assumption | (rw [decide_eq_true_eq]; omega) | (rw [decide_eq_false_iff_not]; omega) | (simp <;> omega)) | (refine cond_f ?hc ?_; case hc => first | rfl | assumption | (rw [decide_eq_true_eq]; omega) | (rw [decide_eq_false_iff_not]; omega) | (simp <;> omega)) | refine same_i ?_)
      exact trivial
    · intro s
      have hi := s.hi
      have ok := s.ok
      have hc := s.hc
      have ok' := ok
      unfold ringOK at ok'
      by_cases hin : s.i < n
      · obtain ⟨r, hr⟩ : ∃ r, rows[s.i]? = some r := ⟨rows[s.i]'(by omega), List.getElem?_eq_getElem (by omega)⟩
        obtain ⟨k, t, p, m, rfl, ht, hm1, hm2⟩ := hrows r (List.mem_of_getElem? hr)
        have hI : ((s.i : Int)).toNat = s.i := Int.toNat_natCast _
        by_cases h120 : s.i < 120
        · repeat ((conv => whnf); first | (refine pre_i ?hc ?_; case hc => first | exact (show planOK _ _ _ = true from by kernel_rfl) | assumption | omega | (unfold fits; omega) | decide +kernel | (constructor <;> first | assumption | omega) | (simp only [off_addO, ty3, ty4, ty5, ty9, ty23, ty24, ty35, ty63, ty71, ty79, off, offE] <;> omega) | (simp only [List.length_append, List.length_take, List.length_drop, List.length_nil, List.length_cons, List.length_replicate, List.length_set, off_addO, off, offE] <;> omega)) | (refine cond_t ?hc ?_; case hc => first | rfl | assumption | (rw [decide_eq_true_eq]; omega) | (rw [decide_eq_false_iff_not]; omega) | (simp <;> omega)) | (refine cond_f ?hc ?_; case hc => first | rfl | assumption | (rw [decide_eq_true_eq]; omega) | (rw [decide_eq_false_iff_not]; omega) | (simp <;> omega)) | refine same_i ?_)
          conv => whnf
          refine ext_i (.agg [.int k, .str t, .int p, .int m]) ⟨actsRow a rows, List.mem_singleton.2 rfl, s.i, _, rfl, by rw [hI]; rfl, hr, rfl⟩ ?_
          have fit : ¬ p ≥ 0 ∨ (p ≥ 0 ∧ ¬ m ≥ 0) ∨ (p ≥ 0 ∧ m ≥ 0 ∧ ¬ p ≤ s.hd.length) ∨ (p ≥ 0 ∧ m ≥ 0 ∧ p ≤ s.hd.length ∧ ¬ m ≤ s.hd.length - p) ∨ (p ≥ 0 ∧ m ≥ 0 ∧ p ≤ s.hd.length ∧ m ≤ s.hd.length - p) := by omega
          by_cases hk5 : k < 5
          · have e0 : min (t.length : Int) (N - s.hd.length) = min (t.length : Int) ((N : Int) - s.hd.length) := rfl
            generalize hkk : min (t.length : Int) ((N : Int) - s.hd.length) = kk at e0
            rcases fit with h | h | h | h | h
            all_goals
              repeat ((conv => whnf); first | (refine pre_i ?hc ?_; case hc => first | exact (show planOK _ _ _ = true from by kernel_rfl) | assumption | omega | (unfold fits; omega) | decide +kernel | (constructor <;> first | assumption | omega) | (simp only [off_addO, ty3, ty4, ty5, ty9, ty23, ty24, ty35, ty63, ty71, ty79, off, offE] <;> omega) | (simp only [List.length_append, List.length_take, List.length_drop, List.length_nil, List.length_cons, List.length_replicate, List.length_set, off_addO, off, offE] <;> omega)) | (refine cond_t ?hc ?_; case hc => first | rfl | assumption | (rw [decide_eq_true_eq]; omega) | (rw [decide_eq_false_iff_not]; omega) | (simp <;> omega)) | (refine cond_f ?hc ?_; case hc => first | rfl | assumption | (rw [decide_eq_true_eq]; omega) | (rw [decide_eq_false_iff_not]; omega) | (simp <;> omega)) | refine same_i ?_)
              conv => whnf
              refine all_i fun l' hl' => ?_
              obtain ⟨hl1, hl2⟩ := hl'
              simp only [Int.toNat_natCast] at hl1 hl2
              rw [hkk] at hl2
              rw [hc] at hl2
              have e1 : ((s.hd.length : Int) + kk).toNat = (s.hd ++ t.take kk.toNat).length := by simp; omega
              rw [e1] at hl2
              have pk : List.take (((s.hd ++ t.take kk.toNat).length : Nat) : Int).toNat (List.drop (Int.toNat 0) (content l' s.b.toNat ((s.hd.length : Int) + kk).toNat)) = s.hd ++ t.take kk.toNat := by
                rw [e1, hl2, Int.toNat_natCast]
                exact List.take_length
              have ok2 : ringOK N N N l' s.b ((s.hd.length : Int) + kk) := by unfold ringOK; omega
              have ok3 : ringOK N N N l' s.b ((s.hd ++ t.take kk.toNat).length : Nat) := by rw [← e1, Int.toNat_of_nonneg (by omega)]; exact ok2
              have e2 : ((s.hd.length : Int) + kk) = ((s.hd ++ t.take kk.toNat).length : Nat) := by rw [← e1, Int.toNat_of_nonneg (by omega)]
              rw [hkk]
              repeat ((conv => whnf); first | (refine pre_i ?hc ?_; case hc => first | exact (show planOK _ _ _ = true from by kernel_rfl) | assumption | omega | (unfold fits; omega) | decide +kernel | (constructor <;> first | assumption | omega) | (simp only [off_addO, ty3, ty4, ty5, ty9, ty23, ty24, ty35, ty63, ty71, ty79, off, offE] <;> omega) | (simp only [List.length_append, List.length_take, List.length_drop, List.length_nil, List.length_cons, List.length_replicate, List.length_set, off_addO, off, offE] <;> omega)) | (refine cond_t ?hc ?_; case hc => first | rfl | assumption | (rw [decide_eq_true_eq]; omega) | (rw [decide_eq_false_iff_not]; omega) | (simp <;> omega) | (rw [decide_eq_true pk]; rfl) | (rw [decide_eq_true e2]; rfl)) | (refine cond_f ?hc ?_; case hc => first | rfl | assumption | (rw [decide_eq_true_eq]; omega) | (rw [decide_eq_false_iff_not]; omega) | (simp <;> omega) | (rw [decide_eq_true pk]; rfl) | (rw [decide_eq_true e2]; rfl)) | refine same_i ?_)
              conv => whnf
              refine ⟨⟨s.i + 1, s.hd ++ t.take kk.toNat, s.b, l', hin, ok3, hl2⟩, [0, 1], ?_, ?_⟩
              · show n - (s.i + 1) < n - s.i
                omega
              · repeat ((conv => whnf); first | (refine pre_i ?hc ?_; case hc => first | exact (show planOK _ _ _ = true from by kernel_rfl) | assumption | omega | (unfold fits; omega) | decide +kernel | (constructor <;> first | assumption | omega) | (simp only [off_addO, ty3, ty4, ty5, ty9, ty23, ty24, ty35, ty63, ty71, ty79, off, offE] <;> omega) | (simp only [List.length_append, List.length_take, List.length_drop, List.length_nil, List.length_cons, List.length_replicate, List.length_set, off_addO, off, offE] <;> omega)) | (refine cond_t ?hc ?_; case hc => first | rfl | assumption | (rw [decide_eq_true_eq]; omega) | (rw [decide_eq_false_iff_not]; omega) | (simp <;> omega)) | (refine cond_f ?hc ?_; case hc => first | rfl | assumption | (rw [decide_eq_true_eq]; omega) | (rw [decide_eq_false_iff_not]; omega) | (simp <;> omega)) | refine same_i ?_)
                conv => whnf
                refine same_q (by rw [e2]; rfl) ?_
                repeat ((conv => whnf); first | (refine pre_i ?hc ?_; case hc => first | exact (show planOK _ _ _ = true from by kernel_rfl) | assumption | omega | (unfold fits; omega) | decide +kernel | (constructor <;> first | assumption | omega) | (simp only [off_addO, ty3, ty4, ty5, ty9, ty23, ty24, ty35, ty63, ty71, ty79, off, offE] <;> omega) | (simp only [List.length_append, List.length_take, List.length_drop, List.length_nil, List.length_cons, List.length_replicate, List.length_set, off_addO, off, offE] <;> omega)) | (refine cond_t ?hc ?_; case hc => first | rfl | assumption | (rw [decide_eq_true_eq]; omega) | (rw [decide_eq_false_iff_not]; omega) | (simp <;> omega)) | (refine cond_f ?hc ?_; case hc => first | rfl | assumption | (rw [decide_eq_true_eq]; omega) | (rw [decide_eq_false_iff_not]; omega) | (simp <;> omega)) | refine same_i ?_)
                exact trivial
          · by_cases hk8 : k < 8
            · have hcn : (s.hd.length : Int).toNat = s.hd.length := Int.toNat_natCast _
              by_cases hm0 : m < 1
              · have emx : max 0 (min m (s.hd.length : Int)) = 0 := by omega
                have d0 : List.drop (Int.toNat 0) s.hd = s.hd := rfl
                have pk : List.take (s.hd.length : Int).toNat (List.drop (Int.toNat 0) (content s.l s.b.toNat (s.hd.length : Int).toNat)) = s.hd := by
                  rw [hcn, hc]
                  exact List.take_length
                have p0 : ([] : List UInt8) = List.take (Int.toNat 0) s.hd := rfl
                rcases fit with h | h | h | h | h
                all_goals try (exfalso; omega)
                all_goals
                  repeat ((conv => whnf); first | (refine pre_i ?hc ?_; case hc => first | exact (show planOK _ _ _ = true from by kernel_rfl) | assumption | omega | (unfold fits; omega) | decide +kernel | (constructor <;> first | assumption | omega) | (simp only [off_addO, ty3, ty4, ty5, ty9, ty23, ty24, ty35, ty63, ty71, ty79, off, offE] <;> omega) | (simp only [List.length_append, List.length_take, List.length_drop, List.length_nil, List.length_cons, List.length_replicate, List.length_set, off_addO, off, offE] <;> omega)) | (refine cond_t ?hc ?_; case hc => first | rfl | assumption | (rw [decide_eq_true_eq]; omega) | (rw [decide_eq_false_iff_not]; omega) | (simp <;> omega)) | (refine cond_f ?hc ?_; case hc => first | rfl | assumption | (rw [decide_eq_true_eq]; omega) | (rw [decide_eq_false_iff_not]; omega) | (simp <;> omega)) | refine same_i ?_)
                  conv => whnf
                  rw [emx, d0]
                  repeat ((conv => whnf); first | (refine pre_i ?hc ?_; case hc => first | exact (show planOK _ _ _ = true from by kernel_rfl) | assumption | omega | (unfold fits; omega) | decide +kernel | (constructor <;> first | assumption | omega) | (simp only [off_addO, ty3, ty4, ty5, ty9, ty23, ty24, ty35, ty63, ty71, ty79, off, offE] <;> omega) | (simp only [List.length_append, List.length_take, List.length_drop, List.length_nil, List.length_cons, List.length_replicate, List.length_set, off_addO, off, offE] <;> omega)) | (refine cond_t ?hc ?_; case hc => first | rfl | assumption | (rw [decide_eq_true_eq]; omega) | (rw [decide_eq_false_iff_not]; omega) | (simp <;> omega) | (rw [decide_eq_true pk]; rfl) | (rw [decide_eq_true p0]; rfl)) | (refine cond_f ?hc ?_; case hc => first | rfl | assumption | (rw [decide_eq_true_eq]; omega) | (rw [decide_eq_false_iff_not]; omega) | (simp <;> omega) | (rw [decide_eq_true pk]; rfl) | (rw [decide_eq_true p0]; rfl)) | refine same_i ?_)
                  conv => whnf
                  refine ⟨⟨s.i + 1, s.hd, s.b, s.l, hin, ok, hc⟩, [0, 1], ?_, ?_⟩
                  · show n - (s.i + 1) < n - s.i
                    omega
                  · repeat ((conv => whnf); first | (refine pre_i ?hc ?_; case hc => first | exact (show planOK _ _ _ = true from by kernel_rfl) | assumption | omega | (unfold fits; omega) | decide +kernel | (constructor <;> first | assumption | omega) | (simp only [off_addO, ty3, ty4, ty5, ty9, ty23, ty24, ty35, ty63, ty71, ty79, off, offE] <;> omega) | (simp only [List.length_append, List.length_take, List.length_drop, List.length_nil, List.length_cons, List.length_replicate, List.length_set, off_addO, off, offE] <;> omega)) | (refine cond_t ?hc ?_; case hc => first | rfl | assumption | (rw [decide_eq_true_eq]; omega) | (rw [decide_eq_false_iff_not]; omega) | (simp <;> omega)) | (refine cond_f ?hc ?_; case hc => first | rfl | assumption | (rw [decide_eq_true_eq]; omega) | (rw [decide_eq_false_iff_not]; omega) | (simp <;> omega)) | refine same_i ?_)
                    exact trivial
              · have emx : max 0 (min m (s.hd.length : Int)) = min m (s.hd.length : Int) := by omega
                generalize hkm : min m (s.hd.length : Int) = km at emx
                have hN : 0 < N := by omega
                have tk : List.take km.toNat (content s.l s.b.toNat (s.hd.length : Int).toNat) = List.take km.toNat s.hd := by rw [hcn, hc]
                have hb2 : ((s.b + km).tmod N).toNat = (s.b.toNat + km.toNat) % N := by rw [tmod_nat (by omega)]; congr 1; omega
                have hm0 : 0 ≤ (s.b + km).tmod N := Int.tmod_nonneg _ (by omega)
                have hm1 : (s.b + km).tmod N < N := Int.tmod_lt_of_pos _ (by omega)
                have e1 : ((s.hd.length : Int) - km).toNat = (s.hd.drop km.toNat).length := by simp; omega
                have hc2 : content s.l ((s.b + km).tmod N).toNat (s.hd.drop km.toNat).length = s.hd.drop km.toNat := by
                  have := drop_content (l := s.l) (b := s.b.toNat) (h := s.hd.length) (k := km.toNat) (by omega) (by omega) (by omega)
                  rw [hc] at this
                  rw [hb2, List.length_drop, ← this]
                  congr 2
                  omega
                have ok2 : ringOK N N N s.l ((s.b + km).tmod N) ((s.hd.length : Int) - km) := by unfold ringOK; omega
                have e2 : ((s.hd.length : Int) - km) = ((s.hd.drop km.toNat).length : Nat) := by rw [← e1, Int.toNat_of_nonneg (by omega)]
                have ok3 : ringOK N N N s.l ((s.b + km).tmod N) ((s.hd.drop km.toNat).length : Nat) := by rw [← e2]; exact ok2
                have pk : List.take (((List.drop km.toNat s.hd).length : Nat) : Int).toNat (List.drop (Int.toNat 0) (content s.l ((s.b + km).tmod N).toNat ((s.hd.length : Int) - km).toNat)) = List.drop km.toNat s.hd := by
                  rw [e1, hc2, Int.toNat_natCast]
                  exact List.take_length
                rcases fit with h | h | h | h | h
                all_goals try (exfalso; omega)
                all_goals
                  repeat ((conv => whnf); first | (refine pre_i ?hc ?_; case hc => first | exact (show planOK _ _ _ = true from by kernel_rfl) | assumption | omega | (unfold fits; omega) | decide +kernel | (constructor <;> first | assumption | omega) | (simp only [off_addO, ty3, ty4, ty5, ty9, ty23, ty24, ty35, ty63, ty71, ty79, off, offE] <;> omega) | (simp only [List.length_append, List.length_take, List.length_drop, List.length_nil, List.length_cons, List.length_replicate, List.length_set, off_addO, off, offE] <;> omega)) | (refine cond_t ?hc ?_; case hc => first | rfl | assumption | (rw [decide_eq_true_eq]; omega) | (rw [decide_eq_false_iff_not]; omega) | (simp <;> omega)) | (refine cond_f ?hc ?_; case hc => first | rfl | assumption | (rw [decide_eq_true_eq]; omega) | (rw [decide_eq_false_iff_not]; omega) | (simp <;> omega)) | refine same_i ?_)
                  conv => whnf
                  rw [hkm, emx]
                  repeat ((conv => whnf); first | (refine pre_i ?hc ?_; case hc => first | exact (show planOK _ _ _ = true from by kernel_rfl) | assumption | omega | (unfold fits; omega) | decide +kernel | (constructor <;> first | assumption | omega) | (simp only [off_addO, ty3, ty4, ty5, ty9, ty23, ty24, ty35, ty63, ty71, ty79, off, offE] <;> omega) | (simp only [List.length_append, List.length_take, List.length_drop, List.length_nil, List.length_cons, List.length_replicate, List.length_set, off_addO, off, offE] <;> omega)) | (refine cond_t ?hc ?_; case hc => first | rfl | assumption | (rw [decide_eq_true_eq]; omega) | (rw [decide_eq_false_iff_not]; omega) | (simp <;> omega) | (rw [decide_eq_true pk]; rfl) | (rw [decide_eq_true tk]; rfl) | (rw [decide_eq_true e2]; rfl)) | (refine cond_f ?hc ?_; case hc => first | rfl | assumption | (rw [decide_eq_true_eq]; omega) | (rw [decide_eq_false_iff_not]; omega) | (simp <;> omega) | (rw [decide_eq_true pk]; rfl) | (rw [decide_eq_true tk]; rfl) | (rw [decide_eq_true e2]; rfl)) | refine same_i ?_)
                  conv => whnf
                  refine ⟨⟨s.i + 1, s.hd.drop km.toNat, (s.b + km).tmod N, s.l, hin, ok3, hc2⟩, [0, 1], ?_, ?_⟩
                  · show n - (s.i + 1) < n - s.i
                    omega
                  · repeat ((conv => whnf); first | (refine pre_i ?hc ?_; case hc => first | exact (show planOK _ _ _ = true from by kernel_rfl) | assumption | omega | (unfold fits; omega) | decide +kernel | (constructor <;> first | assumption | omega) | (simp only [off_addO, ty3, ty4, ty5, ty9, ty23, ty24, ty35, ty63, ty71, ty79, off, offE] <;> omega) | (simp only [List.length_append, List.length_take, List.length_drop, List.length_nil, List.length_cons, List.length_replicate, List.length_set, off_addO, off, offE] <;> omega)) | (refine cond_t ?hc ?_; case hc => first | rfl | assumption | (rw [decide_eq_true_eq]; omega) | (rw [decide_eq_false_iff_not]; omega) | (simp <;> omega)) | (refine cond_f ?hc ?_; case hc => first | rfl | assumption | (rw [decide_eq_true_eq]; omega) | (rw [decide_eq_false_iff_not]; omega) | (simp <;> omega)) | refine same_i ?_)
                    conv => whnf
                    refine same_q (by rw [e2]; rfl) ?_
                    repeat ((conv => whnf); first | (refine pre_i ?hc ?_; case hc => first | exact (show planOK _ _ _ = true from by kernel_rfl) | assumption | omega | (unfold fits; omega) | decide +kernel | (constructor <;> first | assumption | omega) | (simp only [off_addO, ty3, ty4, ty5, ty9, ty23, ty24, ty35, ty63, ty71, ty79, off, offE] <;> omega) | (simp only [List.length_append, List.length_take, List.length_drop, List.length_nil, List.length_cons, List.length_replicate, List.length_set, off_addO, off, offE] <;> omega)) | (refine cond_t ?hc ?_; case hc => first | rfl | assumption | (rw [decide_eq_true_eq]; omega) | (rw [decide_eq_false_iff_not]; omega) | (simp <;> omega)) | (refine cond_f ?hc ?_; case hc => first | rfl | assumption | (rw [decide_eq_true_eq]; omega) | (rw [decide_eq_false_iff_not]; omega) | (simp <;> omega)) | refine same_i ?_)
                    exact trivial
            · have hcn : (s.hd.length : Int).toNat = s.hd.length := Int.toNat_natCast _
              rcases fit with h | h | h | h | h
              · repeat ((conv => whnf); first | (refine pre_i ?hc ?_; case hc => first | exact (show planOK _ _ _ = true from by kernel_rfl) | assumption | omega | (unfold fits; omega) | decide +kernel | (constructor <;> first | assumption | omega) | (simp only [off_addO, ty3, ty4, ty5, ty9, ty23, ty24, ty35, ty63, ty71, ty79, off, offE] <;> omega) | (simp only [List.length_append, List.length_take, List.length_drop, List.length_nil, List.length_cons, List.length_replicate, List.length_set, off_addO, off, offE] <;> omega)) | (refine cond_t ?hc ?_; case hc => first | rfl | assumption | (rw [decide_eq_true_eq]; omega) | (rw [decide_eq_false_iff_not]; omega) | (simp <;> omega)) | (refine cond_f ?hc ?_; case hc => first | rfl | assumption | (rw [decide_eq_true_eq]; omega) | (rw [decide_eq_false_iff_not]; omega) | (simp <;> omega)) | refine same_i ?_)
                conv => whnf
                refine ⟨⟨s.i + 1, s.hd, s.b, s.l, hin, ok, hc⟩, [0, 1], ?_, ?_⟩
                · show n - (s.i + 1) < n - s.i
                  omega
                · repeat ((conv => whnf); first | (refine pre_i ?hc ?_; case hc => first | exact (show planOK _ _ _ = true from by kernel_rfl) | assumption | omega | (unfold fits; omega) | decide +kernel | (constructor <;> first | assumption | omega) | (simp only [off_addO, ty3, ty4, ty5, ty9, ty23, ty24, ty35, ty63, ty71, ty79, off, offE] <;> omega) | (simp only [List.length_append, List.length_take, List.length_drop, List.length_nil, List.length_cons, List.length_replicate, List.length_set, off_addO, off, offE] <;> omega)) | (refine cond_t ?hc ?_; case hc => first | rfl | assumption | (rw [decide_eq_true_eq]; omega) | (rw [decide_eq_false_iff_not]; omega) | (simp <;> omega)) | (refine cond_f ?hc ?_; case hc => first | rfl | assumption | (rw [decide_eq_true_eq]; omega) | (rw [decide_eq_false_iff_not]; omega) | (simp <;> omega)) | refine same_i ?_)
                  exact trivial
              · repeat ((conv => whnf); first | (refine pre_i ?hc ?_; case hc => first | exact (show planOK _ _ _ = true from by kernel_rfl) | assumption | omega | (unfold fits; omega) | decide +kernel | (constructor <;> first | assumption | omega) | (simp only [off_addO, ty3, ty4, ty5, ty9, ty23, ty24, ty35, ty63, ty71, ty79, off, offE] <;> omega) | (simp only [List.length_append, List.length_take, List.length_drop, List.length_nil, List.length_cons, List.length_replicate, List.length_set, off_addO, off, offE] <;> omega)) | (refine cond_t ?hc ?_; case hc => first | rfl | assumption | (rw [decide_eq_true_eq]; omega) | (rw [decide_eq_false_iff_not]; omega) | (simp <;> omega)) | (refine cond_f ?hc ?_; case hc => first | rfl | assumption | (rw [decide_eq_true_eq]; omega) | (rw [decide_eq_false_iff_not]; omega) | (simp <;> omega)) | refine same_i ?_)
                conv => whnf
                refine ⟨⟨s.i + 1, s.hd, s.b, s.l, hin, ok, hc⟩, [0, 1], ?_, ?_⟩
                · show n - (s.i + 1) < n - s.i
                  omega
                · repeat ((conv => whnf); first | (refine pre_i ?hc ?_; case hc => first | exact (show planOK _ _ _ = true from by kernel_rfl) | assumption | omega | (unfold fits; omega) | decide +kernel | (constructor <;> first | assumption | omega) | (simp only [off_addO, ty3, ty4, ty5, ty9, ty23, ty24, ty35, ty63, ty71, ty79, off, offE] <;> omega) | (simp only [List.length_append, List.length_take, List.length_drop, List.length_nil, List.length_cons, List.length_replicate, List.length_set, off_addO, off, offE] <;> omega)) | (refine cond_t ?hc ?_; case hc => first | rfl | assumption | (rw [decide_eq_true_eq]; omega) | (rw [decide_eq_false_iff_not]; omega) | (simp <;> omega)) | (refine cond_f ?hc ?_; case hc => first | rfl | assumption | (rw [decide_eq_true_eq]; omega) | (rw [decide_eq_false_iff_not]; omega) | (simp <;> omega)) | refine same_i ?_)
                  exact trivial
              · repeat ((conv => whnf); first | (refine pre_i ?hc ?_; case hc => first | exact (show planOK _ _ _ = true from by kernel_rfl) | assumption | omega | (unfold fits; omega) | decide +kernel | (constructor <;> first | assumption | omega) | (simp only [off_addO, ty3, ty4, ty5, ty9, ty23, ty24, ty35, ty63, ty71, ty79, off, offE] <;> omega) | (simp only [List.length_append, List.length_take, List.length_drop, List.length_nil, List.length_cons, List.length_replicate, List.length_set, off_addO, off, offE] <;> omega)) | (refine cond_t ?hc ?_; case hc => first | rfl | assumption | (rw [decide_eq_true_eq]; omega) | (rw [decide_eq_false_iff_not]; omega) | (simp <;> omega)) | (refine cond_f ?hc ?_; case hc => first | rfl | assumption | (rw [decide_eq_true_eq]; omega) | (rw [decide_eq_false_iff_not]; omega) | (simp <;> omega)) | refine same_i ?_)
                conv => whnf
                refine ⟨⟨s.i + 1, s.hd, s.b, s.l, hin, ok, hc⟩, [0, 1], ?_, ?_⟩
                · show n - (s.i + 1) < n - s.i
                  omega
                · repeat ((conv => whnf); first | (refine pre_i ?hc ?_; case hc => first | exact (show planOK _ _ _ = true from by kernel_rfl) | assumption | omega | (unfold fits; omega) | decide +kernel | (constructor <;> first | assumption | omega) | (simp only [off_addO, ty3, ty4, ty5, ty9, ty23, ty24, ty35, ty63, ty71, ty79, off, offE] <;> omega) | (simp only [List.length_append, List.length_take, List.length_drop, List.length_nil, List.length_cons, List.length_replicate, List.length_set, off_addO, off, offE] <;> omega)) | (refine cond_t ?hc ?_; case hc => first | rfl | assumption | (rw [decide_eq_true_eq]; omega) | (rw [decide_eq_false_iff_not]; omega) | (simp <;> omega)) | (refine cond_f ?hc ?_; case hc => first | rfl | assumption | (rw [decide_eq_true_eq]; omega) | (rw [decide_eq_false_iff_not]; omega) | (simp <;> omega)) | refine same_i ?_)
                  exact trivial
              · repeat ((conv => whnf); first | (refine pre_i ?hc ?_; case hc => first | exact (show planOK _ _ _ = true from by kernel_rfl) | assumption | omega | (unfold fits; omega) | decide +kernel | (constructor <;> first | assumption | omega) | (simp only [off_addO, ty3, ty4, ty5, ty9, ty23, ty24, ty35, ty63, ty71, ty79, off, offE] <;> omega) | (simp only [List.length_append, List.length_take, List.length_drop, List.length_nil, List.length_cons, List.length_replicate, List.length_set, off_addO, off, offE] <;> omega)) | (refine cond_t ?hc ?_; case hc => first | rfl | assumption | (rw [decide_eq_true_eq]; omega) | (rw [decide_eq_false_iff_not]; omega) | (simp <;> omega)) | (refine cond_f ?hc ?_; case hc => first | rfl | assumption | (rw [decide_eq_true_eq]; omega) | (rw [decide_eq_false_iff_not]; omega) | (simp <;> omega)) | refine same_i ?_)
                conv => whnf
                refine ⟨⟨s.i + 1, s.hd, s.b, s.l, hin, ok, hc⟩, [0, 1], ?_, ?_⟩
                · show n - (s.i + 1) < n - s.i
                  omega
                · repeat ((conv => whnf); first | (refine pre_i ?hc ?_; case hc => first | exact (show planOK _ _ _ = true from by kernel_rfl) | assumption | omega | (unfold fits; omega) | decide +kernel | (constructor <;> first | assumption | omega) | (simp only [off_addO, ty3, ty4, ty5, ty9, ty23, ty24, ty35, ty63, ty71, ty79, off, offE] <;> omega) | (simp only [List.length_append, List.length_take, List.length_drop, List.length_nil, List.length_cons, List.length_replicate, List.length_set, off_addO, off, offE] <;> omega)) | (refine cond_t ?hc ?_; case hc => first | rfl | assumption | (rw [decide_eq_true_eq]; omega) | (rw [decide_eq_false_iff_not]; omega) | (simp <;> omega)) | (refine cond_f ?hc ?_; case hc => first | rfl | assumption | (rw [decide_eq_true_eq]; omega) | (rw [decide_eq_false_iff_not]; omega) | (simp <;> omega)) | refine same_i ?_)
                  exact trivial
              · have hm0 : 0 ≤ (s.b + p).tmod N := Int.tmod_nonneg _ (by omega)
                have hm1 : (s.b + p).tmod N < N := Int.tmod_lt_of_pos _ (by omega)
                have hb2 : ((s.b + p).tmod N).toNat = (s.b.toNat + p.toNat) % N := by rw [tmod_nat (by omega)]; congr 1; omega
                have pk0 : List.take (s.hd.length : Int).toNat (List.drop (Int.toNat 0) (content s.l s.b.toNat (s.hd.length : Int).toNat)) = s.hd := by
                  rw [hcn, hc]
                  exact List.take_length
                have pk1 : List.take m.toNat (List.drop p.toNat (content s.l s.b.toNat (s.hd.length : Int).toNat)) = List.take ((p + m).toNat - p.toNat) (List.drop p.toNat s.hd) := by
                  rw [hcn, hc]; congr 1; omega
                repeat ((conv => whnf); first | (refine pre_i ?hc ?_; case hc => first | exact (show planOK _ _ _ = true from by kernel_rfl) | assumption | omega | (unfold fits; omega) | decide +kernel | (constructor <;> first | assumption | omega) | (simp only [off_addO, ty3, ty4, ty5, ty9, ty23, ty24, ty35, ty63, ty71, ty79, off, offE] <;> omega) | (simp only [List.length_append, List.length_take, List.length_drop, List.length_nil, List.length_cons, List.length_replicate, List.length_set, off_addO, off, offE] <;> omega)) | (refine cond_t ?hc ?_; case hc => first | rfl | assumption | (rw [decide_eq_true_eq]; omega) | (rw [decide_eq_false_iff_not]; omega) | (simp <;> omega)) | (refine cond_f ?hc ?_; case hc => first | rfl | assumption | (rw [decide_eq_true_eq]; omega) | (rw [decide_eq_false_iff_not]; omega) | (simp <;> omega)) | refine same_i ?_)
                conv => whnf
                refine cond_i (fun hd => ?_) (fun hd => ?_)
                · rw [decide_eq_true_eq] at hd
                  have hs := slO_le ((s.b + p).tmod N + m).toNat ((s.b + p).tmod N).toNat
                  have pp1 : List.take (((s.b + p).tmod N + m).toNat - ((s.b + p).tmod N).toNat) (List.drop (off [(slO ((s.b + p).tmod N + m).toNat ((s.b + p).tmod N).toNat, 1)]) s.l) ++ [] = List.take m.toNat (List.drop p.toNat (content s.l s.b.toNat (s.hd.length : Int).toNat)) := by rw [List.append_nil]; exact parts_one (by omega) (by omega) (by omega) (by omega) (by omega) (by omega) (by omega) (by omega) hd
                  by_cases hmp : m > 0
                  · have ho : slO ((s.b + p).tmod N + m).toNat ((s.b + p).tmod N).toNat = (s.b.toNat + p.toNat) % N := by rw [slO_eq (by omega), hb2]
                    have hset := content_set (l := s.l) (b := s.b.toNat) (h := s.hd.length) (a := p.toNat) (c := wby t) (by omega) (by omega) (by omega)
                    rw [hc, set_take_drop (l := s.hd) (a := p.toNat) (by omega), show s.l.length = N by omega, ← ho] at hset
                    have ea : p.toNat + 1 = (p + 1).toNat := by omega
                    rw [ea] at hset
                    have hlen : (s.hd.take p.toNat ++ [wby t] ++ s.hd.drop (p + 1).toNat).length = s.hd.length := by simp; omega
                    rw [← hlen] at hset
                    have ok2 : ringOK N N N (s.l.set (slO ((s.b + p).tmod N + m).toNat ((s.b + p).tmod N).toNat) (wby t)) s.b s.hd.length := by unfold ringOK; rw [List.length_set]; omega
                    have ok3 : ringOK N N N (s.l.set (slO ((s.b + p).tmod N + m).toNat ((s.b + p).tmod N).toNat) (wby t)) s.b ((s.hd.take p.toNat ++ [wby t] ++ s.hd.drop (p + 1).toNat).length : Nat) := by rw [hlen]; exact ok2
                    have ok4 : 0 ≤ p ∧ p + 1 ≤ s.hd.length ∧ s.hd.length ≤ 1048576 ∧ 0 < ((s.b + p).tmod N + m).toNat - ((s.b + p).tmod N).toNat ∧ slO ((s.b + p).tmod N + m).toNat ((s.b + p).tmod N).toNat + (((s.b + p).tmod N + m).toNat - ((s.b + p).tmod N).toNat) ≤ s.l.length := by rw [ho]; omega
                    have pk2 : List.take (((s.hd.take p.toNat ++ [wby t] ++ s.hd.drop (p + 1).toNat).length : Nat) : Int).toNat (List.drop (Int.toNat 0) (content (s.l.set (slO ((s.b + p).tmod N + m).toNat ((s.b + p).tmod N).toNat) (wby t)) s.b.toNat (s.hd.length : Int).toNat)) = s.hd.take p.toNat ++ [wby t] ++ s.hd.drop (p + 1).toNat := by
                      rw [hcn, Int.toNat_natCast, ← hlen, hset]
                      exact List.take_length
                    have e2 : (s.hd.length : Int) = ((s.hd.take p.toNat ++ [wby t] ++ s.hd.drop (p + 1).toNat).length : Nat) := by rw [hlen]
                    by_cases hk9 : k > 8
                    · repeat ((conv => whnf); first | (refine pre_i ?hc ?_; case hc => first | exact (show planOK _ _ _ = true from by kernel_rfl) | assumption | omega | (unfold fits; omega) | decide +kernel | (constructor <;> first | assumption | omega) | (simp only [off_addO, ty3, ty4, ty5, ty9, ty23, ty24, ty35, ty63, ty71, ty79, off, offE] <;> omega) | (simp only [List.length_append, List.length_take, List.length_drop, List.length_nil, List.length_cons, List.length_replicate, List.length_set, off_addO, off, offE] <;> omega)) | (refine cond_t ?hc ?_; case hc => first | rfl | assumption | (rw [decide_eq_true_eq]; omega) | (rw [decide_eq_false_iff_not]; omega) | (simp <;> omega) | (rw [decide_eq_true pk0]; rfl) | (rw [decide_eq_true pk1]; rfl) | (rw [decide_eq_true pp1]; rfl) | (rw [decide_eq_true pk2]; rfl) | (rw [decide_eq_true e2]; rfl)) | (refine cond_f ?hc ?_; case hc => first | rfl | assumption | (rw [decide_eq_true_eq]; omega) | (rw [decide_eq_false_iff_not]; omega) | (simp <;> omega) | (rw [decide_eq_true pk0]; rfl) | (rw [decide_eq_true pk1]; rfl) | (rw [decide_eq_true pp1]; rfl) | (rw [decide_eq_true pk2]; rfl) | (rw [decide_eq_true e2]; rfl)) | refine same_i ?_)
                      conv => whnf
                      refine ⟨⟨s.i + 1, _, s.b, _, hin, ok3, hset⟩, [0, 1], ?_, ?_⟩
                      · show n - (s.i + 1) < n - s.i
                        omega
                      · repeat ((conv => whnf); first | (refine pre_i ?hc ?_; case hc => first | exact (show planOK _ _ _ = true from by kernel_rfl) | assumption | omega | (unfold fits; omega) | decide +kernel | (constructor <;> first | assumption | omega) | (simp only [off_addO, ty3, ty4, ty5, ty9, ty23, ty24, ty35, ty63, ty71, ty79, off, offE] <;> omega) | (simp only [List.length_append, List.length_take, List.length_drop, List.length_nil, List.length_cons, List.length_replicate, List.length_set, off_addO, off, offE] <;> omega)) | (refine cond_t ?hc ?_; case hc => first | rfl | assumption | (rw [decide_eq_true_eq]; omega) | (rw [decide_eq_false_iff_not]; omega) | (simp <;> omega)) | (refine cond_f ?hc ?_; case hc => first | rfl | assumption | (rw [decide_eq_true_eq]; omega) | (rw [decide_eq_false_iff_not]; omega) | (simp <;> omega)) | refine same_i ?_)
                        conv => whnf
                        refine same_q (by rw [hlen]; rfl) ?_
                        repeat ((conv => whnf); first | (refine pre_i ?hc ?_; case hc => first | exact (show planOK _ _ _ = true from by kernel_rfl) | assumption | omega | (unfold fits; omega) | decide +kernel | (constructor <;> first | assumption | omega) | (simp only [off_addO, ty3, ty4, ty5, ty9, ty23, ty24, ty35, ty63, ty71, ty79, off, offE] <;> omega) | (simp only [List.length_append, List.length_take, List.length_drop, List.length_nil, List.length_cons, List.length_replicate, List.length_set, off_addO, off, offE] <;> omega)) | (refine cond_t ?hc ?_; case hc => first | rfl | assumption | (rw [decide_eq_true_eq]; omega) | (rw [decide_eq_false_iff_not]; omega) | (simp <;> omega)) | (refine cond_f ?hc ?_; case hc => first | rfl | assumption | (rw [decide_eq_true_eq]; omega) | (rw [decide_eq_false_iff_not]; omega) | (simp <;> omega)) | refine same_i ?_)
                        exact trivial
                    · repeat ((conv => whnf); first | (refine pre_i ?hc ?_; case hc => first | exact (show planOK _ _ _ = true from by kernel_rfl) | assumption | omega | (unfold fits; omega) | decide +kernel | (constructor <;> first | assumption | omega) | (simp only [off_addO, ty3, ty4, ty5, ty9, ty23, ty24, ty35, ty63, ty71, ty79, off, offE] <;> omega) | (simp only [List.length_append, List.length_take, List.length_drop, List.length_nil, List.length_cons, List.length_replicate, List.length_set, off_addO, off, offE] <;> omega)) | (refine cond_t ?hc ?_; case hc => first | rfl | assumption | (rw [decide_eq_true_eq]; omega) | (rw [decide_eq_false_iff_not]; omega) | (simp <;> omega) | (rw [decide_eq_true pk0]; rfl) | (rw [decide_eq_true pk1]; rfl) | (rw [decide_eq_true pp1]; rfl)) | (refine cond_f ?hc ?_; case hc => first | rfl | assumption | (rw [decide_eq_true_eq]; omega) | (rw [decide_eq_false_iff_not]; omega) | (simp <;> omega) | (rw [decide_eq_true pk0]; rfl) | (rw [decide_eq_true pk1]; rfl) | (rw [decide_eq_true pp1]; rfl)) | refine same_i ?_)
                      conv => whnf
                      refine ⟨⟨s.i + 1, s.hd, s.b, s.l, hin, ok, hc⟩, [0, 1], ?_, ?_⟩
                      · show n - (s.i + 1) < n - s.i
                        omega
                      · repeat ((conv => whnf); first | (refine pre_i ?hc ?_; case hc => first | exact (show planOK _ _ _ = true from by kernel_rfl) | assumption | omega | (unfold fits; omega) | decide +kernel | (constructor <;> first | assumption | omega) | (simp only [off_addO, ty3, ty4, ty5, ty9, ty23, ty24, ty35, ty63, ty71, ty79, off, offE] <;> omega) | (simp only [List.length_append, List.length_take, List.length_drop, List.length_nil, List.length_cons, List.length_replicate, List.length_set, off_addO, off, offE] <;> omega)) | (refine cond_t ?hc ?_; case hc => first | rfl | assumption | (rw [decide_eq_true_eq]; omega) | (rw [decide_eq_false_iff_not]; omega) | (simp <;> omega)) | (refine cond_f ?hc ?_; case hc => first | rfl | assumption | (rw [decide_eq_true_eq]; omega) | (rw [decide_eq_false_iff_not]; omega) | (simp <;> omega)) | refine same_i ?_)
                        exact trivial
                  · by_cases hk9 : k > 8
                    all_goals
                      repeat ((conv => whnf); first | (refine pre_i ?hc ?_; case hc => first | exact (show planOK _ _ _ = true from by kernel_rfl) | assumption | omega | (unfold fits; omega) | decide +kernel | (constructor <;> first | assumption | omega) | (simp only [off_addO, ty3, ty4, ty5, ty9, ty23, ty24, ty35, ty63, ty71, ty79, off, offE] <;> omega) | (simp only [List.length_append, List.length_take, List.length_drop, List.length_nil, List.length_cons, List.length_replicate, List.length_set, off_addO, off, offE] <;> omega)) | (refine cond_t ?hc ?_; case hc => first | rfl | assumption | (rw [decide_eq_true_eq]; omega) | (rw [decide_eq_false_iff_not]; omega) | (simp <;> omega) | (rw [decide_eq_true pk0]; rfl) | (rw [decide_eq_true pk1]; rfl) | (rw [decide_eq_true pp1]; rfl)) | (refine cond_f ?hc ?_; case hc => first | rfl | assumption | (rw [decide_eq_true_eq]; omega) | (rw [decide_eq_false_iff_not]; omega) | (simp <;> omega) | (rw [decide_eq_true pk0]; rfl) | (rw [decide_eq_true pk1]; rfl) | (rw [decide_eq_true pp1]; rfl)) | refine same_i ?_)
                      conv => whnf
                      refine ⟨⟨s.i + 1, s.hd, s.b, s.l, hin, ok, hc⟩, [0, 1], ?_, ?_⟩
                      · show n - (s.i + 1) < n - s.i
                        omega
                      · repeat ((conv => whnf); first | (refine pre_i ?hc ?_; case hc => first | exact (show planOK _ _ _ = true from by kernel_rfl) | assumption | omega | (unfold fits; omega) | decide +kernel | (constructor <;> first | assumption | omega) | (simp only [off_addO, ty3, ty4, ty5, ty9, ty23, ty24, ty35, ty63, ty71, ty79, off, offE] <;> omega) | (simp only [List.length_append, List.length_take, List.length_drop, List.length_nil, List.length_cons, List.length_replicate, List.length_set, off_addO, off, offE] <;> omega)) | (refine cond_t ?hc ?_; case hc => first | rfl | assumption | (rw [decide_eq_true_eq]; omega) | (rw [decide_eq_false_iff_not]; omega) | (simp <;> omega)) | (refine cond_f ?hc ?_; case hc => first | rfl | assumption | (rw [decide_eq_true_eq]; omega) | (rw [decide_eq_false_iff_not]; omega) | (simp <;> omega)) | refine same_i ?_)
                        exact trivial
                · rw [decide_eq_false_iff_not] at hd
                  have hs := slO_le N ((s.b + p).tmod N).toNat
                  have pp1 : List.take (N - ((s.b + p).tmod N).toNat) (List.drop (off [(slO N ((s.b + p).tmod N).toNat, 1)]) s.l) ++ List.take (m - N + (s.b + p).tmod N).toNat (List.drop (off []) s.l) = List.take m.toNat (List.drop p.toNat (content s.l s.b.toNat (s.hd.length : Int).toNat)) := parts_two (by omega) (by omega) (by omega) (by omega) (by omega) (by omega) (by omega) (by omega) hd
                  by_cases hmp : m > 0
                  · have ho : slO N ((s.b + p).tmod N).toNat = (s.b.toNat + p.toNat) % N := by rw [slO_eq (by omega), hb2]
                    have hset := content_set (l := s.l) (b := s.b.toNat) (h := s.hd.length) (a := p.toNat) (c := wby t) (by omega) (by omega) (by omega)
                    rw [hc, set_take_drop (l := s.hd) (a := p.toNat) (by omega), show s.l.length = N by omega, ← ho] at hset
                    have ea : p.toNat + 1 = (p + 1).toNat := by omega
                    rw [ea] at hset
                    have hlen : (s.hd.take p.toNat ++ [wby t] ++ s.hd.drop (p + 1).toNat).length = s.hd.length := by simp; omega
                    rw [← hlen] at hset
                    have ok2 : ringOK N N N (s.l.set (slO N ((s.b + p).tmod N).toNat) (wby t)) s.b s.hd.length := by unfold ringOK; rw [List.length_set]; omega
                    have ok3 : ringOK N N N (s.l.set (slO N ((s.b + p).tmod N).toNat) (wby t)) s.b ((s.hd.take p.toNat ++ [wby t] ++ s.hd.drop (p + 1).toNat).length : Nat) := by rw [hlen]; exact ok2
                    have ok4 : 0 ≤ p ∧ p + 1 ≤ s.hd.length ∧ s.hd.length ≤ 1048576 ∧ 0 < N - ((s.b + p).tmod N).toNat ∧ slO N ((s.b + p).tmod N).toNat + (N - ((s.b + p).tmod N).toNat) ≤ s.l.length := by rw [ho]; omega
                    have pk2 : List.take (((s.hd.take p.toNat ++ [wby t] ++ s.hd.drop (p + 1).toNat).length : Nat) : Int).toNat (List.drop (Int.toNat 0) (content (s.l.set (slO N ((s.b + p).tmod N).toNat) (wby t)) s.b.toNat (s.hd.length : Int).toNat)) = s.hd.take p.toNat ++ [wby t] ++ s.hd.drop (p + 1).toNat := by
                      rw [hcn, Int.toNat_natCast, ← hlen, hset]
                      exact List.take_length
                    have e2 : (s.hd.length : Int) = ((s.hd.take p.toNat ++ [wby t] ++ s.hd.drop (p + 1).toNat).length : Nat) := by rw [hlen]
                    by_cases hk9 : k > 8
                    · repeat ((conv => whnf); first | (refine pre_i ?hc ?_; case hc => first | exact (show planOK _ _ _ = true from by kernel_rfl) | assumption | omega | (unfold fits; omega) | decide +kernel | (constructor <;> first | assumption | omega) | (simp only [off_addO, ty3, ty4, ty5, ty9, ty23, ty24, ty35, ty63, ty71, ty79, off, offE] <;> omega) | (simp only [List.length_append, List.length_take, List.length_drop, List.length_nil, List.length_cons, List.length_replicate, List.length_set, off_addO, off, offE] <;> omega)) | (refine cond_t ?hc ?_; case hc => first | rfl | assumption | (rw [decide_eq_true_eq]; omega) | (rw [decide_eq_false_iff_not]; omega) | (simp <;> omega) | (rw [decide_eq_true pk0]; rfl) | (rw [decide_eq_true pk1]; rfl) | (rw [decide_eq_true pp1]; rfl) | (rw [decide_eq_true pk2]; rfl) | (rw [decide_eq_true e2]; rfl)) | (refine cond_f ?hc ?_; case hc => first | rfl | assumption | (rw [decide_eq_true_eq]; omega) | (rw [decide_eq_false_iff_not]; omega) | (simp <;> omega) | (rw [decide_eq_true pk0]; rfl) | (rw [decide_eq_true pk1]; rfl) | (rw [decide_eq_true pp1]; rfl) | (rw [decide_eq_true pk2]; rfl) | (rw [decide_eq_true e2]; rfl)) | refine same_i ?_)
                      conv => whnf
                      refine ⟨⟨s.i + 1, _, s.b, _, hin, ok3, hset⟩, [0, 1], ?_, ?_⟩
                      · show n - (s.i + 1) < n - s.i
                        omega
                      · repeat ((conv => whnf); first | (refine pre_i ?hc ?_; case hc => first | exact (show planOK _ _ _ = true from by kernel_rfl) | assumption | omega | (unfold fits; omega) | decide +kernel | (constructor <;> first | assumption | omega) | (simp only [off_addO, ty3, ty4, ty5, ty9, ty23, ty24, ty35, ty63, ty71, ty79, off, offE] <;> omega) | (simp only [List.length_append, List.length_take, List.length_drop, List.length_nil, List.length_cons, List.length_replicate, List.length_set, off_addO, off, offE] <;> omega)) | (refine cond_t ?hc ?_; case hc => first | rfl | assumption | (rw [decide_eq_true_eq]; omega) | (rw [decide_eq_false_iff_not]; omega) | (simp <;> omega)) | (refine cond_f ?hc ?_; case hc => first | rfl | assumption | (rw [decide_eq_true_eq]; omega) | (rw [decide_eq_false_iff_not]; omega) | (simp <;> omega)) | refine same_i ?_)
                        conv => whnf
                        refine same_q (by rw [hlen]; rfl) ?_
                        repeat ((conv => whnf); first | (refine pre_i ?hc ?_; case hc => first | exact (show planOK _ _ _ = true from by kernel_rfl) | assumption | omega | (unfold fits; omega) | decide +kernel | (constructor <;> first | assumption | omega) | (simp only [off_addO, ty3, ty4, ty5, ty9, ty23, ty24, ty35, ty63, ty71, ty79, off, offE] <;> omega) | (simp only [List.length_append, List.length_take, List.length_drop, List.length_nil, List.length_cons, List.length_replicate, List.length_set, off_addO, off, offE] <;> omega)) | (refine cond_t ?hc ?_; case hc => first | rfl | assumption | (rw [decide_eq_true_eq]; omega) | (rw [decide_eq_false_iff_not]; omega) | (simp <;> omega)) | (refine cond_f ?hc ?_; case hc => first | rfl | assumption | (rw [decide_eq_true_eq]; omega) | (rw [decide_eq_false_iff_not]; omega) | (simp <;> omega)) | refine same_i ?_)
                        exact trivial
                    · repeat ((conv => whnf); first | (refine pre_i ?hc ?_; case hc => first | exact (show planOK _ _ _ = true from by kernel_rfl) | assumption | omega | (unfold fits; omega) | decide +kernel | (constructor <;> first | assumption | omega) | (simp only [off_addO, ty3, ty4, ty5, ty9, ty23, ty24, ty35, ty63, ty71, ty79, off, offE] <;> omega) | (simp only [List.length_append, List.length_take, List.length_drop, List.length_nil, List.length_cons, List.length_replicate, List.length_set, off_addO, off, offE] <;> omega)) | (refine cond_t ?hc ?_; case hc => first | rfl | assumption | (rw [decide_eq_true_eq]; omega) | (rw [decide_eq_false_iff_not]; omega) | (simp <;> omega) | (rw [decide_eq_true pk0]; rfl) | (rw [decide_eq_true pk1]; rfl) | (rw [decide_eq_true pp1]; rfl)) | (refine cond_f ?hc ?_; case hc => first | rfl | assumption | (rw [decide_eq_true_eq]; omega) | (rw [decide_eq_false_iff_not]; omega) | (simp <;> omega) | (rw [decide_eq_true pk0]; rfl) | (rw [decide_eq_true pk1]; rfl) | (rw [decide_eq_true pp1]; rfl)) | refine same_i ?_)
                      conv => whnf
                      refine ⟨⟨s.i + 1, s.hd, s.b, s.l, hin, ok, hc⟩, [0, 1], ?_, ?_⟩
                      · show n - (s.i + 1) < n - s.i
                        omega
                      · repeat ((conv => whnf); first | (refine pre_i ?hc ?_; case hc => first | exact (show planOK _ _ _ = true from by kernel_rfl) | assumption | omega | (unfold fits; omega) | decide +kernel | (constructor <;> first | assumption | omega) | (simp only [off_addO, ty3, ty4, ty5, ty9, ty23, ty24, ty35, ty63, ty71, ty79, off, offE] <;> omega) | (simp only [List.length_append, List.length_take, List.length_drop, List.length_nil, List.length_cons, List.length_replicate, List.length_set, off_addO, off, offE] <;> omega)) | (refine cond_t ?hc ?_; case hc => first | rfl | assumption | (rw [decide_eq_true_eq]; omega) | (rw [decide_eq_false_iff_not]; omega) | (simp <;> omega)) | (refine cond_f ?hc ?_; case hc => first | rfl | assumption | (rw [decide_eq_true_eq]; omega) | (rw [decide_eq_false_iff_not]; omega) | (simp <;> omega)) | refine same_i ?_)
                        exact trivial
                  · exfalso; omega
        · repeat ((conv => whnf); first | (refine pre_i ?hc ?_; case hc => first | exact (show planOK _ _ _ = true from by kernel_rfl) | assumption | omega | (unfold fits; omega) | decide +kernel | (constructor <;> first | assumption | omega) | (simp only [off_addO, ty3, ty4, ty5, ty9, ty23, ty24, ty35, ty63, ty71, ty79, off, offE] <;> omega) | (simp only [List.length_append, List.length_take, List.length_drop, List.length_nil, List.length_cons, List.length_replicate, List.length_set, off_addO, off, offE] <;> omega)) | (refine cond_t ?hc ?_; case hc => first | rfl | assumption | (rw [decide_eq_true_eq]; omega) | (rw [decide_eq_false_iff_not]; omega) | (simp <;> omega)) | (refine cond_f ?hc ?_; case hc => first | rfl | assumption | (rw [decide_eq_true_eq]; omega) | (rw [decide_eq_false_iff_not]; omega) | (simp <;> omega)) | refine same_i ?_)
          conv => whnf
          refine final_h (hp' := []) [] rfl ?_
          repeat ((conv => whnf); first | (refine pre_i ?hc ?_; case hc => first | exact (show planOK _ _ _ = true from by kernel_rfl) | assumption | omega | (unfold fits; omega) | decide +kernel | (constructor <;> first | assumption | omega) | (simp only [off_addO, ty3, ty4, ty5, ty9, ty23, ty24, ty35, ty63, ty71, ty79, off, offE] <;> omega) | (simp only [List.length_append, List.length_take, List.length_drop, List.length_nil, List.length_cons, List.length_replicate, List.length_set, off_addO, off, offE] <;> omega)) | (refine cond_t ?hc ?_; case hc => first | rfl | assumption | (rw [decide_eq_true_eq]; omega) | (rw [decide_eq_false_iff_not]; omega) | (simp <;> omega)) | (refine cond_f ?hc ?_; case hc => first | rfl | assumption | (rw [decide_eq_true_eq]; omega) | (rw [decide_eq_false_iff_not]; omega) | (simp <;> omega)) | refine same_i ?_)
          exact trivial
      · repeat ((conv => whnf); first | (refine pre_i ?hc ?_; case hc => first | exact (show planOK _ _ _ = true from by kernel_rfl) | assumption | omega | (unfold fits; omega) | decide +kernel | (constructor <;> first | assumption | omega) | (simp only [off_addO, ty3, ty4, ty5, ty9, ty23, ty24, ty35, ty63, ty71, ty79, off, offE] <;> omega) | (simp only [List.length_append, List.length_take, List.length_drop, List.length_nil, List.length_cons, List.length_replicate, List.length_set, off_addO, off, offE] <;> omega)) | (refine cond_t ?hc ?_; case hc => first | rfl | assumption | (rw [decide_eq_true_eq]; omega) | (rw [decide_eq_false_iff_not]; omega) | (simp <;> omega)) | (refine cond_f ?hc ?_; case hc => first | rfl | assumption | (rw [decide_eq_true_eq]; omega) | (rw [decide_eq_false_iff_not]; omega) | (simp <;> omega)) | refine same_i ?_)
        conv => whnf
        refine final_h (hp' := []) [] rfl ?_
        repeat ((conv => whnf); first | (refine pre_i ?hc ?_; case hc => first | exact (show planOK _ _ _ = true from by kernel_rfl) | assumption | omega | (unfold fits; omega) | decide +kernel | (constructor <;> first | assumption | omega) | (simp only [off_addO, ty3, ty4, ty5, ty9, ty23, ty24, ty35, ty63, ty71, ty79, off, offE] <;> omega) | (simp only [List.length_append, List.length_take, List.length_drop, List.length_nil, List.length_cons, List.length_replicate, List.length_set, off_addO, off, offE] <;> omega)) | (refine cond_t ?hc ?_; case hc => first | rfl | assumption | (rw [decide_eq_true_eq]; omega) | (rw [decide_eq_false_iff_not]; omega) | (simp <;> omega)) | (refine cond_f ?hc ?_; case hc => first | rfl | assumption | (rw [decide_eq_true_eq]; omega) | (rw [decide_eq_false_iff_not]; omega) | (simp <;> omega)) | refine same_i ?_)
        exact trivial
end Go.Sym.R
