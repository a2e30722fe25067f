/-
  Contracts of functions of the program, each said of symbolic values; no condition beyond each statement's own.
-/
import Derived.Test.YtofhjelmgekofaaT9
namespace Go.Sym.R
open Go Go.Proofs.Try Go.Sym.Ring
set_option maxRecDepth 100000

theorem wrap_small {n : Int} (h0 : 0 ≤ n) (h1 : n < 9223372036854775808) : IntKind.i64.wrap n = n := by
  have : fits n := by unfold fits; omega
  exact wrap_i64 n this
theorem ibits_and {a m : Int} (h0 : 0 ≤ m) (h1 : m < 9223372036854775808) : 0 ≤ ibits .and a m ∧ ibits .and a m ≤ m := by
  unfold ibits
  dsimp only
  have hle : (BitVec.ofInt 64 a &&& BitVec.ofInt 64 m).toNat ≤ (BitVec.ofInt 64 m).toNat := by
    rw [BitVec.toNat_and]; exact Nat.and_le_right
  have hm : ((BitVec.ofInt 64 m).toNat : Int) = m := by
    rw [BitVec.toNat_ofInt]
    have : (2 ^ 64 : Nat) = 18446744073709551616 := by decide
    rw [this]
    omega
  rw [wrap_small (by omega) (by omega)]
  omega

def ty41 : TyI := ⟨(.sl 9), 1, 24, .nilsl, false⟩
theorem ty41_ok : TyOK prog 41 ty41 := ⟨⟨_, info_of Go.Proofs.Try.typeInfo41, rfl, rfl, fun _ => rfl⟩, ⟨by simp [ty41, SV.ok, okL], by simp [ty41, Ty.agg], by simp [ty41, SV.size, sizeL]⟩, Go.Proofs.Try.underlying41, fun h => by cases h⟩
def ty42 : TyI := ⟨(.sl 3), 1, 24, .nilsl, false⟩
theorem ty42_ok : TyOK prog 42 ty42 := ⟨⟨_, info_of Go.Proofs.Try.typeInfo42, rfl, rfl, fun _ => rfl⟩, ⟨by simp [ty42, SV.ok, okL], by simp [ty42, Ty.agg], by simp [ty42, SV.size, sizeL]⟩, Go.Proofs.Try.underlying42, fun h => by cases h⟩
def tysB : List (Nat × TyI) := (41, ty41) :: (42, ty42) :: tys
theorem tysB_ok : ∀ t i, look tysB t = some i → TyOK prog t i := tyok_cons ty41_ok (tyok_cons ty42_ok tys_ok)

/-- the orders of the drawn regions of halberdlaw22.RingTurns -/
def pl4 : List (Nat × List PStep) := []

/-- at the loop's head -/
structure BS (N : Nat) (n : Nat) where
  i : Nat
  out : List UInt8
  hd : List UInt8
  b : Int
  l : List UInt8
  hi : i ≤ n
  ok : ringOK N N N l b hd.length
  hc : content l b.toNat hd.length = hd
  hout : out.length + hd.length ≤ i * 64
  hi2 : i ≤ 40

def strRow (a : Option Addr) (rows : List (List At)) : Row := ⟨9, a.getD ⟨0, 0, none⟩, 1, true, rows⟩
def intRow (a : Option Addr) (rows : List (List At)) : Row := ⟨3, a.getD ⟨0, 0, none⟩, 1, true, rows⟩

set_option maxHeartbeats 2000000 in
theorem ringTurns_vc (w : World) (z : Int) (a : Option Addr) (n c : Nat) (rows : List (List At)) (hn : rows.length = n) (hnc : n ≤ 9223372036854775807)
    (hrows : ∀ r ∈ rows, ∃ s, r = [.str s] ∧ s.length ≤ 140737488351232) (a2 : Option Addr) (n2 c2 : Nat) (rows2 : List (List At)) (hn2 : rows2.length = n2) (hnc2 : n2 ≤ 9223372036854775807)
    (hrows2 : ∀ r ∈ rows2, ∃ k, r = [.int k]) :
    fnVC (lawG f4.ntmps tysB ringFnA w [strRow a rows, intRow a2 rows2]) pl4 (codeOf f4) f4.results.toList [.int z, .xsl a n c, .xsl a2 n2 c2] [] (fun r _ => r = .bool true) := by
  have hz := ibits_and (a := z) (m := 63) (by decide) (by decide)
  generalize hzz : ibits .and z 63 = z' at hz
  obtain ⟨N, hN⟩ : ∃ N : Nat, 1 + z' = N := ⟨(1 + z').toNat, by omega⟩
  repeat ((conv => whnf); first | (refine pre_i ?hc ?_; case hc => first | exact (show planOK _ _ _ = true from by kernel_rfl) | assumption | omega | (unfold fits; omega) | decide +kernel | (constructor <;> first | assumption | omega) | (simp only [off_addO, ty3, ty4, ty5, ty9, ty23, ty24, ty35, ty63, ty71, ty79, off, offE] <;> omega) | (simp only [List.length_append, List.length_take, List.length_drop, List.length_nil, List.length_cons, List.length_replicate, List.length_set, off_addO, off, offE] <;> omega)) | (refine cond_t ?hc ?_; case hc => first | rfl | assumption | (rw [decide_eq_true_eq]; omega) | (rw [decide_eq_false_iff_not]; omega) | (simp <;> omega)) | (refine cond_f ?hc ?_; case hc => first | rfl | assumption | (rw [decide_eq_true_eq]; omega) | (rw [decide_eq_false_iff_not]; omega) | (simp <;> omega)) | refine same_i ?_)
  conv => whnf
  rw [hzz, hN]
  refine loop_h (BS N n) (fun s => ⟨[(1, .xsl a n c), (2, .xsl a2 n2 c2), (7, .int N), (8, .ptr 0 0 0 []), (9, .int 0), (10, .str (s.out ++ s.hd)), (11, .str s.out), (12, .int s.i)], [.mk 63 [.sl 1 0 0 [] N N, .int s.b, .int s.hd.length], .mk 5 [.arr8 N s.l]]⟩)
    (fun s => n - s.i) ⟨0, [], [], 0, List.replicate N 0, Nat.zero_le _, by unfold ringOK; simp; omega, by simp [content], Nat.zero_le _, Nat.zero_le _⟩ [0, 1] ?_ ?_
  · repeat ((conv => whnf); first | (refine pre_i ?hc ?_; case hc => first | exact (show planOK _ _ _ = true from by kernel_rfl) | assumption | omega | (unfold fits; omega) | decide +kernel | (constructor <;> first | assumption | omega) | (simp only [off_addO, ty3, ty4, ty5, ty9, ty23, ty24, ty35, ty63, ty71, ty79, off, offE] <;> omega) | (simp only [List.length_append, List.length_take, List.length_drop, List.length_nil, List.length_cons, List.length_replicate, List.length_set, off_addO, off, offE] <;> omega)) | (refine cond_t ?hc ?_; case hc => first | rfl | assumption | (rw [decide_eq_true_eq]; omega) | (rw [decide_eq_false_iff_not]; omega) | (simp <;> omega)) | (refine cond_f ?hc ?_; case hc => first | rfl | assumption | (rw [decide_eq_true_eq]; omega) | (rw [decide_eq_false_iff_not]; omega) | (simp <;> omega)) | refine same_i ?_)
    exact trivial
  · intro s
    have hi := s.hi
    have ok := s.ok
    have hc := s.hc
    have hout := s.hout
    have hi2 := s.hi2
    have ok' := ok
    unfold ringOK at ok'
    by_cases hin : s.i < n
    · by_cases h40 : s.i < 40
      · obtain ⟨r, hr⟩ : ∃ r, rows[s.i]? = some r := ⟨rows[s.i]'(by omega), List.getElem?_eq_getElem (by omega)⟩
        obtain ⟨t, rfl, ht⟩ := hrows r (List.mem_of_getElem? hr)
        have hI : ((s.i : Int)).toNat = s.i := Int.toNat_natCast _
        repeat ((conv => whnf); first | (refine pre_i ?hc ?_; case hc => first | exact (show planOK _ _ _ = true from by kernel_rfl) | assumption | omega | (unfold fits; omega) | decide +kernel | (constructor <;> first | assumption | omega) | (simp only [off_addO, ty3, ty4, ty5, ty9, ty23, ty24, ty35, ty63, ty71, ty79, off, offE] <;> omega) | (simp only [List.length_append, List.length_take, List.length_drop, List.length_nil, List.length_cons, List.length_replicate, List.length_set, off_addO, off, offE] <;> omega)) | (refine cond_t ?hc ?_; case hc => first | rfl | assumption | (rw [decide_eq_true_eq]; omega) | (rw [decide_eq_false_iff_not]; omega) | (simp <;> omega)) | (refine cond_f ?hc ?_; case hc => first | rfl | assumption | (rw [decide_eq_true_eq]; omega) | (rw [decide_eq_false_iff_not]; omega) | (simp <;> omega)) | refine same_i ?_)
        conv => whnf
        refine ext_i (.str t) ⟨strRow a rows, by simp, s.i, _, rfl, by rw [hI]; rfl, hr, rfl⟩ ?_
        repeat ((conv => whnf); first | (refine pre_i ?hc ?_; case hc => first | exact (show planOK _ _ _ = true from by kernel_rfl) | assumption | omega | (unfold fits; omega) | decide +kernel | (constructor <;> first | assumption | omega) | (simp only [off_addO, ty3, ty4, ty5, ty9, ty23, ty24, ty35, ty63, ty71, ty79, off, offE] <;> omega) | (simp only [List.length_append, List.length_take, List.length_drop, List.length_nil, List.length_cons, List.length_replicate, List.length_set, off_addO, off, offE] <;> omega)) | (refine cond_t ?hc ?_; case hc => first | rfl | assumption | (rw [decide_eq_true_eq]; omega) | (rw [decide_eq_false_iff_not]; omega) | (simp <;> omega)) | (refine cond_f ?hc ?_; case hc => first | rfl | assumption | (rw [decide_eq_true_eq]; omega) | (rw [decide_eq_false_iff_not]; omega) | (simp <;> omega)) | refine same_i ?_)
        conv => whnf
        refine all_i fun l' hl' => ?_
        obtain ⟨hl1, hl2⟩ := hl'
        simp only [Int.toNat_natCast] at hl1 hl2
        generalize hkk : min (t.length : Int) ((N : Int) - s.hd.length) = kk at hl2
        rw [hc] at hl2
        have e1 : ((s.hd.length : Int) + kk).toNat = (s.hd ++ t.take kk.toNat).length := by simp; omega
        rw [e1] at hl2
        have e2 : ((s.hd.length : Int) + kk) = ((s.hd ++ t.take kk.toNat).length : Nat) := by rw [← e1, Int.toNat_of_nonneg (by omega)]
        have ok2 : ringOK N N N l' s.b ((s.hd.length : Int) + kk) := by unfold ringOK; omega
        have e3 : (t.take kk.toNat).length = kk.toNat := by simp; omega
        have hlen : (s.hd ++ t.take kk.toNat).length = s.hd.length + kk.toNat := by rw [List.length_append, e3]
        have hext : rowsExt [strRow a rows, intRow a2 rows2] ((a.getD ⟨0, 0, none⟩).add ((s.i : Int).toNat * ty9.sz)) 9 (.str t) := ⟨strRow a rows, by simp, s.i, _, rfl, by rw [hI]; rfl, hr, rfl⟩
        have ok3 : ringOK N N N l' s.b ((s.hd ++ t.take kk.toNat).length : Nat) := by rw [← e2]; exact ok2
        repeat ((conv => whnf); first | (refine pre_i ?hc ?_; case hc => first | exact (show planOK _ _ _ = true from by kernel_rfl) | assumption | omega | (unfold fits; omega) | decide +kernel | (constructor <;> first | assumption | omega) | (simp only [off_addO, ty3, ty4, ty5, ty9, ty23, ty24, ty35, ty63, ty71, ty79, off, offE] <;> omega) | (simp only [List.length_append, List.length_take, List.length_drop, List.length_nil, List.length_cons, List.length_replicate, List.length_set, off_addO, off, offE] <;> omega)) | (refine cond_t ?hc ?_; case hc => first | rfl | assumption | (rw [decide_eq_true_eq]; omega) | (rw [decide_eq_false_iff_not]; omega) | (simp <;> omega)) | (refine cond_f ?hc ?_; case hc => first | rfl | assumption | (rw [decide_eq_true_eq]; omega) | (rw [decide_eq_false_iff_not]; omega) | (simp <;> omega)) | refine same_i ?_)
        conv => whnf
        refine ext_i (.str t) hext ?_
        by_cases hlt : kk < t.length
        all_goals
          repeat ((conv => whnf); first | (refine pre_i ?hc ?_; case hc => first | exact (show planOK _ _ _ = true from by kernel_rfl) | assumption | omega | (unfold fits; omega) | decide +kernel | (constructor <;> first | assumption | omega) | (simp only [off_addO, ty3, ty4, ty5, ty9, ty23, ty24, ty35, ty63, ty71, ty79, off, offE] <;> omega) | (simp only [List.length_append, List.length_take, List.length_drop, List.length_nil, List.length_cons, List.length_replicate, List.length_set, off_addO, off, offE] <;> omega)) | (refine cond_t ?hc ?_; case hc => first | rfl | assumption | (rw [decide_eq_true_eq]; omega) | (rw [decide_eq_false_iff_not]; omega) | (simp <;> omega)) | (refine cond_f ?hc ?_; case hc => first | rfl | assumption | (rw [decide_eq_true_eq]; omega) | (rw [decide_eq_false_iff_not]; omega) | (simp <;> omega)) | refine same_i ?_)
          conv => whnf
          refine ext_i (.str t) hext ?_
          repeat ((conv => whnf); first | (refine pre_i ?hc ?_; case hc => first | exact (show planOK _ _ _ = true from by kernel_rfl) | assumption | omega | (unfold fits; omega) | decide +kernel | (constructor <;> first | assumption | omega) | (simp only [off_addO, ty3, ty4, ty5, ty9, ty23, ty24, ty35, ty63, ty71, ty79, off, offE] <;> omega) | (simp only [List.length_append, List.length_take, List.length_drop, List.length_nil, List.length_cons, List.length_replicate, List.length_set, off_addO, off, offE] <;> omega)) | (refine cond_t ?hc ?_; case hc => first | rfl | assumption | (rw [decide_eq_true_eq]; omega) | (rw [decide_eq_false_iff_not]; omega) | (simp <;> omega)) | (refine cond_f ?hc ?_; case hc => first | rfl | assumption | (rw [decide_eq_true_eq]; omega) | (rw [decide_eq_false_iff_not]; omega) | (simp <;> omega)) | refine same_i ?_)
          conv => whnf
          refine ext_i (.str t) hext ?_
          by_cases hn2' : s.i < n2
          · obtain ⟨r2, hr2⟩ : ∃ r, rows2[s.i]? = some r := ⟨rows2[s.i]'(by omega), List.getElem?_eq_getElem (by omega)⟩
            obtain ⟨q0, rfl⟩ := hrows2 r2 (List.mem_of_getElem? hr2)
            have hq := ibits_and (a := q0) (m := 63) (by decide) (by decide)
            repeat ((conv => whnf); first | (refine pre_i ?hc ?_; case hc => first | exact (show planOK _ _ _ = true from by kernel_rfl) | assumption | omega | (unfold fits; omega) | decide +kernel | (constructor <;> first | assumption | omega) | (simp only [off_addO, ty3, ty4, ty5, ty9, ty23, ty24, ty35, ty63, ty71, ty79, off, offE] <;> omega) | (simp only [List.length_append, List.length_take, List.length_drop, List.length_nil, List.length_cons, List.length_replicate, List.length_set, off_addO, off, offE] <;> omega)) | (refine cond_t ?hc ?_; case hc => first | rfl | assumption | (rw [decide_eq_true_eq]; omega) | (rw [decide_eq_false_iff_not]; omega) | (simp <;> omega)) | (refine cond_f ?hc ?_; case hc => first | rfl | assumption | (rw [decide_eq_true_eq]; omega) | (rw [decide_eq_false_iff_not]; omega) | (simp <;> omega)) | refine same_i ?_)
            conv => whnf
            refine ext_i (.int q0) ⟨intRow a2 rows2, by simp, s.i, _, rfl, by rw [hI]; rfl, hr2, rfl⟩ ?_
            generalize hqq : ibits .and q0 63 = q at hq
            by_cases hq1 : q < 1
            · repeat ((conv => whnf); first | (refine pre_i ?hc ?_; case hc => first | exact (show planOK _ _ _ = true from by kernel_rfl) | assumption | omega | (unfold fits; omega) | decide +kernel | (constructor <;> first | assumption | omega) | (simp only [off_addO, ty3, ty4, ty5, ty9, ty23, ty24, ty35, ty63, ty71, ty79, off, offE] <;> omega) | (simp only [List.length_append, List.length_take, List.length_drop, List.length_nil, List.length_cons, List.length_replicate, List.length_set, off_addO, off, offE] <;> omega)) | (refine cond_t ?hc ?_; case hc => first | rfl | assumption | (rw [decide_eq_true_eq]; omega) | (rw [decide_eq_false_iff_not]; omega) | (simp <;> omega)) | (refine cond_f ?hc ?_; case hc => first | rfl | assumption | (rw [decide_eq_true_eq]; omega) | (rw [decide_eq_false_iff_not]; omega) | (simp <;> omega)) | refine same_i ?_)
              conv => whnf
              rw [List.append_nil]
              repeat ((conv => whnf); first | (refine pre_i ?hc ?_; case hc => first | exact (show planOK _ _ _ = true from by kernel_rfl) | assumption | omega | (unfold fits; omega) | decide +kernel | (constructor <;> first | assumption | omega) | (simp only [off_addO, ty3, ty4, ty5, ty9, ty23, ty24, ty35, ty63, ty71, ty79, off, offE] <;> omega) | (simp only [List.length_append, List.length_take, List.length_drop, List.length_nil, List.length_cons, List.length_replicate, List.length_set, off_addO, off, offE] <;> omega)) | (refine cond_t ?hc ?_; case hc => first | rfl | assumption | (rw [decide_eq_true_eq]; omega) | (rw [decide_eq_false_iff_not]; omega) | (simp <;> omega)) | (refine cond_f ?hc ?_; case hc => first | rfl | assumption | (rw [decide_eq_true_eq]; omega) | (rw [decide_eq_false_iff_not]; omega) | (simp <;> omega)) | refine same_i ?_)
              conv => whnf
              refine ⟨⟨s.i + 1, s.out, s.hd ++ t.take kk.toNat, s.b, l', hin, ok3, hl2, by rw [hlen]; omega, by omega⟩, [0, 1], ?_, ?_⟩
              · show n - (s.i + 1) < n - s.i
                omega
              · skip
                conv => whnf
                refine same_q (by rw [e2]; rfl) ?_
                repeat ((conv => whnf); first | (refine pre_i ?hc ?_; case hc => first | exact (show planOK _ _ _ = true from by kernel_rfl) | assumption | omega | (unfold fits; omega) | decide +kernel | (constructor <;> first | assumption | omega) | (simp only [off_addO, ty3, ty4, ty5, ty9, ty23, ty24, ty35, ty63, ty71, ty79, off, offE] <;> omega) | (simp only [List.length_append, List.length_take, List.length_drop, List.length_nil, List.length_cons, List.length_replicate, List.length_set, off_addO, off, offE] <;> omega)) | (refine cond_t ?hc ?_; case hc => first | rfl | assumption | (rw [decide_eq_true_eq]; omega) | (rw [decide_eq_false_iff_not]; omega) | (simp <;> omega)) | (refine cond_f ?hc ?_; case hc => first | rfl | assumption | (rw [decide_eq_true_eq]; omega) | (rw [decide_eq_false_iff_not]; omega) | (simp <;> omega)) | refine same_i ?_)
                conv => whnf
                refine same_q (by rw [List.append_assoc]; rfl) ?_
                repeat ((conv => whnf); first | (refine pre_i ?hc ?_; case hc => first | exact (show planOK _ _ _ = true from by kernel_rfl) | assumption | omega | (unfold fits; omega) | decide +kernel | (constructor <;> first | assumption | omega) | (simp only [off_addO, ty3, ty4, ty5, ty9, ty23, ty24, ty35, ty63, ty71, ty79, off, offE] <;> omega) | (simp only [List.length_append, List.length_take, List.length_drop, List.length_nil, List.length_cons, List.length_replicate, List.length_set, off_addO, off, offE] <;> omega)) | (refine cond_t ?hc ?_; case hc => first | rfl | assumption | (rw [decide_eq_true_eq]; omega) | (rw [decide_eq_false_iff_not]; omega) | (simp <;> omega)) | (refine cond_f ?hc ?_; case hc => first | rfl | assumption | (rw [decide_eq_true_eq]; omega) | (rw [decide_eq_false_iff_not]; omega) | (simp <;> omega)) | refine same_i ?_)
                exact trivial
            · generalize hkm : min q ((s.hd.length : Int) + kk) = km
              have hm0 : 0 ≤ (s.b + km).tmod N := Int.tmod_nonneg _ (by omega)
              have hm1 : (s.b + km).tmod N < N := Int.tmod_lt_of_pos _ (by omega)
              have hb2 : ((s.b + km).tmod N).toNat = (s.b.toNat + km.toNat) % N := by rw [tmod_nat (by omega)]; congr 1; omega
              have tk : List.take km.toNat (content l' s.b.toNat ((s.hd.length : Int) + kk).toNat) = List.take km.toNat (s.hd ++ t.take kk.toNat) := by rw [e1, hl2]
              have f1 : ((s.hd.length : Int) + kk - km) = (((s.hd ++ t.take kk.toNat).drop km.toNat).length : Nat) := by rw [List.length_drop, hlen]; omega
              have hc2 : content l' ((s.b + km).tmod N).toNat ((s.hd ++ t.take kk.toNat).drop km.toNat).length = (s.hd ++ t.take kk.toNat).drop km.toNat := by
                have := drop_content (l := l') (b := s.b.toNat) (h := (s.hd ++ t.take kk.toNat).length) (k := km.toNat) (by omega) (by omega) (by omega)
                rw [hl2] at this
                rw [hb2, List.length_drop, ← this]
                congr 2
                omega
              have ok4 : ringOK N N N l' ((s.b + km).tmod N) ((s.hd.length : Int) + kk - km) := by unfold ringOK; omega
              have ok5 : ringOK N N N l' ((s.b + km).tmod N) (((s.hd ++ t.take kk.toNat).drop km.toNat).length : Nat) := by rw [← f1]; exact ok4
              have f2 : (List.take km.toNat (s.hd ++ t.take kk.toNat)).length = km.toNat := by rw [List.length_take, hlen]; omega
              have f3 : (((s.out ++ s.hd ++ t.take kk.toNat).length : Nat) : Int) = ((s.out ++ List.take km.toNat (s.hd ++ t.take kk.toNat)).length : Nat) + ((s.hd.length : Int) + kk - km) := by
                rw [List.length_append, List.length_append, List.length_append, e3, f2]; omega
              have f5 : fits (((s.out ++ List.take km.toNat (s.hd ++ t.take kk.toNat)).length : Nat) + ((s.hd.length : Int) + kk - km)) := by unfold fits; rw [List.length_append, f2]; omega
              have f4 : s.out ++ s.hd ++ t.take kk.toNat = (s.out ++ List.take km.toNat (s.hd ++ t.take kk.toNat)) ++ (s.hd ++ t.take kk.toNat).drop km.toNat := by
                rw [List.append_assoc, List.append_assoc, List.take_append_drop]
              repeat ((conv => whnf); first | (refine pre_i ?hc ?_; case hc => first | exact (show planOK _ _ _ = true from by kernel_rfl) | assumption | omega | (unfold fits; omega) | decide +kernel | (constructor <;> first | assumption | omega) | (simp only [off_addO, ty3, ty4, ty5, ty9, ty23, ty24, ty35, ty63, ty71, ty79, off, offE] <;> omega) | (simp only [List.length_append, List.length_take, List.length_drop, List.length_nil, List.length_cons, List.length_replicate, List.length_set, off_addO, off, offE] <;> omega)) | (refine cond_t ?hc ?_; case hc => first | rfl | assumption | (rw [decide_eq_true_eq]; omega) | (rw [decide_eq_false_iff_not]; omega) | (simp <;> omega)) | (refine cond_f ?hc ?_; case hc => first | rfl | assumption | (rw [decide_eq_true_eq]; omega) | (rw [decide_eq_false_iff_not]; omega) | (simp <;> omega)) | refine same_i ?_)
              conv => whnf
              rw [hqq, hkm]
              repeat ((conv => whnf); first | (refine pre_i ?hc ?_; case hc => first | exact (show planOK _ _ _ = true from by kernel_rfl) | assumption | omega | (unfold fits; omega) | decide +kernel | (constructor <;> first | assumption | omega) | (simp only [off_addO, ty3, ty4, ty5, ty9, ty23, ty24, ty35, ty63, ty71, ty79, off, offE] <;> omega) | (simp only [List.length_append, List.length_take, List.length_drop, List.length_nil, List.length_cons, List.length_replicate, List.length_set, off_addO, off, offE] <;> omega)) | (refine cond_t ?hc ?_; case hc => first | rfl | assumption | (rw [decide_eq_true_eq]; omega) | (rw [decide_eq_false_iff_not]; omega) | (simp <;> omega)) | (refine cond_f ?hc ?_; case hc => first | rfl | assumption | (rw [decide_eq_true_eq]; omega) | (rw [decide_eq_false_iff_not]; omega) | (simp <;> omega)) | refine same_i ?_)
              conv => whnf
              rw [tk]
              repeat ((conv => whnf); first | (refine pre_i ?hc ?_; case hc => first | exact (show planOK _ _ _ = true from by kernel_rfl) | assumption | omega | (unfold fits; omega) | decide +kernel | (constructor <;> first | assumption | omega) | (simp only [off_addO, ty3, ty4, ty5, ty9, ty23, ty24, ty35, ty63, ty71, ty79, off, offE] <;> omega) | (simp only [List.length_append, List.length_take, List.length_drop, List.length_nil, List.length_cons, List.length_replicate, List.length_set, off_addO, off, offE] <;> omega)) | (refine cond_t ?hc ?_; case hc => first | rfl | assumption | (rw [decide_eq_true_eq]; omega) | (rw [decide_eq_false_iff_not]; omega) | (simp <;> omega) | (rw [decide_eq_true f3]; rfl)) | (refine cond_f ?hc ?_; case hc => first | rfl | assumption | (rw [decide_eq_true_eq]; omega) | (rw [decide_eq_false_iff_not]; omega) | (simp <;> omega) | (rw [decide_eq_true f3]; rfl)) | refine same_i ?_)
              conv => whnf
              refine ⟨⟨s.i + 1, s.out ++ List.take km.toNat (s.hd ++ t.take kk.toNat), (s.hd ++ t.take kk.toNat).drop km.toNat, (s.b + km).tmod N, l', hin, ok5, hc2, by rw [List.length_append, f2, List.length_drop, hlen]; omega, by omega⟩, [0, 1], ?_, ?_⟩
              · show n - (s.i + 1) < n - s.i
                omega
              · conv => whnf
                refine same_q (by rw [f1]; rfl) ?_
                repeat ((conv => whnf); first | (refine pre_i ?hc ?_; case hc => first | exact (show planOK _ _ _ = true from by kernel_rfl) | assumption | omega | (unfold fits; omega) | decide +kernel | (constructor <;> first | assumption | omega) | (simp only [off_addO, ty3, ty4, ty5, ty9, ty23, ty24, ty35, ty63, ty71, ty79, off, offE] <;> omega) | (simp only [List.length_append, List.length_take, List.length_drop, List.length_nil, List.length_cons, List.length_replicate, List.length_set, off_addO, off, offE] <;> omega)) | (refine cond_t ?hc ?_; case hc => first | rfl | assumption | (rw [decide_eq_true_eq]; omega) | (rw [decide_eq_false_iff_not]; omega) | (simp <;> omega)) | (refine cond_f ?hc ?_; case hc => first | rfl | assumption | (rw [decide_eq_true_eq]; omega) | (rw [decide_eq_false_iff_not]; omega) | (simp <;> omega)) | refine same_i ?_)
                conv => whnf
                refine same_q (by rw [f4]; rfl) ?_
                repeat ((conv => whnf); first | (refine pre_i ?hc ?_; case hc => first | exact (show planOK _ _ _ = true from by kernel_rfl) | assumption | omega | (unfold fits; omega) | decide +kernel | (constructor <;> first | assumption | omega) | (simp only [off_addO, ty3, ty4, ty5, ty9, ty23, ty24, ty35, ty63, ty71, ty79, off, offE] <;> omega) | (simp only [List.length_append, List.length_take, List.length_drop, List.length_nil, List.length_cons, List.length_replicate, List.length_set, off_addO, off, offE] <;> omega)) | (refine cond_t ?hc ?_; case hc => first | rfl | assumption | (rw [decide_eq_true_eq]; omega) | (rw [decide_eq_false_iff_not]; omega) | (simp <;> omega)) | (refine cond_f ?hc ?_; case hc => first | rfl | assumption | (rw [decide_eq_true_eq]; omega) | (rw [decide_eq_false_iff_not]; omega) | (simp <;> omega)) | refine same_i ?_)
                exact trivial
          · repeat ((conv => whnf); first | (refine pre_i ?hc ?_; case hc => first | exact (show planOK _ _ _ = true from by kernel_rfl) | assumption | omega | (unfold fits; omega) | decide +kernel | (constructor <;> first | assumption | omega) | (simp only [off_addO, ty3, ty4, ty5, ty9, ty23, ty24, ty35, ty63, ty71, ty79, off, offE] <;> omega) | (simp only [List.length_append, List.length_take, List.length_drop, List.length_nil, List.length_cons, List.length_replicate, List.length_set, off_addO, off, offE] <;> omega)) | (refine cond_t ?hc ?_; case hc => first | rfl | assumption | (rw [decide_eq_true_eq]; omega) | (rw [decide_eq_false_iff_not]; omega) | (simp <;> omega)) | (refine cond_f ?hc ?_; case hc => first | rfl | assumption | (rw [decide_eq_true_eq]; omega) | (rw [decide_eq_false_iff_not]; omega) | (simp <;> omega)) | refine same_i ?_)
            conv => whnf
            refine ⟨⟨s.i + 1, s.out, s.hd ++ t.take kk.toNat, s.b, l', hin, ok3, hl2, by rw [hlen]; omega, by omega⟩, [0, 1], ?_, ?_⟩
            · show n - (s.i + 1) < n - s.i
              omega
            · skip
              conv => whnf
              refine same_q (by rw [e2]; rfl) ?_
              repeat ((conv => whnf); first | (refine pre_i ?hc ?_; case hc => first | exact (show planOK _ _ _ = true from by kernel_rfl) | assumption | omega | (unfold fits; omega) | decide +kernel | (constructor <;> first | assumption | omega) | (simp only [off_addO, ty3, ty4, ty5, ty9, ty23, ty24, ty35, ty63, ty71, ty79, off, offE] <;> omega) | (simp only [List.length_append, List.length_take, List.length_drop, List.length_nil, List.length_cons, List.length_replicate, List.length_set, off_addO, off, offE] <;> omega)) | (refine cond_t ?hc ?_; case hc => first | rfl | assumption | (rw [decide_eq_true_eq]; omega) | (rw [decide_eq_false_iff_not]; omega) | (simp <;> omega)) | (refine cond_f ?hc ?_; case hc => first | rfl | assumption | (rw [decide_eq_true_eq]; omega) | (rw [decide_eq_false_iff_not]; omega) | (simp <;> omega)) | refine same_i ?_)
              conv => whnf
              refine same_q (by rw [List.append_assoc]; rfl) ?_
              repeat ((conv => whnf); first | (refine pre_i ?hc ?_; case hc => first | exact (show planOK _ _ _ = true from by kernel_rfl) | assumption | omega | (unfold fits; omega) | decide +kernel | (constructor <;> first | assumption | omega) | (simp only [off_addO, ty3, ty4, ty5, ty9, ty23, ty24, ty35, ty63, ty71, ty79, off, offE] <;> omega) | (simp only [List.length_append, List.length_take, List.length_drop, List.length_nil, List.length_cons, List.length_replicate, List.length_set, off_addO, off, offE] <;> omega)) | (refine cond_t ?hc ?_; case hc => first | rfl | assumption | (rw [decide_eq_true_eq]; omega) | (rw [decide_eq_false_iff_not]; omega) | (simp <;> omega)) | (refine cond_f ?hc ?_; case hc => first | rfl | assumption | (rw [decide_eq_true_eq]; omega) | (rw [decide_eq_false_iff_not]; omega) | (simp <;> omega)) | refine same_i ?_)
              exact trivial
      · have emn : min 1048576 (s.hd.length : Int) = (s.hd.length : Int) := by omega
        have fc : s.out ++ s.hd = s.out ++ List.take (s.hd.length : Int).toNat (content s.l s.b.toNat (s.hd.length : Int).toNat) := by
          rw [Int.toNat_natCast, hc, List.take_of_length_le (by omega)]
        have hm0 : 0 ≤ (s.b + (s.hd.length : Int)).tmod N := Int.tmod_nonneg _ (by omega)
        have hm1 : (s.b + (s.hd.length : Int)).tmod N < N := Int.tmod_lt_of_pos _ (by omega)
        have okf : ringOK N N N s.l ((s.b + (s.hd.length : Int)).tmod N) ((s.hd.length : Int) - (s.hd.length : Int)) := by unfold ringOK; omega
        repeat ((conv => whnf); first | (refine pre_i ?hc ?_; case hc => first | exact (show planOK _ _ _ = true from by kernel_rfl) | assumption | omega | (unfold fits; omega) | decide +kernel | (constructor <;> first | assumption | omega) | (simp only [off_addO, ty3, ty4, ty5, ty9, ty23, ty24, ty35, ty63, ty71, ty79, off, offE] <;> omega) | (simp only [List.length_append, List.length_take, List.length_drop, List.length_nil, List.length_cons, List.length_replicate, List.length_set, off_addO, off, offE] <;> omega)) | (refine cond_t ?hc ?_; case hc => first | rfl | assumption | (rw [decide_eq_true_eq]; omega) | (rw [decide_eq_false_iff_not]; omega) | (simp <;> omega)) | (refine cond_f ?hc ?_; case hc => first | rfl | assumption | (rw [decide_eq_true_eq]; omega) | (rw [decide_eq_false_iff_not]; omega) | (simp <;> omega)) | refine same_i ?_)
        conv => whnf
        rw [emn]
        have e5 : min 5 ((s.hd.length : Int) - (s.hd.length : Int)) = 0 := by omega
        have e6 : ((s.hd.length : Int) - (s.hd.length : Int)) - 0 = 0 := by omega
        have hm2 : 0 ≤ ((s.b + (s.hd.length : Int)).tmod N + 0).tmod N := Int.tmod_nonneg _ (by omega)
        have hm3 : ((s.b + (s.hd.length : Int)).tmod N + 0).tmod N < N := Int.tmod_lt_of_pos _ (by omega)
        have okg : ringOK N N N s.l (((s.b + (s.hd.length : Int)).tmod N + 0).tmod N) ((s.hd.length : Int) - (s.hd.length : Int) - 0) := by unfold ringOK; omega
        repeat ((conv => whnf); first | (refine pre_i ?hc ?_; case hc => first | exact (show planOK _ _ _ = true from by kernel_rfl) | assumption | omega | (unfold fits; omega) | decide +kernel | (constructor <;> first | assumption | omega) | (simp only [off_addO, ty3, ty4, ty5, ty9, ty23, ty24, ty35, ty63, ty71, ty79, off, offE] <;> omega) | (simp only [List.length_append, List.length_take, List.length_drop, List.length_nil, List.length_cons, List.length_replicate, List.length_set, off_addO, off, offE] <;> omega)) | (refine cond_t ?hc ?_; case hc => first | rfl | assumption | (rw [decide_eq_true_eq]; omega) | (rw [decide_eq_false_iff_not]; omega) | (simp <;> omega) | (rw [decide_eq_true fc]; rfl)) | (refine cond_f ?hc ?_; case hc => first | rfl | assumption | (rw [decide_eq_true_eq]; omega) | (rw [decide_eq_false_iff_not]; omega) | (simp <;> omega) | (rw [decide_eq_true fc]; rfl)) | refine same_i ?_)
        conv => whnf
        rw [e5]
        repeat ((conv => whnf); first | (refine pre_i ?hc ?_; case hc => first | exact (show planOK _ _ _ = true from by kernel_rfl) | assumption | omega | (unfold fits; omega) | decide +kernel | (constructor <;> first | assumption | omega) | (simp only [off_addO, ty3, ty4, ty5, ty9, ty23, ty24, ty35, ty63, ty71, ty79, off, offE] <;> omega) | (simp only [List.length_append, List.length_take, List.length_drop, List.length_nil, List.length_cons, List.length_replicate, List.length_set, off_addO, off, offE] <;> omega)) | (refine cond_t ?hc ?_; case hc => first | rfl | assumption | (rw [decide_eq_true_eq]; omega) | (rw [decide_eq_false_iff_not]; omega) | (simp <;> omega)) | (refine cond_f ?hc ?_; case hc => first | rfl | assumption | (rw [decide_eq_true_eq]; omega) | (rw [decide_eq_false_iff_not]; omega) | (simp <;> omega)) | refine same_i ?_)
        conv => whnf
        refine final_h (hp' := []) [] rfl ?_
        repeat ((conv => whnf); first | (refine pre_i ?hc ?_; case hc => first | exact (show planOK _ _ _ = true from by kernel_rfl) | assumption | omega | (unfold fits; omega) | decide +kernel | (constructor <;> first | assumption | omega) | (simp only [off_addO, ty3, ty4, ty5, ty9, ty23, ty24, ty35, ty63, ty71, ty79, off, offE] <;> omega) | (simp only [List.length_append, List.length_take, List.length_drop, List.length_nil, List.length_cons, List.length_replicate, List.length_set, off_addO, off, offE] <;> omega)) | (refine cond_t ?hc ?_; case hc => first | rfl | assumption | (rw [decide_eq_true_eq]; omega) | (rw [decide_eq_false_iff_not]; omega) | (simp <;> omega)) | (refine cond_f ?hc ?_; case hc => first | rfl | assumption | (rw [decide_eq_true_eq]; omega) | (rw [decide_eq_false_iff_not]; omega) | (simp <;> omega)) | refine same_i ?_)
        exact trivial
    · have emn : min 1048576 (s.hd.length : Int) = (s.hd.length : Int) := by omega
      have fc : s.out ++ s.hd = s.out ++ List.take (s.hd.length : Int).toNat (content s.l s.b.toNat (s.hd.length : Int).toNat) := by
        rw [Int.toNat_natCast, hc, List.take_of_length_le (by omega)]
      have hm0 : 0 ≤ (s.b + (s.hd.length : Int)).tmod N := Int.tmod_nonneg _ (by omega)
      have hm1 : (s.b + (s.hd.length : Int)).tmod N < N := Int.tmod_lt_of_pos _ (by omega)
      have okf : ringOK N N N s.l ((s.b + (s.hd.length : Int)).tmod N) ((s.hd.length : Int) - (s.hd.length : Int)) := by unfold ringOK; omega
      repeat ((conv => whnf); first | (refine pre_i ?hc ?_; case hc => first | exact (show planOK _ _ _ = true from by kernel_rfl) | assumption | omega | (unfold fits; omega) | decide +kernel | (constructor <;> first | assumption | omega) | (simp only [off_addO, ty3, ty4, ty5, ty9, ty23, ty24, ty35, ty63, ty71, ty79, off, offE] <;> omega) | (simp only [List.length_append, List.length_take, List.length_drop, List.length_nil, List.length_cons, List.length_replicate, List.length_set, off_addO, off, offE] <;> omega)) | (refine cond_t ?hc ?_; case hc => first | rfl | assumption | (rw [decide_eq_true_eq]; omega) | (rw [decide_eq_false_iff_not]; omega) | (simp <;> omega)) | (refine cond_f ?hc ?_; case hc => first | rfl | assumption | (rw [decide_eq_true_eq]; omega) | (rw [decide_eq_false_iff_not]; omega) | (simp <;> omega)) | refine same_i ?_)
      conv => whnf
      rw [emn]
      have e5 : min 5 ((s.hd.length : Int) - (s.hd.length : Int)) = 0 := by omega
      have e6 : ((s.hd.length : Int) - (s.hd.length : Int)) - 0 = 0 := by omega
      have hm2 : 0 ≤ ((s.b + (s.hd.length : Int)).tmod N + 0).tmod N := Int.tmod_nonneg _ (by omega)
      have hm3 : ((s.b + (s.hd.length : Int)).tmod N + 0).tmod N < N := Int.tmod_lt_of_pos _ (by omega)
      have okg : ringOK N N N s.l (((s.b + (s.hd.length : Int)).tmod N + 0).tmod N) ((s.hd.length : Int) - (s.hd.length : Int) - 0) := by unfold ringOK; omega
      repeat ((conv => whnf); first | (refine pre_i ?hc ?_; case hc => first | exact (show planOK _ _ _ = true from by kernel_rfl) | assumption | omega | (unfold fits; omega) | decide +kernel | (constructor <;> first | assumption | omega) | (simp only [off_addO, ty3, ty4, ty5, ty9, ty23, ty24, ty35, ty63, ty71, ty79, off, offE] <;> omega) | (simp only [List.length_append, List.length_take, List.length_drop, List.length_nil, List.length_cons, List.length_replicate, List.length_set, off_addO, off, offE] <;> omega)) | (refine cond_t ?hc ?_; case hc => first | rfl | assumption | (rw [decide_eq_true_eq]; omega) | (rw [decide_eq_false_iff_not]; omega) | (simp <;> omega) | (rw [decide_eq_true fc]; rfl)) | (refine cond_f ?hc ?_; case hc => first | rfl | assumption | (rw [decide_eq_true_eq]; omega) | (rw [decide_eq_false_iff_not]; omega) | (simp <;> omega) | (rw [decide_eq_true fc]; rfl)) | refine same_i ?_)
      conv => whnf
      rw [e5]
      repeat ((conv => whnf); first | (refine pre_i ?hc ?_; case hc => first | exact (show planOK _ _ _ = true from by kernel_rfl) | assumption | omega | (unfold fits; omega) | decide +kernel | (constructor <;> first | assumption | omega) | (simp only [off_addO, ty3, ty4, ty5, ty9, ty23, ty24, ty35, ty63, ty71, ty79, off, offE] <;> omega) | (simp only [List.length_append, List.length_take, List.length_drop, List.length_nil, List.length_cons, List.length_replicate, List.length_set, off_addO, off, offE] <;> omega)) | (refine cond_t ?hc ?_; case hc => first | rfl | assumption | (rw [decide_eq_true_eq]; omega) | (rw [decide_eq_false_iff_not]; omega) | (simp <;> omega)) | (refine cond_f ?hc ?_; case hc => first | rfl | assumption | (rw [decide_eq_true_eq]; omega) | (rw [decide_eq_false_iff_not]; omega) | (simp <;> omega)) | refine same_i ?_)
      conv => whnf
      refine final_h (hp' := []) [] rfl ?_
      repeat ((conv => whnf); first | (refine pre_i ?hc ?_; case hc => first | exact (show planOK _ _ _ = true from by kernel_rfl) | assumption | omega | (unfold fits; omega) | decide +kernel | (constructor <;> first | assumption | omega) | (simp only [off_addO, ty3, ty4, ty5, ty9, ty23, ty24, ty35, ty63, ty71, ty79, off, offE] <;> omega) | (simp only [List.length_append, List.length_take, List.length_drop, List.length_nil, List.length_cons, List.length_replicate, List.length_set, off_addO, off, offE] <;> omega)) | (refine cond_t ?hc ?_; case hc => first | rfl | assumption | (rw [decide_eq_true_eq]; omega) | (rw [decide_eq_false_iff_not]; omega) | (simp <;> omega)) | (refine cond_f ?hc ?_; case hc => first | rfl | assumption | (rw [decide_eq_true_eq]; omega) | (rw [decide_eq_false_iff_not]; omega) | (simp <;> omega)) | refine same_i ?_)
      exact trivial
theorem has_str {r : List At} (h : AllHas [.s] r) : ∃ s, r = [.str s] ∧ s.length ≤ 140737488351232 := by
  match r, h with
  | [.str s], h => exact ⟨s, rfl, h.1⟩
theorem has_int {r : List At} (h : AllHas [.i] r) : ∃ k, r = [.int k] := by
  match r, h with
  | [.int k], _ => exact ⟨k, rfl⟩
theorem ringTurns_end (w : World) (z : Int) (_ : -9223372036854775808 ≤ z ∧ z ≤ 9223372036854775807) (a : Option Addr) (n c : Nat) (rows : List (List At)) (hn : rows.length = n) (hb : n * 16 ≤ 140737488351232)
    (has : ∀ r ∈ rows, AllHas [.s] r ∧ r.length = 1) (a2 : Option Addr) (n2 c2 : Nat) (rows2 : List (List At)) (hn2 : rows2.length = n2) (hb2 : n2 * 8 ≤ 140737488351232) (has2 : ∀ r ∈ rows2, AllHas [.i] r ∧ r.length = 1) :
    fnVC (lawG f4.ntmps tysB ringFnA w [⟨9, a.getD ⟨0, 0, none⟩, 1, true, rows⟩, ⟨3, a2.getD ⟨0, 0, none⟩, 1, true, rows2⟩]) pl4 (codeOf f4) f4.results.toList [.int z, .xsl a n c, .xsl a2 n2 c2] [] (fun r _ => r = .bool true) :=
  ringTurns_vc w z a n c rows hn (by omega) (fun r hr => has_str (has r hr).1) a2 n2 c2 rows2 hn2 (by omega) fun r hr => has_int (has2 r hr).1
end Go.Sym.R
