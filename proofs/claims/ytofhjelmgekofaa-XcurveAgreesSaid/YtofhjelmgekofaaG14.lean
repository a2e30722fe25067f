/-
  Contracts of functions of the program, each said of symbolic values, and plain laws; no condition beyond each statement's own.
-/
import Derived.Test.YtofhjelmgekofaaG13
import Derived.Test.YtofhjelmgekofaaG12
set_option linter.unusedSimpArgs false
set_option linter.unusedVariables false
/-
  The ladder run at numbers: an evaluator whose state is forced, and one value. Plain laws. No program in sight; no condition beyond each lemma's own.
-/
namespace Go.Sym.X
open Go.Sym.Num

def fo (n : Nat) (k : Nat → Bool) : Bool := Nat.rec (k 0) (fun i _ => k (i + 1)) n
theorem fo_eq (n : Nat) (k : Nat → Bool) : fo n k = k n := by cases n <;> rfl
def stepK (m ri x1 y x2 z2 x3 z3 : Nat) (k : Nat → Nat → Nat → Nat → Bool) : Bool :=
  fo ((x2 + z2) % m) fun a => fo ((x2 + (m - z2)) % m) fun b => fo (a * a * ri % m) fun aa => fo (b * b * ri % m) fun bb => fo ((aa + (m - bb)) % m) fun e =>
  fo ((x3 + (m - z3)) % m * a * ri % m) fun da => fo ((x3 + z3) % m * b * ri % m) fun cb => fo ((da + cb) % m) fun s => fo ((da + (m - cb)) % m) fun t =>
  fo (aa * bb * ri % m) fun p => fo (e * ((aa + y * e * ri % m) % m) * ri % m) fun q => fo (s * s * ri % m) fun r => fo (x1 * (t * t * ri % m) * ri % m) fun u => k p q r u
theorem stepK_eq (m x1 y : Nat) (q : Q4) (k : Nat → Nat → Nat → Nat → Bool) :
    stepK m (riOf m) x1 y q.x2 q.z2 q.x3 q.z3 k = k (stepQ m x1 y q).x2 (stepQ m x1 y q).z2 (stepQ m x1 y q).x3 (stepQ m x1 y q).z3 := by
  unfold stepK
  simp only [fo_eq]
  rfl
def runK (m ri x1 y e : Nat) : Nat → Nat → Nat → Nat → Nat → (Nat → Nat → Nat → Nat → Bool) → Bool
  | 0, x2, z2, x3, z3, k => k x2 z2 x3 z3
  | n + 1, x2, z2, x3, z3, k => bif e / 2 ^ (n + 1) % 2 == e / 2 ^ n % 2 then stepK m ri x1 y x2 z2 x3 z3 (fun a b c d => runK m ri x1 y e n a b c d k) else stepK m ri x1 y x3 z3 x2 z2 (fun a b c d => runK m ri x1 y e n a b c d k)
theorem runK_eq (m x1 y e : Nat) (k : Nat → Nat → Nat → Nat → Bool) : ∀ n, n ≤ 255 →
    runK m (riOf m) x1 y e n (ladQ m x1 y e (255 - n)).x2 (ladQ m x1 y e (255 - n)).z2 (ladQ m x1 y e (255 - n)).x3 (ladQ m x1 y e (255 - n)).z3 k =
    k (ladQ m x1 y e 255).x2 (ladQ m x1 y e 255).z2 (ladQ m x1 y e 255).x3 (ladQ m x1 y e 255).z3
  | 0, _ => rfl
  | n + 1, h => by
    have ih := runK_eq m x1 y e k n (by omega)
    have e1 : 255 - n = (255 - (n + 1)) + 1 := by omega
    have e2 : 255 - (255 - (n + 1)) = n + 1 := by omega
    have e3 : 254 - (255 - (n + 1)) = n := by omega
    rw [e1] at ih
    simp only [runK]
    by_cases hb : e / 2 ^ (n + 1) % 2 = e / 2 ^ n % 2
    · have hq := ladQ_same (m := m) (x1 := x1) (y := y) (e := e) (j := 255 - (n + 1)) (by rw [e2, e3]; exact hb)
      rw [hq] at ih
      rw [beq_iff_eq.2 hb, cond_true, stepK_eq]
      exact ih
    · have hq := ladQ_turn (m := m) (x1 := x1) (y := y) (e := e) (j := 255 - (n + 1)) (by rw [e2, e3]; exact hb)
      rw [hq] at ih
      rw [beq_eq_false_iff_ne.2 hb, cond_false]
      have := stepK_eq m x1 y (ladQ m x1 y e (255 - (n + 1))).turn (fun a b c d => runK m (riOf m) x1 y e n a b c d k)
      exact this.trans ih
theorem lad_run {m x1 y e : Nat} {k : Nat → Nat → Nat → Nat → Bool} (h : runK m (riOf m) x1 y e 255 (B4 % m) 0 x1 (B4 % m) k = true) :
    k (ladQ m x1 y e 255).x2 (ladQ m x1 y e 255).z2 (ladQ m x1 y e 255).x3 (ladQ m x1 y e 255).z3 = true := by
  rw [← runK_eq m x1 y e k 255 (Nat.le_refl _)]
  exact h
/-- the inverse by a power of small numbers -/
theorem invL_run {z : Nat} (hz : z < md 2) : invL (md 2) z (md 2 - 2) 256 = toM (md 2) (Pr.pm (md 2) (z * riOf (md 2) % md 2) 256 (md 2 - 2)) := by
  have h2 := md_gt (w := 2) (by decide)
  have hlt := md_lt (w := 2) (by decide)
  have hri := md_ri (w := 2) (by decide)
  have hz2 : toM (md 2) (z * riOf (md 2) % md 2) = z := by
    rw [toM_mod]
    unfold toM
    rw [Nat.mul_assoc, Nat.mul_comm (riOf _), Nat.mul_mod, hri, Nat.mul_one, Nat.mod_mod, Nat.mod_eq_of_lt hz]
  have h := invL_pow hri (z * riOf (md 2) % md 2) (e := md 2 - 2) (by omega) 256 (Nat.le_refl _)
  rw [hz2, Nat.sub_self, Nat.pow_zero, Nat.div_one] at h
  rw [h, Pr.pm_eq _ _ _ _ (by unfold B4 at hlt; have : (2 : Nat) ^ 256 = 115792089237316195423570985008687907853269984665640564039457584007913129639936 := by decide
                              omega), toM_mod]
theorem ladM_run {e x1 N : Nat} (hx : x1 < md 2) (h : runK (md 2) (riOf (md 2)) x1 (toM (md 2) 121665) e 255 (B4 % md 2) 0 x1 (B4 % md 2)
    (fun x z _ _ => mo (md 2) (mo (md 2) x (toM (md 2) (Pr.pm (md 2) (z * riOf (md 2) % md 2) 256 (md 2 - 2)))) 1 == N) = true) : ladM e x1 = N := by
  have h := beq_iff_eq.1 (lad_run h)
  unfold ladM
  rw [invL_run (ladQ_ok (by decide) hx _ _ 255).2.1]
  exact h
/-- the least key and the base -/
theorem base_value : ladM 28948022309329048855892746252171976963317496166410141009864396001978282409984 (toM (md 2) 9) = 52573937849532372069814888178136277301931757964231753054399601207743438775599 := by
  refine ladM_run (toM_lt (by decide) _) ?_
  decide +kernel
end Go.Sym.X

namespace Go.Sym.N
open Go Go.Proofs.Try Go.Sym.Num
open Go.Sym.X
open Go.Sym.Num32 (minusSt minusSt_len minus_of)
set_option maxRecDepth 100000
attribute [local irreducible] Num32.lim Num32.val Num32.mlim md beB beV mont riOf mo toM invL clampV topV ladM fa fs ladQ bitn sharedV minusSt

/-- the orders of the drawn regions of halberdref9.Shared -/
def pl34 : List (Nat × List PStep) := [(8, [⟨0, []⟩, ⟨1, [0]⟩, ⟨2, []⟩, ⟨3, []⟩]), (9, [⟨0, []⟩, ⟨1, [0]⟩, ⟨2, []⟩, ⟨3, []⟩]), (10, [⟨0, []⟩, ⟨1, [0]⟩, ⟨2, [0]⟩, ⟨3, []⟩, ⟨4, []⟩, ⟨5, []⟩])]
/-- the orders of the drawn regions of halberdlaw10.awake -/
def pl37 : List (Nat × List PStep) := [(2, [⟨0, []⟩, ⟨1, []⟩, ⟨2, [0, 1]⟩, ⟨3, []⟩, ⟨4, []⟩, ⟨5, []⟩, ⟨6, [5]⟩, ⟨7, [6]⟩, ⟨8, []⟩]), (3, [⟨0, []⟩, ⟨1, []⟩, ⟨2, [0, 1]⟩, ⟨3, [0, 1]⟩, ⟨4, []⟩, ⟨5, []⟩, ⟨6, []⟩, ⟨7, [6]⟩, ⟨8, [7]⟩, ⟨9, []⟩])]

def rminusN : Spec := fun args hp K => match args, hp with
  | [.arr32 8 x, .arr32 8 y], [] => ∃ a b, (x = Num32.lim a ∧ y = Num32.lim b ∧ b ≤ a ∧ a < B4) ∧ K (.arr32 8 (Num32.lim (a - b))) []
  | _, _ => False
theorem rminusN_s : SoundC prog 68 rminusN := by
  refine weaken rminus_s fun args hp K h => ?_
  unfold rminusN at h
  split at h
  · obtain ⟨a, b, ⟨rfl, rfl, hab, ha⟩, h⟩ := h
    unfold rminusS
    refine pre_i ⟨Num32.lim_len _, Num32.lim_len _⟩ ?_
    rw [minus_of (Num32.lim_len _) (Num32.lim_len _), Num32.val_lim ha, Num32.val_lim (by omega), show (a + (B4 - b)) % B4 = a - b by
      rw [show a + (B4 - b) = a - b + B4 by omega, Nat.add_mod_right, Nat.mod_eq_of_lt (by omega)]]
    exact h
  · exact h.elim
def rlessN : Spec := fun args hp K => match args, hp with
  | [.arr32 8 x, .arr32 8 y], [] => ∃ a b, (x = Num32.lim a ∧ y = Num32.lim b ∧ a < B4 ∧ b < B4) ∧ K (.bool (decide (a < b))) []
  | _, _ => False
theorem rlessN_s : SoundC prog 66 rlessN := by
  refine weaken rless_s fun args hp K h => ?_
  unfold rlessN at h
  split at h
  · obtain ⟨a, b, ⟨rfl, rfl, ha, hb⟩, h⟩ := h
    unfold rlessS
    refine pre_i ⟨Num32.lim_len _, Num32.lim_len _⟩ ?_
    rw [Num32.val_lim ha, Num32.val_lim hb]
    exact h
  · exact h.elim
def rmodN : Spec := fun args hp K => match args, hp with
  | [.int w], [] => Pre (w = 2) (K (.arr32 8 (Num32.lim (md 2))) [])
  | _, _ => False
theorem mlimX : Num32.mlim 2 = Num32.lim (md 2) := Num32.lim_of (Num32.mlim_len 2) (Num32.mlim_val (by decide))
theorem rmodN_s : SoundC prog 67 rmodN := by
  refine weaken rmod_s fun args hp K h => ?_
  unfold rmodN at h
  split at h
  · obtain ⟨e, h'⟩ := pre_e h
    subst e
    clear h
    have h := h'
    unfold rmodS
    show K (.arr32 8 (Num32.mlim 2)) []
    rw [mlimX]
    exact h
  · exact h.elim
theorem beB_none {V : Nat} (h : V < B4) : beB 32 V = List.replicate 32 0 ↔ V = 0 := by
  have e : beB 32 0 = List.replicate 32 0 := by decide +kernel
  constructor
  · intro he; rw [← e] at he
    exact beB_inj h (by unfold B4; decide) he
  · rintro rfl; exact e
theorem rShared_s : SoundC prog 34 SharedS := by
  refine sound_f tys_ok (fnok_cons get_s (fnok_cons rturned_s (fnok_cons rlessN_s (fnok_cons rmodN_s (fnok_cons rminusN_s (fnok_cons put_s (fnok_cons rladder_s (fnok_cons rintoN_s fnok_nil)))))))) rfl func34 rfl call34 (D := pl34) ?_ ?_
  · intro args hp K h
    unfold SharedS at h
    split at h
    · exact Nat.le_of_ble_eq_true rfl
    · exact h.elim
  · intro args hp K h
    unfold SharedS at h
    split at h
    · rename_i k u
      obtain ⟨ht, hn⟩ := cond_e h
      by_cases hk : k.length = 32
      · by_cases hu : u.length = 32
        · have ht := ht (by rw [decide_eq_true_eq]; exact ⟨hk, hu⟩)
          have hkr : k.reverse.length = 32 := by rw [List.length_reverse, hk]
          have hur : u.reverse.length = 32 := by rw [List.length_reverse, hu]
          have hub : beV u.reverse < B4 := beV_lt 32 _ hur
          have hkb : beV k.reverse < B4 := beV_lt 32 _ hkr
          have hll := Num32.lim_len (beV u.reverse)
          have hlk := Num32.lim_len (beV k.reverse)
          have hlk2 : ((Num32.lim (beV k.reverse)).set 0 ((Num32.lim (beV k.reverse)).getD 0 0 &&& ~~~ (UInt32.ofNat 7))).length = 8 := by rw [List.length_set]; exact hlk
          have htl := topV_lt (beV u.reverse)
          have hmd : md 2 = mX := by unfold md; rfl
          have hmB := md2_lt
          have hmp := md2_pos
          have htB : topV (beV u.reverse) < B4 := by unfold B4; unfold mX at htl; omega
          repeat ((conv => whnf); first | (refine pre_i ?hc ?_; case hc => first | exact (show planOK _ _ _ = true from by kernel_rfl) | assumption | omega | (unfold fits; omega) | decide +kernel | (constructor <;> first | assumption | omega) | (simp only [off_addO, tysz, off, offE] <;> omega) | (simp only [lens, off_addO, off, offE] <;> omega) | (simp only [off_addO, tysz, lens, off, offE] <;> omega) | (constructor <;> first | assumption | (simp only [off_addO, tysz, lens, off, offE] <;> omega))) | (refine cond_t ?hc ?_; case hc => first | rfl | assumption | (rw [decide_eq_true_eq]; omega) | (rw [decide_eq_false_iff_not]; omega) | (simp <;> omega)) | (refine cond_f ?hc ?_; case hc => first | rfl | assumption | (rw [decide_eq_true_eq]; omega) | (rw [decide_eq_false_iff_not]; omega) | (simp <;> omega)) | refine same_i ?_)
          conv => whnf
          have eX : (Num32.lim (beV u.reverse)).set (off (addO [] (Int.toNat 7) ty70.sz)) ((Num32.lim (beV u.reverse)).getD (off (addO [] (Int.toNat 7) ty70.sz)) 0 &&& UInt32.ofNat 2147483647) = Num32.lim (topV (beV u.reverse)) := top32 hub
          have eE : ((Num32.lim (beV k.reverse)).set (off (addO [] (Int.toNat 0) ty70.sz)) ((Num32.lim (beV k.reverse)).getD (off (addO [] (Int.toNat 0) ty70.sz)) 0 &&& ~~~ (UInt32.ofNat 7))).set (off (addO [] (Int.toNat 7) ty70.sz)) (((Num32.lim (beV k.reverse)).set (off (addO [] (Int.toNat 0) ty70.sz)) ((Num32.lim (beV k.reverse)).getD (off (addO [] (Int.toNat 0) ty70.sz)) 0 &&& ~~~ (UInt32.ofNat 7))).getD (off (addO [] (Int.toNat 7) ty70.sz)) 0 &&& UInt32.ofNat 2147483647 ||| UInt32.ofNat 1073741824) = Num32.lim (clampV (beV k.reverse)) := clamp32 hkb
          have hC := clampV_lt (beV k.reverse)
          have hC2 : clampV (beV k.reverse) % 2 = 0 := by have := clampV_even (beV k.reverse); omega
          rw [eX, eE]
          have hsV : ∀ a, a = topV (beV u.reverse) % md 2 → ladM (clampV (beV k.reverse)) (toM (md 2) a) = sharedV k u := fun a ha => by rw [ha]; unfold sharedV; rfl
          have hV : sharedV k u < md 2 := by unfold sharedV; exact ladM_lt _ _
          obtain ⟨h0, h1⟩ := cond_e ht
          clear ht hn eX eE
          generalize topV (beV u.reverse) = T at *
          generalize clampV (beV k.reverse) = C at *
          generalize sharedV k u = V at *
          have vV : Num32.val (Num32.lim V) = V := Num32.val_lim (by omega)
          have lV := Num32.lim_len V
          have hz := beB_none (V := V) (by omega)
          have lB : (beB 32 V).length ≤ 140737488355328 := by rw [beB_len]; decide
          refine ⟨T, md 2, ⟨rfl, rfl, htB, hmB⟩, ?_⟩
          by_cases hTm : T < md 2
          · have hd0 : (!decide (T < md 2)) = false := by rw [decide_eq_true hTm]; rfl
            have hdt : decide (T < md 2) = true := decide_eq_true hTm
            repeat ((conv => whnf); first | (refine pre_i ?hc ?_; case hc => first | exact (show planOK _ _ _ = true from by kernel_rfl) | assumption | omega | (unfold fits; omega) | decide +kernel | (constructor <;> first | assumption | omega) | (simp only [off_addO, tysz, off, offE] <;> omega) | (simp only [lens, off_addO, off, offE] <;> omega) | (simp only [off_addO, tysz, lens, off, offE] <;> omega) | (constructor <;> first | assumption | (simp only [off_addO, tysz, lens, off, offE] <;> omega))) | (refine cond_t ?hc ?_; case hc => first | rfl | assumption | (rw [decide_eq_true_eq]; omega) | (rw [decide_eq_false_iff_not]; omega) | (simp <;> omega) | exact hd0 | (rw [hd0]; rfl) | exact hdt | (rw [hdt]; rfl)) | (refine cond_f ?hc ?_; case hc => first | rfl | assumption | (rw [decide_eq_true_eq]; omega) | (rw [decide_eq_false_iff_not]; omega) | (simp <;> omega) | exact hd0 | (rw [hd0]; rfl) | exact hdt | (rw [hdt]; rfl)) | refine same_i ?_)
            conv => whnf
            refine ⟨_, ⟨rfl, rfl, hTm⟩, ?_⟩
            repeat ((conv => whnf); first | (refine pre_i ?hc ?_; case hc => first | exact (show planOK _ _ _ = true from by kernel_rfl) | assumption | omega | (unfold fits; omega) | decide +kernel | (constructor <;> first | assumption | omega) | (simp only [off_addO, tysz, off, offE] <;> omega) | (simp only [lens, off_addO, off, offE] <;> omega) | (simp only [off_addO, tysz, lens, off, offE] <;> omega) | (constructor <;> first | assumption | (simp only [off_addO, tysz, lens, off, offE] <;> omega))) | (refine cond_t ?hc ?_; case hc => first | rfl | assumption | (rw [decide_eq_true_eq]; omega) | (rw [decide_eq_false_iff_not]; omega) | (simp <;> omega)) | (refine cond_f ?hc ?_; case hc => first | rfl | assumption | (rw [decide_eq_true_eq]; omega) | (rw [decide_eq_false_iff_not]; omega) | (simp <;> omega)) | refine same_i ?_)
            conv => whnf
            refine ⟨_, _, ⟨rfl, rfl, hC, hC2, toM2_lt _⟩, ?_⟩
            rw [hsV T (by rw [Nat.mod_eq_of_lt hTm])]
            by_cases hz0 : V = 0
            · have h0 := h0 (decide_eq_true hz0)
              have hd : decide (beB 32 (Num32.val (Num32.lim V)) = List.replicate 32 0) = true := decide_eq_true (by rw [vV]; exact hz.2 hz0)
              repeat ((conv => whnf); first | (refine pre_i ?hc ?_; case hc => first | exact (show planOK _ _ _ = true from by kernel_rfl) | assumption | omega | (unfold fits; omega) | decide +kernel | (constructor <;> first | assumption | omega) | (simp only [off_addO, tysz, off, offE] <;> omega) | (simp only [lens, off_addO, off, offE] <;> omega) | (simp only [off_addO, tysz, lens, off, offE] <;> omega) | (constructor <;> first | assumption | (simp only [off_addO, tysz, lens, off, offE] <;> omega))) | (refine cond_t ?hc ?_; case hc => first | rfl | assumption | (rw [decide_eq_true_eq]; omega) | (rw [decide_eq_false_iff_not]; omega) | (simp <;> omega) | exact hd | (rw [hd]; rfl)) | (refine cond_f ?hc ?_; case hc => first | rfl | assumption | (rw [decide_eq_true_eq]; omega) | (rw [decide_eq_false_iff_not]; omega) | (simp <;> omega) | exact hd | (rw [hd]; rfl)) | refine same_i ?_)
              conv => whnf
              refine final_h (hp' := []) [] h0 ?_
              repeat ((conv => whnf); first | (refine pre_i ?hc ?_; case hc => first | exact (show planOK _ _ _ = true from by kernel_rfl) | assumption | omega | (unfold fits; omega) | decide +kernel | (constructor <;> first | assumption | omega) | (simp only [off_addO, tysz, off, offE] <;> omega) | (simp only [lens, off_addO, off, offE] <;> omega) | (simp only [off_addO, tysz, lens, off, offE] <;> omega) | (constructor <;> first | assumption | (simp only [off_addO, tysz, lens, off, offE] <;> omega))) | (refine cond_t ?hc ?_; case hc => first | rfl | assumption | (rw [decide_eq_true_eq]; omega) | (rw [decide_eq_false_iff_not]; omega) | (simp <;> omega)) | (refine cond_f ?hc ?_; case hc => first | rfl | assumption | (rw [decide_eq_true_eq]; omega) | (rw [decide_eq_false_iff_not]; omega) | (simp <;> omega)) | refine same_i ?_)
              exact trivial
            · have h1 := h1 (decide_eq_false hz0)
              have hd : decide (beB 32 (Num32.val (Num32.lim V)) = List.replicate 32 0) = false := decide_eq_false (by rw [vV]; exact fun hh => hz0 (hz.1 hh))
              have lB2 : (beB 32 (Num32.val (Num32.lim V))).length ≤ 140737488355328 := by rw [vV]; exact lB
              repeat ((conv => whnf); first | (refine pre_i ?hc ?_; case hc => first | exact (show planOK _ _ _ = true from by kernel_rfl) | assumption | omega | (unfold fits; omega) | decide +kernel | (constructor <;> first | assumption | omega) | (simp only [off_addO, tysz, off, offE] <;> omega) | (simp only [lens, off_addO, off, offE] <;> omega) | (simp only [off_addO, tysz, lens, off, offE] <;> omega) | (constructor <;> first | assumption | (simp only [off_addO, tysz, lens, off, offE] <;> omega))) | (refine cond_t ?hc ?_; case hc => first | rfl | assumption | (rw [decide_eq_true_eq]; omega) | (rw [decide_eq_false_iff_not]; omega) | (simp <;> omega) | exact hd | (rw [hd]; rfl)) | (refine cond_f ?hc ?_; case hc => first | rfl | assumption | (rw [decide_eq_true_eq]; omega) | (rw [decide_eq_false_iff_not]; omega) | (simp <;> omega) | exact hd | (rw [hd]; rfl)) | refine same_i ?_)
              conv => whnf
              rw [vV]
              refine final_h (hp' := []) [] h1 ?_
              repeat ((conv => whnf); first | (refine pre_i ?hc ?_; case hc => first | exact (show planOK _ _ _ = true from by kernel_rfl) | assumption | omega | (unfold fits; omega) | decide +kernel | (constructor <;> first | assumption | omega) | (simp only [off_addO, tysz, off, offE] <;> omega) | (simp only [lens, off_addO, off, offE] <;> omega) | (simp only [off_addO, tysz, lens, off, offE] <;> omega) | (constructor <;> first | assumption | (simp only [off_addO, tysz, lens, off, offE] <;> omega))) | (refine cond_t ?hc ?_; case hc => first | rfl | assumption | (rw [decide_eq_true_eq]; omega) | (rw [decide_eq_false_iff_not]; omega) | (simp <;> omega)) | (refine cond_f ?hc ?_; case hc => first | rfl | assumption | (rw [decide_eq_true_eq]; omega) | (rw [decide_eq_false_iff_not]; omega) | (simp <;> omega)) | refine same_i ?_)
              exact trivial
          · have hdt : decide (T < md 2) = false := decide_eq_false hTm
            repeat ((conv => whnf); first | (refine pre_i ?hc ?_; case hc => first | exact (show planOK _ _ _ = true from by kernel_rfl) | assumption | omega | (unfold fits; omega) | decide +kernel | (constructor <;> first | assumption | omega) | (simp only [off_addO, tysz, off, offE] <;> omega) | (simp only [lens, off_addO, off, offE] <;> omega) | (simp only [off_addO, tysz, lens, off, offE] <;> omega) | (constructor <;> first | assumption | (simp only [off_addO, tysz, lens, off, offE] <;> omega))) | (refine cond_t ?hc ?_; case hc => first | rfl | assumption | (rw [decide_eq_true_eq]; omega) | (rw [decide_eq_false_iff_not]; omega) | (simp <;> omega) | exact hdt | (rw [hdt]; rfl)) | (refine cond_f ?hc ?_; case hc => first | rfl | assumption | (rw [decide_eq_true_eq]; omega) | (rw [decide_eq_false_iff_not]; omega) | (simp <;> omega) | exact hdt | (rw [hdt]; rfl)) | refine same_i ?_)
            conv => whnf
            refine ⟨_, _, ⟨rfl, rfl, by omega, htB⟩, ?_⟩
            repeat ((conv => whnf); first | (refine pre_i ?hc ?_; case hc => first | exact (show planOK _ _ _ = true from by kernel_rfl) | assumption | omega | (unfold fits; omega) | decide +kernel | (constructor <;> first | assumption | omega) | (simp only [off_addO, tysz, off, offE] <;> omega) | (simp only [lens, off_addO, off, offE] <;> omega) | (simp only [off_addO, tysz, lens, off, offE] <;> omega) | (constructor <;> first | assumption | (simp only [off_addO, tysz, lens, off, offE] <;> omega))) | (refine cond_t ?hc ?_; case hc => first | rfl | assumption | (rw [decide_eq_true_eq]; omega) | (rw [decide_eq_false_iff_not]; omega) | (simp <;> omega)) | (refine cond_f ?hc ?_; case hc => first | rfl | assumption | (rw [decide_eq_true_eq]; omega) | (rw [decide_eq_false_iff_not]; omega) | (simp <;> omega)) | refine same_i ?_)
            conv => whnf
            refine ⟨_, ⟨rfl, rfl, by omega⟩, ?_⟩
            repeat ((conv => whnf); first | (refine pre_i ?hc ?_; case hc => first | exact (show planOK _ _ _ = true from by kernel_rfl) | assumption | omega | (unfold fits; omega) | decide +kernel | (constructor <;> first | assumption | omega) | (simp only [off_addO, tysz, off, offE] <;> omega) | (simp only [lens, off_addO, off, offE] <;> omega) | (simp only [off_addO, tysz, lens, off, offE] <;> omega) | (constructor <;> first | assumption | (simp only [off_addO, tysz, lens, off, offE] <;> omega))) | (refine cond_t ?hc ?_; case hc => first | rfl | assumption | (rw [decide_eq_true_eq]; omega) | (rw [decide_eq_false_iff_not]; omega) | (simp <;> omega)) | (refine cond_f ?hc ?_; case hc => first | rfl | assumption | (rw [decide_eq_true_eq]; omega) | (rw [decide_eq_false_iff_not]; omega) | (simp <;> omega)) | refine same_i ?_)
            conv => whnf
            refine ⟨_, _, ⟨rfl, rfl, hC, hC2, toM2_lt _⟩, ?_⟩
            rw [hsV (T - md 2) (by rw [Nat.mod_eq_sub_mod (by omega), Nat.mod_eq_of_lt (by omega)])]
            by_cases hz0 : V = 0
            · have h0 := h0 (decide_eq_true hz0)
              have hd : decide (beB 32 (Num32.val (Num32.lim V)) = List.replicate 32 0) = true := decide_eq_true (by rw [vV]; exact hz.2 hz0)
              repeat ((conv => whnf); first | (refine pre_i ?hc ?_; case hc => first | exact (show planOK _ _ _ = true from by kernel_rfl) | assumption | omega | (unfold fits; omega) | decide +kernel | (constructor <;> first | assumption | omega) | (simp only [off_addO, tysz, off, offE] <;> omega) | (simp only [lens, off_addO, off, offE] <;> omega) | (simp only [off_addO, tysz, lens, off, offE] <;> omega) | (constructor <;> first | assumption | (simp only [off_addO, tysz, lens, off, offE] <;> omega))) | (refine cond_t ?hc ?_; case hc => first | rfl | assumption | (rw [decide_eq_true_eq]; omega) | (rw [decide_eq_false_iff_not]; omega) | (simp <;> omega) | exact hd | (rw [hd]; rfl)) | (refine cond_f ?hc ?_; case hc => first | rfl | assumption | (rw [decide_eq_true_eq]; omega) | (rw [decide_eq_false_iff_not]; omega) | (simp <;> omega) | exact hd | (rw [hd]; rfl)) | refine same_i ?_)
              conv => whnf
              refine final_h (hp' := []) [] h0 ?_
              repeat ((conv => whnf); first | (refine pre_i ?hc ?_; case hc => first | exact (show planOK _ _ _ = true from by kernel_rfl) | assumption | omega | (unfold fits; omega) | decide +kernel | (constructor <;> first | assumption | omega) | (simp only [off_addO, tysz, off, offE] <;> omega) | (simp only [lens, off_addO, off, offE] <;> omega) | (simp only [off_addO, tysz, lens, off, offE] <;> omega) | (constructor <;> first | assumption | (simp only [off_addO, tysz, lens, off, offE] <;> omega))) | (refine cond_t ?hc ?_; case hc => first | rfl | assumption | (rw [decide_eq_true_eq]; omega) | (rw [decide_eq_false_iff_not]; omega) | (simp <;> omega)) | (refine cond_f ?hc ?_; case hc => first | rfl | assumption | (rw [decide_eq_true_eq]; omega) | (rw [decide_eq_false_iff_not]; omega) | (simp <;> omega)) | refine same_i ?_)
              exact trivial
            · have h1 := h1 (decide_eq_false hz0)
              have hd : decide (beB 32 (Num32.val (Num32.lim V)) = List.replicate 32 0) = false := decide_eq_false (by rw [vV]; exact fun hh => hz0 (hz.1 hh))
              have lB2 : (beB 32 (Num32.val (Num32.lim V))).length ≤ 140737488355328 := by rw [vV]; exact lB
              repeat ((conv => whnf); first | (refine pre_i ?hc ?_; case hc => first | exact (show planOK _ _ _ = true from by kernel_rfl) | assumption | omega | (unfold fits; omega) | decide +kernel | (constructor <;> first | assumption | omega) | (simp only [off_addO, tysz, off, offE] <;> omega) | (simp only [lens, off_addO, off, offE] <;> omega) | (simp only [off_addO, tysz, lens, off, offE] <;> omega) | (constructor <;> first | assumption | (simp only [off_addO, tysz, lens, off, offE] <;> omega))) | (refine cond_t ?hc ?_; case hc => first | rfl | assumption | (rw [decide_eq_true_eq]; omega) | (rw [decide_eq_false_iff_not]; omega) | (simp <;> omega) | exact hd | (rw [hd]; rfl)) | (refine cond_f ?hc ?_; case hc => first | rfl | assumption | (rw [decide_eq_true_eq]; omega) | (rw [decide_eq_false_iff_not]; omega) | (simp <;> omega) | exact hd | (rw [hd]; rfl)) | refine same_i ?_)
              conv => whnf
              rw [vV]
              refine final_h (hp' := []) [] h1 ?_
              repeat ((conv => whnf); first | (refine pre_i ?hc ?_; case hc => first | exact (show planOK _ _ _ = true from by kernel_rfl) | assumption | omega | (unfold fits; omega) | decide +kernel | (constructor <;> first | assumption | omega) | (simp only [off_addO, tysz, off, offE] <;> omega) | (simp only [lens, off_addO, off, offE] <;> omega) | (simp only [off_addO, tysz, lens, off, offE] <;> omega) | (constructor <;> first | assumption | (simp only [off_addO, tysz, lens, off, offE] <;> omega))) | (refine cond_t ?hc ?_; case hc => first | rfl | assumption | (rw [decide_eq_true_eq]; omega) | (rw [decide_eq_false_iff_not]; omega) | (simp <;> omega)) | (refine cond_f ?hc ?_; case hc => first | rfl | assumption | (rw [decide_eq_true_eq]; omega) | (rw [decide_eq_false_iff_not]; omega) | (simp <;> omega)) | refine same_i ?_)
              exact trivial
        · have hn := hn (by rw [decide_eq_false_iff_not]; exact fun hh => hu hh.2)
          repeat ((conv => whnf); first | (refine pre_i ?hc ?_; case hc => first | exact (show planOK _ _ _ = true from by kernel_rfl) | assumption | omega | (unfold fits; omega) | decide +kernel | (constructor <;> first | assumption | omega) | (simp only [off_addO, tysz, off, offE] <;> omega) | (simp only [lens, off_addO, off, offE] <;> omega) | (simp only [off_addO, tysz, lens, off, offE] <;> omega) | (constructor <;> first | assumption | (simp only [off_addO, tysz, lens, off, offE] <;> omega))) | (refine cond_t ?hc ?_; case hc => first | rfl | assumption | (rw [decide_eq_true_eq]; omega) | (rw [decide_eq_false_iff_not]; omega) | (simp <;> omega)) | (refine cond_f ?hc ?_; case hc => first | rfl | assumption | (rw [decide_eq_true_eq]; omega) | (rw [decide_eq_false_iff_not]; omega) | (simp <;> omega)) | refine same_i ?_)
          conv => whnf
          refine final_h (hp' := []) [] hn ?_
          repeat ((conv => whnf); first | (refine pre_i ?hc ?_; case hc => first | exact (show planOK _ _ _ = true from by kernel_rfl) | assumption | omega | (unfold fits; omega) | decide +kernel | (constructor <;> first | assumption | omega) | (simp only [off_addO, tysz, off, offE] <;> omega) | (simp only [lens, off_addO, off, offE] <;> omega) | (simp only [off_addO, tysz, lens, off, offE] <;> omega) | (constructor <;> first | assumption | (simp only [off_addO, tysz, lens, off, offE] <;> omega))) | (refine cond_t ?hc ?_; case hc => first | rfl | assumption | (rw [decide_eq_true_eq]; omega) | (rw [decide_eq_false_iff_not]; omega) | (simp <;> omega)) | (refine cond_f ?hc ?_; case hc => first | rfl | assumption | (rw [decide_eq_true_eq]; omega) | (rw [decide_eq_false_iff_not]; omega) | (simp <;> omega)) | refine same_i ?_)
          exact trivial
      · have hn := hn (by rw [decide_eq_false_iff_not]; exact fun hh => hk hh.1)
        repeat ((conv => whnf); first | (refine pre_i ?hc ?_; case hc => first | exact (show planOK _ _ _ = true from by kernel_rfl) | assumption | omega | (unfold fits; omega) | decide +kernel | (constructor <;> first | assumption | omega) | (simp only [off_addO, tysz, off, offE] <;> omega) | (simp only [lens, off_addO, off, offE] <;> omega) | (simp only [off_addO, tysz, lens, off, offE] <;> omega) | (constructor <;> first | assumption | (simp only [off_addO, tysz, lens, off, offE] <;> omega))) | (refine cond_t ?hc ?_; case hc => first | rfl | assumption | (rw [decide_eq_true_eq]; omega) | (rw [decide_eq_false_iff_not]; omega) | (simp <;> omega)) | (refine cond_f ?hc ?_; case hc => first | rfl | assumption | (rw [decide_eq_true_eq]; omega) | (rw [decide_eq_false_iff_not]; omega) | (simp <;> omega)) | refine same_i ?_)
        conv => whnf
        refine final_h (hp' := []) [] hn ?_
        repeat ((conv => whnf); first | (refine pre_i ?hc ?_; case hc => first | exact (show planOK _ _ _ = true from by kernel_rfl) | assumption | omega | (unfold fits; omega) | decide +kernel | (constructor <;> first | assumption | omega) | (simp only [off_addO, tysz, off, offE] <;> omega) | (simp only [lens, off_addO, off, offE] <;> omega) | (simp only [off_addO, tysz, lens, off, offE] <;> omega) | (constructor <;> first | assumption | (simp only [off_addO, tysz, lens, off, offE] <;> omega))) | (refine cond_t ?hc ?_; case hc => first | rfl | assumption | (rw [decide_eq_true_eq]; omega) | (rw [decide_eq_false_iff_not]; omega) | (simp <;> omega)) | (refine cond_f ?hc ?_; case hc => first | rfl | assumption | (rw [decide_eq_true_eq]; omega) | (rw [decide_eq_false_iff_not]; omega) | (simp <;> omega)) | refine same_i ?_)
        exact trivial
    · exact h.elim
def v0 : Nat := 52573937849532372069814888178136277301931757964231753054399601207743438775599
def v0B : List UInt8 := [47, 229, 125, 163, 71, 205, 98, 67, 21, 40, 218, 172, 95, 187, 41, 7, 48, 255, 246, 132, 175, 196, 207, 194, 237, 144, 153, 95, 88, 203, 59, 116]
theorem v0_B : (beB 32 v0).reverse = v0B := by decide +kernel
theorem shared9 : sharedV (List.replicate 32 0) nineB = v0 := by
  unfold sharedV
  have e1 : clampV (beV (List.replicate 32 0).reverse) = 28948022309329048855892746252171976963317496166410141009864396001978282409984 := by decide +kernel
  have e2 : topV (beV nineB.reverse) % md 2 = 9 := by decide +kernel
  rw [e1, e2, base_value]; rfl
theorem shared0 : sharedV (List.replicate 32 0) (List.replicate 32 0) = 0 := by
  unfold sharedV
  have e2 : topV (beV (List.replicate 32 0).reverse) % md 2 = 0 := by decide +kernel
  rw [e2, small0]
def awakeXS : Spec := fun args hp K => match args, hp with
  | [], [] => K (.bool true) []
  | _, _ => False
theorem awakeX_s : SoundC prog 37 awakeXS := by
  refine sound_f tys_ok (fnok_cons Public_s (fnok_cons Shared_s (fnok_cons nine_s (fnok_cons num_s fnok_nil)))) rfl func37 rfl call37 (D := pl37) ?_ ?_
  · intro args hp K h
    unfold awakeXS at h
    split at h
    · exact Nat.le_of_ble_eq_true rfl
    · exact h.elim
  · intro args hp K h
    unfold awakeXS at h
    split at h
    · have hd1 : decide (sharedV (List.replicate 32 0) nineB = 0) = false := by rw [shared9]; decide +kernel
      have hd2 : decide (sharedV (List.replicate 32 0) (List.replicate 32 0) = 0) = true := by rw [shared0]; rfl
      have hd3 : decide ((List.replicate 32 (0 : UInt8)).length = 32 ∧ (List.replicate 32 (0 : UInt8)).length = 32) = true := rfl
      have hd4 : decide ((List.replicate 32 (0 : UInt8)).length = 32 ∧ nineB.length = 32) = true := rfl
      have er : List.take (Int.toNat 32) (List.drop (off []) (List.replicate (Int.toNat 32) (0 : UInt8))) = List.replicate 32 0 := rfl
      repeat ((conv => whnf); first | (refine pre_i ?hc ?_; case hc => first | exact (show planOK _ _ _ = true from by kernel_rfl) | assumption | omega | (unfold fits; omega) | decide +kernel | (constructor <;> first | assumption | omega) | (simp only [off_addO, tysz, off, offE] <;> omega) | (simp only [lens, off_addO, off, offE] <;> omega) | (simp only [off_addO, tysz, lens, off, offE] <;> omega) | (constructor <;> first | assumption | (simp only [off_addO, tysz, lens, off, offE] <;> omega))) | (refine cond_t ?hc ?_; case hc => first | rfl | assumption | (rw [decide_eq_true_eq]; omega) | (rw [decide_eq_false_iff_not]; omega) | (simp <;> omega)) | (refine cond_f ?hc ?_; case hc => first | rfl | assumption | (rw [decide_eq_true_eq]; omega) | (rw [decide_eq_false_iff_not]; omega) | (simp <;> omega)) | refine same_i ?_)
      conv => whnf
      rw [er]
      rw [shared9, v0_B]
      repeat ((conv => whnf); first | (refine pre_i ?hc ?_; case hc => first | exact (show planOK _ _ _ = true from by kernel_rfl) | assumption | omega | (unfold fits; omega) | decide +kernel | (constructor <;> first | assumption | omega) | (simp only [off_addO, tysz, off, offE] <;> omega) | (simp only [lens, off_addO, off, offE] <;> omega) | (simp only [off_addO, tysz, lens, off, offE] <;> omega) | (constructor <;> first | assumption | (simp only [off_addO, tysz, lens, off, offE] <;> omega))) | (refine cond_t ?hc ?_; case hc => first | rfl | assumption | (rw [decide_eq_true_eq]; omega) | (rw [decide_eq_false_iff_not]; omega) | (simp <;> omega) | (decide +kernel)) | (refine cond_f ?hc ?_; case hc => first | rfl | assumption | (rw [decide_eq_true_eq]; omega) | (rw [decide_eq_false_iff_not]; omega) | (simp <;> omega) | (decide +kernel)) | refine same_i ?_)
      conv => whnf
      refine final_h (hp' := []) [] h ?_
      repeat ((conv => whnf); first | (refine pre_i ?hc ?_; case hc => first | exact (show planOK _ _ _ = true from by kernel_rfl) | assumption | omega | (unfold fits; omega) | decide +kernel | (constructor <;> first | assumption | omega) | (simp only [off_addO, tysz, off, offE] <;> omega) | (simp only [lens, off_addO, off, offE] <;> omega) | (simp only [off_addO, tysz, lens, off, offE] <;> omega) | (constructor <;> first | assumption | (simp only [off_addO, tysz, lens, off, offE] <;> omega))) | (refine cond_t ?hc ?_; case hc => first | rfl | assumption | (rw [decide_eq_true_eq]; omega) | (rw [decide_eq_false_iff_not]; omega) | (simp <;> omega)) | (refine cond_f ?hc ?_; case hc => first | rfl | assumption | (rw [decide_eq_true_eq]; omega) | (rw [decide_eq_false_iff_not]; omega) | (simp <;> omega)) | refine same_i ?_)
      exact trivial
    · exact h.elim
end Go.Sym.N

namespace Go.Sym.N
open Go Go.Proofs.Try Go.Sym.Num
open Go.Sym.X
set_option maxRecDepth 100000
attribute [local irreducible] md beB beV mo toM clampV topV ladM sharedV nineB

/-- the orders of the drawn regions of halberdlaw10.Xcurves -/
def pl10 : List (Nat × List PStep) := []

def lawG (nt : Nat) (ty : List (Nat × TyI)) (fs : List (Nat × Spec)) (w : World) (rs : List Row) : Ctx := { nt := nt, ty := ty, fn := fs, E := fun w' => Ext (fun _ => False) w w', ext := rowsExt rs }
def lawFnX : List (Nat × Spec) := [(33, SharedS), (34, SharedS), (35, PublicS), (36, nineS), (37, awakeXS), (15, numS)]
theorem lawFnX_ok : ∀ f S, look lawFnX f = some S → SoundC prog f S := fnok_cons Shared_s (fnok_cons rShared_s (fnok_cons Public_s (fnok_cons nine_s (fnok_cons awakeX_s (fnok_cons num_s fnok_nil)))))
theorem nineB_len : nineB.length = 32 := by unfold nineB; rfl
theorem xcurves_vc (w : World) (x y : List UInt8) :
    fnVC (lawG f10.ntmps tys lawFnX w []) pl10 (codeOf f10) f10.results.toList [.str x, .str y] [] (fun r _ => r = .bool true) := by
  have ln := nineB_len
  by_cases hx : x.length = 32
  · have d1 : decide (x.length = 32) = true := decide_eq_true hx
    have d3 : decide (x.length = 32 ∧ nineB.length = 32) = true := decide_eq_true ⟨hx, ln⟩
    by_cases hy : y.length = 32
    · have d2 : decide (x.length = 32 ∧ y.length = 32) = true := decide_eq_true ⟨hx, hy⟩
      generalize e1 : decide (sharedV x y = 0) = c1
      generalize e2 : decide (sharedV x nineB = 0) = c2
      cases c1 <;> cases c2
      all_goals
        repeat ((conv => whnf); first | (refine pre_i ?hc ?_; case hc => first | exact (show planOK _ _ _ = true from by kernel_rfl) | assumption | omega | (unfold fits; omega) | decide +kernel | (constructor <;> first | assumption | omega) | (simp only [off_addO, tysz, off, offE] <;> omega) | (simp only [lens, off_addO, off, offE] <;> omega) | (simp only [off_addO, tysz, lens, off, offE] <;> omega) | (constructor <;> first | assumption | (simp only [off_addO, tysz, lens, off, offE] <;> omega))) | (refine cond_t ?hc ?_; case hc => first | rfl | assumption | (rw [decide_eq_true_eq]; omega) | (rw [decide_eq_false_iff_not]; omega) | (simp <;> omega) | exact d1 | exact d2 | exact d3 | exact e1 | exact e2) | (refine cond_f ?hc ?_; case hc => first | rfl | assumption | (rw [decide_eq_true_eq]; omega) | (rw [decide_eq_false_iff_not]; omega) | (simp <;> omega) | exact d1 | exact d2 | exact d3 | exact e1 | exact e2) | refine same_i ?_)
        conv => whnf
        refine final_h (hp' := []) [] rfl ?_
        repeat ((conv => whnf); first | (refine pre_i ?hc ?_; case hc => first | exact (show planOK _ _ _ = true from by kernel_rfl) | assumption | omega | (unfold fits; omega) | decide +kernel | (constructor <;> first | assumption | omega) | (simp only [off_addO, tysz, off, offE] <;> omega) | (simp only [lens, off_addO, off, offE] <;> omega) | (simp only [off_addO, tysz, lens, off, offE] <;> omega) | (constructor <;> first | assumption | (simp only [off_addO, tysz, lens, off, offE] <;> omega))) | (refine cond_t ?hc ?_; case hc => first | rfl | assumption | (rw [decide_eq_true_eq]; omega) | (rw [decide_eq_false_iff_not]; omega) | (simp <;> omega)) | (refine cond_f ?hc ?_; case hc => first | rfl | assumption | (rw [decide_eq_true_eq]; omega) | (rw [decide_eq_false_iff_not]; omega) | (simp <;> omega)) | refine same_i ?_)
        exact trivial
    · have d2 : decide (x.length = 32 ∧ y.length = 32) = false := decide_eq_false (fun h => hy h.2)
      generalize e2 : decide (sharedV x nineB = 0) = c2
      cases c2
      all_goals
        repeat ((conv => whnf); first | (refine pre_i ?hc ?_; case hc => first | exact (show planOK _ _ _ = true from by kernel_rfl) | assumption | omega | (unfold fits; omega) | decide +kernel | (constructor <;> first | assumption | omega) | (simp only [off_addO, tysz, off, offE] <;> omega) | (simp only [lens, off_addO, off, offE] <;> omega) | (simp only [off_addO, tysz, lens, off, offE] <;> omega) | (constructor <;> first | assumption | (simp only [off_addO, tysz, lens, off, offE] <;> omega))) | (refine cond_t ?hc ?_; case hc => first | rfl | assumption | (rw [decide_eq_true_eq]; omega) | (rw [decide_eq_false_iff_not]; omega) | (simp <;> omega) | exact d1 | exact d2 | exact d3 | exact e2) | (refine cond_f ?hc ?_; case hc => first | rfl | assumption | (rw [decide_eq_true_eq]; omega) | (rw [decide_eq_false_iff_not]; omega) | (simp <;> omega) | exact d1 | exact d2 | exact d3 | exact e2) | refine same_i ?_)
        conv => whnf
        refine final_h (hp' := []) [] rfl ?_
        repeat ((conv => whnf); first | (refine pre_i ?hc ?_; case hc => first | exact (show planOK _ _ _ = true from by kernel_rfl) | assumption | omega | (unfold fits; omega) | decide +kernel | (constructor <;> first | assumption | omega) | (simp only [off_addO, tysz, off, offE] <;> omega) | (simp only [lens, off_addO, off, offE] <;> omega) | (simp only [off_addO, tysz, lens, off, offE] <;> omega) | (constructor <;> first | assumption | (simp only [off_addO, tysz, lens, off, offE] <;> omega))) | (refine cond_t ?hc ?_; case hc => first | rfl | assumption | (rw [decide_eq_true_eq]; omega) | (rw [decide_eq_false_iff_not]; omega) | (simp <;> omega)) | (refine cond_f ?hc ?_; case hc => first | rfl | assumption | (rw [decide_eq_true_eq]; omega) | (rw [decide_eq_false_iff_not]; omega) | (simp <;> omega)) | refine same_i ?_)
        exact trivial
  · have d1 : decide (x.length = 32) = false := decide_eq_false hx
    have d2 : decide (x.length = 32 ∧ y.length = 32) = false := decide_eq_false (fun h => hx h.1)
    have d3 : decide (x.length = 32 ∧ nineB.length = 32) = false := decide_eq_false (fun h => hx h.1)
    repeat ((conv => whnf); first | (refine pre_i ?hc ?_; case hc => first | exact (show planOK _ _ _ = true from by kernel_rfl) | assumption | omega | (unfold fits; omega) | decide +kernel | (constructor <;> first | assumption | omega) | (simp only [off_addO, tysz, off, offE] <;> omega) | (simp only [lens, off_addO, off, offE] <;> omega) | (simp only [off_addO, tysz, lens, off, offE] <;> omega) | (constructor <;> first | assumption | (simp only [off_addO, tysz, lens, off, offE] <;> omega))) | (refine cond_t ?hc ?_; case hc => first | rfl | assumption | (rw [decide_eq_true_eq]; omega) | (rw [decide_eq_false_iff_not]; omega) | (simp <;> omega) | exact d1 | exact d2 | exact d3) | (refine cond_f ?hc ?_; case hc => first | rfl | assumption | (rw [decide_eq_true_eq]; omega) | (rw [decide_eq_false_iff_not]; omega) | (simp <;> omega) | exact d1 | exact d2 | exact d3) | refine same_i ?_)
    conv => whnf
    refine final_h (hp' := []) [] rfl ?_
    repeat ((conv => whnf); first | (refine pre_i ?hc ?_; case hc => first | exact (show planOK _ _ _ = true from by kernel_rfl) | assumption | omega | (unfold fits; omega) | decide +kernel | (constructor <;> first | assumption | omega) | (simp only [off_addO, tysz, off, offE] <;> omega) | (simp only [lens, off_addO, off, offE] <;> omega) | (simp only [off_addO, tysz, lens, off, offE] <;> omega) | (constructor <;> first | assumption | (simp only [off_addO, tysz, lens, off, offE] <;> omega))) | (refine cond_t ?hc ?_; case hc => first | rfl | assumption | (rw [decide_eq_true_eq]; omega) | (rw [decide_eq_false_iff_not]; omega) | (simp <;> omega)) | (refine cond_f ?hc ?_; case hc => first | rfl | assumption | (rw [decide_eq_true_eq]; omega) | (rw [decide_eq_false_iff_not]; omega) | (simp <;> omega)) | refine same_i ?_)
    exact trivial
theorem xcurves_end (w : World) (x : List UInt8) (_ : x.length ≤ 140737488351232) (y : List UInt8) (_ : y.length ≤ 140737488351232) :
    fnVC (lawG f10.ntmps tys lawFnX w []) pl10 (codeOf f10) f10.results.toList [.str x, .str y] [] (fun r _ => r = .bool true) := xcurves_vc w x y
end Go.Sym.N

namespace Go.Sym.N
open Go Go.Proofs.Try Go.Sym.Num
set_option maxRecDepth 100000

theorem ibits_and {a m : Int} (h0 : 0 ≤ m) (h1 : m < 9223372036854775808) : 0 ≤ ibits .and a m ∧ ibits .and a m ≤ m := by
  unfold ibits
  dsimp only
  have hle : (BitVec.ofInt 64 a &&& BitVec.ofInt 64 m).toNat ≤ (BitVec.ofInt 64 m).toNat := by
    rw [BitVec.toNat_and]; exact Nat.and_le_right
  have hm : ((BitVec.ofInt 64 m).toNat : Int) = m := by
    rw [BitVec.toNat_ofInt]
    have : (2 ^ 64 : Nat) = 18446744073709551616 := by decide
    rw [this]
    omega
  rw [wrap_i64 _ (by unfold fits; omega)]
  omega
theorem ibits_255 {a : Int} (h : 0 ≤ a) : ibits .and a 255 = a % 256 := by
  have hb := ibits_and (a := a) (m := 255) (by decide) (by decide)
  unfold ibits at hb ⊢
  dsimp only at hb ⊢
  have hle : (BitVec.ofInt 64 a &&& BitVec.ofInt 64 255).toNat = (BitVec.ofInt 64 a).toNat % 256 := by
    rw [BitVec.toNat_and]; exact Nat.and_two_pow_sub_one_eq_mod _ 8
  rw [hle, wrap_i64 _ (by unfold fits; omega), BitVec.toNat_ofInt]
  have : (2 ^ 64 : Nat) = 18446744073709551616 := by decide
  rw [this]
  omega

/-- eight bytes, written from the end on -/
def fillR (f : Nat → UInt8) : Nat → List UInt8
  | 0 => List.replicate 32 0
  | i + 1 => (fillR f i).set ((31 : Int) - (i : Int)).toNat (f i)
theorem fillR_len (f : Nat → UInt8) : ∀ i, (fillR f i).length = 32
  | 0 => rfl
  | i + 1 => by simp only [fillR, List.length_set]; exact fillR_len f i
theorem fillR_eight (f : Nat → UInt8) : fillR f 8 = List.replicate 24 0 ++ [f 7, f 6, f 5, f 4, f 3, f 2, f 1, f 0] := rfl
def wby (x : Int) (i : Nat) : UInt8 := UInt8.ofInt (ibits .and (x / 2 ^ (8 * (i : Int)).toNat) 255)
theorem beB_zero : ∀ k, beB k 0 = List.replicate k 0
  | 0 => rfl
  | k + 1 => by rw [beB, Nat.zero_div, beB_zero k, List.replicate_succ']; rfl
theorem wby_eq {x : Int} (h : 0 ≤ x) (i : Nat) : wby x i = UInt8.ofNat (x.toNat / 256 ^ i) := by
  obtain ⟨n, rfl⟩ := Int.eq_ofNat_of_zero_le h
  unfold wby
  have e : (8 * (i : Int)).toNat = 8 * i := by omega
  have e2 : ((n : Int) / 2 ^ (8 * i)) = ((n / 256 ^ i : Nat) : Int) := by
    have e4 : (2 : Int) ^ (8 * i) = ((2 ^ (8 * i) : Nat) : Int) := by simp
    rw [e4, Nat.pow_mul, show (2 ^ 8 : Nat) = 256 by decide]
    rfl
  rw [e, e2, ibits_255 (Int.natCast_nonneg _), Int.toNat_natCast]
  generalize n / 256 ^ i = v
  apply UInt8.toNat_inj.1
  have : ((v : Int) % 256) = ((v % 256 : Nat) : Int) := by omega
  rw [this, UInt8.toNat_ofNat']
  have h8 := ofInt_8 ((v % 256 : Nat) : Int)
  have : (2 ^ 8 : Nat) = 256 := by decide
  rw [this]; omega
theorem word_val {x : Int} (h : 0 ≤ x) (h1 : x < 9223372036854775808) : fillR (wby x) 8 = beB 32 x.toNat := by
  have p8 : (256 ^ 8 : Nat) = 18446744073709551616 := by decide
  rw [fillR_eight, show (32 : Nat) = 24 + 8 from rfl, beB_add, p8, Nat.div_eq_of_lt (by omega), beB_zero]
  congr 1
  simp only [wby_eq h, beB, List.nil_append, List.cons_append, Nat.div_div_eq_div_mul]
  simp


def wordS : Spec := fun args hp K => match args, hp with
  | [.int x], [] => Pre (0 ≤ x ∧ x < 9223372036854775808) (K (.str (beB 32 x.toNat)) [])
  | _, _ => False
theorem word_s : SoundC prog 32 wordS := by
  refine sound_f tys_ok fnok_nil rfl func32 rfl call32 (D := pl32) ?_ ?_
  · intro args hp K h
    unfold wordS at h
    split at h
    · exact Nat.le_of_ble_eq_true rfl
    · exact h.elim
  · intro args hp K h
    unfold wordS at h
    split at h
    · rename_i x
      obtain ⟨⟨h0, h1⟩, h⟩ := pre_e h
      repeat ((conv => whnf); first | (refine pre_i ?hc ?_; case hc => first | exact (show planOK _ _ _ = true from by kernel_rfl) | assumption | omega | (unfold fits; omega) | decide +kernel | (constructor <;> first | assumption | omega) | (simp only [off_addO, tysz, off, offE] <;> omega) | (simp only [lens, off_addO, off, offE] <;> omega) | (simp only [off_addO, tysz, lens, off, offE] <;> omega) | (constructor <;> first | assumption | (simp only [off_addO, tysz, lens, off, offE] <;> omega))) | (refine cond_t ?hc ?_; case hc => first | rfl | assumption | (rw [decide_eq_true_eq]; omega) | (rw [decide_eq_false_iff_not]; omega) | (simp <;> omega)) | (refine cond_f ?hc ?_; case hc => first | rfl | assumption | (rw [decide_eq_true_eq]; omega) | (rw [decide_eq_false_iff_not]; omega) | (simp <;> omega)) | refine same_i ?_)
      conv => whnf
      refine loop_h (Ix 8) (fun q => ⟨[(0, .int x), (3, .sl 0 0 0 [] 32 32), (4, .int q.i)], [.mk 5 [.arr8 32 (fillR (wby x) q.i)]]⟩)
        (fun q => 8 - q.i) ⟨0, Nat.zero_le _⟩ [0] ?_ ?_
      · repeat ((conv => whnf); first | (refine pre_i ?hc ?_; case hc => first | exact (show planOK _ _ _ = true from by kernel_rfl) | assumption | omega | (unfold fits; omega) | decide +kernel | (constructor <;> first | assumption | omega) | (simp only [off_addO, tysz, off, offE] <;> omega) | (simp only [lens, off_addO, off, offE] <;> omega) | (simp only [off_addO, tysz, lens, off, offE] <;> omega) | (constructor <;> first | assumption | (simp only [off_addO, tysz, lens, off, offE] <;> omega))) | (refine cond_t ?hc ?_; case hc => first | rfl | assumption | (rw [decide_eq_true_eq]; omega) | (rw [decide_eq_false_iff_not]; omega) | (simp <;> omega)) | (refine cond_f ?hc ?_; case hc => first | rfl | assumption | (rw [decide_eq_true_eq]; omega) | (rw [decide_eq_false_iff_not]; omega) | (simp <;> omega)) | refine same_i ?_)
        exact trivial
      · intro q
        have hi := q.hi
        have hl := fillR_len (wby x) q.i
        by_cases h4 : q.i < 8
        · repeat ((conv => whnf); first | (refine pre_i ?hc ?_; case hc => first | exact (show planOK _ _ _ = true from by kernel_rfl) | assumption | omega | (unfold fits; omega) | decide +kernel | (constructor <;> first | assumption | omega) | (simp only [off_addO, tysz, off, offE] <;> omega) | (simp only [lens, off_addO, off, offE] <;> omega) | (simp only [off_addO, tysz, lens, off, offE] <;> omega) | (constructor <;> first | assumption | (simp only [off_addO, tysz, lens, off, offE] <;> omega))) | (refine cond_t ?hc ?_; case hc => first | rfl | assumption | (rw [decide_eq_true_eq]; omega) | (rw [decide_eq_false_iff_not]; omega) | (simp <;> omega)) | (refine cond_f ?hc ?_; case hc => first | rfl | assumption | (rw [decide_eq_true_eq]; omega) | (rw [decide_eq_false_iff_not]; omega) | (simp <;> omega)) | refine same_i ?_)
          conv => whnf
          refine ⟨⟨q.i + 1, h4⟩, [0], ?_, ?_⟩
          · show 8 - (q.i + 1) < 8 - q.i
            omega
          · repeat ((conv => whnf); first | (refine pre_i ?hc ?_; case hc => first | exact (show planOK _ _ _ = true from by kernel_rfl) | assumption | omega | (unfold fits; omega) | decide +kernel | (constructor <;> first | assumption | omega) | (simp only [off_addO, tysz, off, offE] <;> omega) | (simp only [lens, off_addO, off, offE] <;> omega) | (simp only [off_addO, tysz, lens, off, offE] <;> omega) | (constructor <;> first | assumption | (simp only [off_addO, tysz, lens, off, offE] <;> omega))) | (refine cond_t ?hc ?_; case hc => first | rfl | assumption | (rw [decide_eq_true_eq]; omega) | (rw [decide_eq_false_iff_not]; omega) | (simp <;> omega)) | (refine cond_f ?hc ?_; case hc => first | rfl | assumption | (rw [decide_eq_true_eq]; omega) | (rw [decide_eq_false_iff_not]; omega) | (simp <;> omega)) | refine same_i ?_)
            exact trivial
        · have e4 : q.i = 8 := by omega
          have eb : List.take 32 (List.drop (off []) (fillR (wby x) q.i)) = beB 32 x.toNat := by
            rw [e4, word_val h0 h1]
            exact List.take_of_length_le (Nat.le_of_eq (beB_len 32 _))
          repeat ((conv => whnf); first | (refine pre_i ?hc ?_; case hc => first | exact (show planOK _ _ _ = true from by kernel_rfl) | assumption | omega | (unfold fits; omega) | decide +kernel | (constructor <;> first | assumption | omega) | (simp only [off_addO, tysz, off, offE] <;> omega) | (simp only [lens, off_addO, off, offE] <;> omega) | (simp only [off_addO, tysz, lens, off, offE] <;> omega) | (constructor <;> first | assumption | (simp only [off_addO, tysz, lens, off, offE] <;> omega))) | (refine cond_t ?hc ?_; case hc => first | rfl | assumption | (rw [decide_eq_true_eq]; omega) | (rw [decide_eq_false_iff_not]; omega) | (simp <;> omega)) | (refine cond_f ?hc ?_; case hc => first | rfl | assumption | (rw [decide_eq_true_eq]; omega) | (rw [decide_eq_false_iff_not]; omega) | (simp <;> omega)) | refine same_i ?_)
          conv => whnf
          rw [eb]
          refine final_h (hp' := []) [] h ?_
          repeat ((conv => whnf); first | (refine pre_i ?hc ?_; case hc => first | exact (show planOK _ _ _ = true from by kernel_rfl) | assumption | omega | (unfold fits; omega) | decide +kernel | (constructor <;> first | assumption | omega) | (simp only [off_addO, tysz, off, offE] <;> omega) | (simp only [lens, off_addO, off, offE] <;> omega) | (simp only [off_addO, tysz, lens, off, offE] <;> omega) | (constructor <;> first | assumption | (simp only [off_addO, tysz, lens, off, offE] <;> omega))) | (refine cond_t ?hc ?_; case hc => first | rfl | assumption | (rw [decide_eq_true_eq]; omega) | (rw [decide_eq_false_iff_not]; omega) | (simp <;> omega)) | (refine cond_f ?hc ?_; case hc => first | rfl | assumption | (rw [decide_eq_true_eq]; omega) | (rw [decide_eq_false_iff_not]; omega) | (simp <;> omega)) | refine same_i ?_)
          exact trivial
    · exact h.elim

/-- some number below the modulus -/
def reducedS : Spec := fun args hp K => match args, hp with
  | [.int w, .str s], [] => Pre (0 ≤ w ∧ w ≤ 2) (AllVC fun v : Nat => v < md w → K (.str (beB 32 v)) [])
  | _, _ => False
/-- bytes from the end on -/
def fillE (f : Nat → UInt8) : Nat → List UInt8
  | 0 => List.replicate 32 0
  | i + 1 => (fillE f i).set ((31 : Int) - (i : Int)).toNat (f i)
theorem fillE_len (f : Nat → UInt8) : ∀ i, (fillE f i).length = 32
  | 0 => rfl
  | i + 1 => by simp only [fillE, List.length_set]; exact fillE_len f i
theorem beV_cons : ∀ (n : Nat) (b : UInt8) (t : List UInt8), t.length = n → beV (b :: t) = b.toNat * 256 ^ n + beV t := fun n b t h => by
  have := beV_app n t [b] h
  simp only [List.singleton_append] at this
  rw [this]; simp [beV]
theorem small_top {s : List UInt8} (h : s.length = 32) {w : Int} (hw : 0 ≤ w ∧ w ≤ 2) : beV (s.set 0 0) < md w := by
  cases s with
  | nil => cases h
  | cons b t =>
    have ht : t.length = 31 := by simpa using h
    have hl := beV_lt 31 t ht
    rw [List.set_cons_zero, beV_cons 31 0 t ht]
    have : (256 : Nat) ^ 31 < md w := by rcases w3 hw with rfl | rfl | rfl <;> decide +kernel
    have z : (0 : UInt8).toNat = 0 := rfl
    rw [z]; omega
theorem reduced_s : SoundC prog 31 reducedS := by
  refine sound_f tys_ok (fnok_cons number_s fnok_nil) rfl func31 rfl call31 (D := pl31) ?_ ?_
  · intro args hp K h
    unfold reducedS at h
    split at h
    · exact Nat.le_of_ble_eq_true rfl
    · exact h.elim
  · intro args hp K h
    unfold reducedS at h
    split at h
    · rename_i w s
      obtain ⟨hw, h⟩ := pre_e h
      have h := all_e h
      repeat ((conv => whnf); first | (refine pre_i ?hc ?_; case hc => first | exact (show planOK _ _ _ = true from by kernel_rfl) | assumption | omega | (unfold fits; omega) | decide +kernel | (constructor <;> first | assumption | omega) | (simp only [off_addO, tysz, off, offE] <;> omega) | (simp only [lens, off_addO, off, offE] <;> omega) | (simp only [off_addO, tysz, lens, off, offE] <;> omega) | (constructor <;> first | assumption | (simp only [off_addO, tysz, lens, off, offE] <;> omega))) | (refine cond_t ?hc ?_; case hc => first | rfl | assumption | (rw [decide_eq_true_eq]; omega) | (rw [decide_eq_false_iff_not]; omega) | (simp <;> omega)) | (refine cond_f ?hc ?_; case hc => first | rfl | assumption | (rw [decide_eq_true_eq]; omega) | (rw [decide_eq_false_iff_not]; omega) | (simp <;> omega)) | refine same_i ?_)
      conv => whnf
      refine loop_h (Ix 32) (fun q => ⟨[(0, .int w), (1, .str s), (5, .sl 0 0 0 [] 32 32), (6, .int q.i)], [.mk 5 [.arr8 32 (fillE (fun i => s.getD i 0) q.i)]]⟩)
        (fun q => 32 - q.i) ⟨0, Nat.zero_le _⟩ [0] ?_ ?_
      · repeat ((conv => whnf); first | (refine pre_i ?hc ?_; case hc => first | exact (show planOK _ _ _ = true from by kernel_rfl) | assumption | omega | (unfold fits; omega) | decide +kernel | (constructor <;> first | assumption | omega) | (simp only [off_addO, tysz, off, offE] <;> omega) | (simp only [lens, off_addO, off, offE] <;> omega) | (simp only [off_addO, tysz, lens, off, offE] <;> omega) | (constructor <;> first | assumption | (simp only [off_addO, tysz, lens, off, offE] <;> omega))) | (refine cond_t ?hc ?_; case hc => first | rfl | assumption | (rw [decide_eq_true_eq]; omega) | (rw [decide_eq_false_iff_not]; omega) | (simp <;> omega)) | (refine cond_f ?hc ?_; case hc => first | rfl | assumption | (rw [decide_eq_true_eq]; omega) | (rw [decide_eq_false_iff_not]; omega) | (simp <;> omega)) | refine same_i ?_)
        exact trivial
      · intro q
        have hi := q.hi
        have hl := fillE_len (fun i => s.getD i 0) q.i
        have hI : ((q.i : Int)).toNat = q.i := Int.toNat_natCast _
        by_cases h4 : q.i < 32 ∧ q.i < s.length
        · obtain ⟨h4, h5⟩ := h4
          repeat ((conv => whnf); first | (refine pre_i ?hc ?_; case hc => first | exact (show planOK _ _ _ = true from by kernel_rfl) | assumption | omega | (unfold fits; omega) | decide +kernel | (constructor <;> first | assumption | omega) | (simp only [off_addO, tysz, off, offE] <;> omega) | (simp only [lens, off_addO, off, offE] <;> omega) | (simp only [off_addO, tysz, lens, off, offE] <;> omega) | (constructor <;> first | assumption | (simp only [off_addO, tysz, lens, off, offE] <;> omega))) | (refine cond_t ?hc ?_; case hc => first | rfl | assumption | (rw [decide_eq_true_eq]; omega) | (rw [decide_eq_false_iff_not]; omega) | (simp <;> omega)) | (refine cond_f ?hc ?_; case hc => first | rfl | assumption | (rw [decide_eq_true_eq]; omega) | (rw [decide_eq_false_iff_not]; omega) | (simp <;> omega)) | refine same_i ?_)
          conv => whnf
          refine ⟨⟨q.i + 1, h4⟩, [0], ?_, ?_⟩
          · show 32 - (q.i + 1) < 32 - q.i
            omega
          · repeat ((conv => whnf); first | (refine pre_i ?hc ?_; case hc => first | exact (show planOK _ _ _ = true from by kernel_rfl) | assumption | omega | (unfold fits; omega) | decide +kernel | (constructor <;> first | assumption | omega) | (simp only [off_addO, tysz, off, offE] <;> omega) | (simp only [lens, off_addO, off, offE] <;> omega) | (simp only [off_addO, tysz, lens, off, offE] <;> omega) | (constructor <;> first | assumption | (simp only [off_addO, tysz, lens, off, offE] <;> omega))) | (refine cond_t ?hc ?_; case hc => first | rfl | assumption | (rw [decide_eq_true_eq]; omega) | (rw [decide_eq_false_iff_not]; omega) | (simp <;> omega)) | (refine cond_f ?hc ?_; case hc => first | rfl | assumption | (rw [decide_eq_true_eq]; omega) | (rw [decide_eq_false_iff_not]; omega) | (simp <;> omega)) | refine same_i ?_)
            exact trivial
        · obtain ⟨B, hB⟩ : ∃ B, B = (fillE (fun i => s.getD i 0) q.i).set 0 ((fillE (fun i => s.getD i 0) q.i).getD 0 0 &&& UInt8.ofNat 127) := ⟨_, rfl⟩
          have hBl : B.length = 32 := by rw [hB, List.length_set]; exact hl
          have eB2 : (fillE (fun i => s.getD i 0) q.i).set (off (addO [] (Int.toNat 0) ty5.sz)) ((fillE (fun i => s.getD i 0) q.i).getD (off (addO [] (Int.toNat 0) ty5.sz)) 0 &&& UInt8.ofNat 127) = B := hB.symm
          have eB3 : List.take 32 (List.drop (off []) B) = B := List.take_of_length_le (Nat.le_of_eq hBl)
          have hC : (B.set 0 0).length = 32 := by rw [List.length_set]; exact hBl
          have eC : List.take 32 (List.drop (off []) (B.set 0 0)) = B.set 0 0 := List.take_of_length_le (Nat.le_of_eq hC)
          by_cases h6 : q.i < 32
          all_goals
            repeat ((conv => whnf); first | (refine pre_i ?hc ?_; case hc => first | exact (show planOK _ _ _ = true from by kernel_rfl) | assumption | omega | (unfold fits; omega) | decide +kernel | (constructor <;> first | assumption | omega) | (simp only [off_addO, tysz, off, offE] <;> omega) | (simp only [lens, off_addO, off, offE] <;> omega) | (simp only [off_addO, tysz, lens, off, offE] <;> omega) | (constructor <;> first | assumption | (simp only [off_addO, tysz, lens, off, offE] <;> omega))) | (refine cond_t ?hc ?_; case hc => first | rfl | assumption | (rw [decide_eq_true_eq]; omega) | (rw [decide_eq_false_iff_not]; omega) | (simp <;> omega)) | (refine cond_f ?hc ?_; case hc => first | rfl | assumption | (rw [decide_eq_true_eq]; omega) | (rw [decide_eq_false_iff_not]; omega) | (simp <;> omega)) | refine same_i ?_)
            conv => whnf
            rw [eB2, eB3]
            refine cond_t (by rw [decide_eq_true_eq]; exact ⟨hw, hBl⟩) ?_
            by_cases hlt : beV B < md w
            · have h := h (beV B) hlt
              rw [beB_beV 32 B hBl] at h
              repeat ((conv => whnf); first | (refine pre_i ?hc ?_; case hc => first | exact (show planOK _ _ _ = true from by kernel_rfl) | assumption | omega | (unfold fits; omega) | decide +kernel | (constructor <;> first | assumption | omega) | (simp only [off_addO, tysz, off, offE] <;> omega) | (simp only [lens, off_addO, off, offE] <;> omega) | (simp only [off_addO, tysz, lens, off, offE] <;> omega) | (constructor <;> first | assumption | (simp only [off_addO, tysz, lens, off, offE] <;> omega))) | (refine cond_t ?hc ?_; case hc => first | rfl | assumption | (rw [decide_eq_true_eq]; omega) | (rw [decide_eq_false_iff_not]; omega) | (simp <;> omega)) | (refine cond_f ?hc ?_; case hc => first | rfl | assumption | (rw [decide_eq_true_eq]; omega) | (rw [decide_eq_false_iff_not]; omega) | (simp <;> omega)) | refine same_i ?_)
              conv => whnf
              refine final_h (hp' := []) [] h ?_
              repeat ((conv => whnf); first | (refine pre_i ?hc ?_; case hc => first | exact (show planOK _ _ _ = true from by kernel_rfl) | assumption | omega | (unfold fits; omega) | decide +kernel | (constructor <;> first | assumption | omega) | (simp only [off_addO, tysz, off, offE] <;> omega) | (simp only [lens, off_addO, off, offE] <;> omega) | (simp only [off_addO, tysz, lens, off, offE] <;> omega) | (constructor <;> first | assumption | (simp only [off_addO, tysz, lens, off, offE] <;> omega))) | (refine cond_t ?hc ?_; case hc => first | rfl | assumption | (rw [decide_eq_true_eq]; omega) | (rw [decide_eq_false_iff_not]; omega) | (simp <;> omega)) | (refine cond_f ?hc ?_; case hc => first | rfl | assumption | (rw [decide_eq_true_eq]; omega) | (rw [decide_eq_false_iff_not]; omega) | (simp <;> omega)) | refine same_i ?_)
              conv => whnf
              refine same_q (by rw [eB3]; rfl) ?_
              exact trivial
            · have h := h (beV (B.set 0 0)) (small_top hBl hw)
              rw [beB_beV 32 (B.set 0 0) hC] at h
              repeat ((conv => whnf); first | (refine pre_i ?hc ?_; case hc => first | exact (show planOK _ _ _ = true from by kernel_rfl) | assumption | omega | (unfold fits; omega) | decide +kernel | (constructor <;> first | assumption | omega) | (simp only [off_addO, tysz, off, offE] <;> omega) | (simp only [lens, off_addO, off, offE] <;> omega) | (simp only [off_addO, tysz, lens, off, offE] <;> omega) | (constructor <;> first | assumption | (simp only [off_addO, tysz, lens, off, offE] <;> omega))) | (refine cond_t ?hc ?_; case hc => first | rfl | assumption | (rw [decide_eq_true_eq]; omega) | (rw [decide_eq_false_iff_not]; omega) | (simp <;> omega)) | (refine cond_f ?hc ?_; case hc => first | rfl | assumption | (rw [decide_eq_true_eq]; omega) | (rw [decide_eq_false_iff_not]; omega) | (simp <;> omega)) | refine same_i ?_)
              conv => whnf
              refine final_h (hp' := []) [] h ?_
              repeat ((conv => whnf); first | (refine pre_i ?hc ?_; case hc => first | exact (show planOK _ _ _ = true from by kernel_rfl) | assumption | omega | (unfold fits; omega) | decide +kernel | (constructor <;> first | assumption | omega) | (simp only [off_addO, tysz, off, offE] <;> omega) | (simp only [lens, off_addO, off, offE] <;> omega) | (simp only [off_addO, tysz, lens, off, offE] <;> omega) | (constructor <;> first | assumption | (simp only [off_addO, tysz, lens, off, offE] <;> omega))) | (refine cond_t ?hc ?_; case hc => first | rfl | assumption | (rw [decide_eq_true_eq]; omega) | (rw [decide_eq_false_iff_not]; omega) | (simp <;> omega)) | (refine cond_f ?hc ?_; case hc => first | rfl | assumption | (rw [decide_eq_true_eq]; omega) | (rw [decide_eq_false_iff_not]; omega) | (simp <;> omega)) | refine same_i ?_)
              conv => whnf
              refine same_q (by rw [← eC]; rfl) ?_
              exact trivial
    · exact h.elim
end Go.Sym.N

namespace Go.Sym.N
open Go Go.Proofs.Try Go.Sym.Num
open Go.Sym.X
set_option maxRecDepth 100000
attribute [local irreducible] md beB beV mo toM clampV topV ladM sharedV nineB

/-- the orders of the drawn regions of halberdlaw10.XcurveTop -/
def pl12 : List (Nat × List PStep) := [(3, [⟨0, []⟩, ⟨1, [0]⟩, ⟨2, [1]⟩, ⟨3, []⟩]), (25, [⟨0, []⟩, ⟨1, []⟩, ⟨2, []⟩, ⟨3, [0, 1, 2]⟩, ⟨4, [0, 1, 2]⟩, ⟨5, []⟩, ⟨6, []⟩, ⟨7, []⟩, ⟨8, [7]⟩, ⟨9, [8]⟩, ⟨10, []⟩])]
/-- the orders of the drawn regions of halberdlaw10.XcurveReduced -/
def pl13 : List (Nat × List PStep) := [(3, [⟨0, []⟩, ⟨1, [0]⟩, ⟨2, [0, 1]⟩, ⟨3, [1, 2]⟩, ⟨4, [2]⟩, ⟨5, []⟩])]

/-- a text's bytes over noughts -/
def cpSt (s : List UInt8) : Nat → List UInt8
  | 0 => List.replicate 32 0
  | i + 1 => if i < s.length then (cpSt s i).set i (s.getD i 0) else cpSt s i
theorem cpSt_len (s : List UInt8) : ∀ i, (cpSt s i).length = 32
  | 0 => List.length_replicate
  | i + 1 => by
    simp only [cpSt]
    split
    · rw [List.length_set]; exact cpSt_len s i
    · exact cpSt_len s i
theorem cpSt_t {s : List UInt8} {i : Nat} (h : i < s.length) : cpSt s (i + 1) = (cpSt s i).set i (s.getD i 0) := by simp only [cpSt]; rw [if_pos h]
theorem cpSt_f {s : List UInt8} {i : Nat} (h : ¬ i < s.length) : cpSt s (i + 1) = cpSt s i := by simp only [cpSt]; rw [if_neg h]
theorem cpSt_zero (s : List UInt8) : cpSt s 0 = List.replicate 32 0 := rfl
/-- the bytes 255, one after the other -/
def ffSt : Nat → List UInt8
  | 0 => List.replicate 32 0
  | i + 1 => (ffSt i).set i (UInt8.ofNat 255)
theorem ffSt_len : ∀ i, (ffSt i).length = 32
  | 0 => List.length_replicate
  | i + 1 => by simp only [ffSt, List.length_set]; exact ffSt_len i
theorem ffSt_all : ffSt 32 = List.replicate 32 255 := by decide +kernel
/-- a point's highest bit does not count -/
theorem beV_last {b : List UInt8} (h : b.length = 32) (t : UInt8) : beV (b.set 31 t).reverse = t.toNat * 256 ^ 31 + beV (b.take 31).reverse := by
  obtain ⟨m, x, rfl⟩ := snoc_of b (by omega)
  have hm : m.length = 31 := by simpa using h
  rw [List.set_append_right _ _ (by omega), hm, List.take_left' hm]
  show beV (m ++ [t]).reverse = _
  rw [List.reverse_append, List.reverse_cons, List.reverse_nil, List.nil_append, List.singleton_append, X.beV_cons, List.length_reverse, hm]
theorem xor128 (x : UInt8) : (x ^^^ UInt8.ofNat 128).toNat % 128 = x.toNat % 128 := by
  have h := x.toNat_lt
  have k : ∀ n, n < 256 → (n ^^^ 128) % 128 = n % 128 := by decide +kernel
  rw [UInt8.toNat_xor, show (UInt8.ofNat 128).toNat = 128 by decide]
  exact k _ (by simpa using h)
theorem top_bit {b : List UInt8} (h : b.length = 32) : topV (beV (b.set 31 (b.getD 31 0 ^^^ UInt8.ofNat 128)).reverse) = topV (beV b.reverse) := by
  have e : b.set 31 (b.getD 31 0) = b := by
    apply List.ext_getElem?
    intro j
    rw [List.getElem?_set]
    by_cases hj : 31 = j
    · subst hj
      rw [if_pos rfl, if_pos (by omega), List.getD_eq_getElem?_getD, List.getElem?_eq_getElem (by omega)]; rfl
    · rw [if_neg hj]
  have h1 := beV_last h (b.getD 31 0)
  rw [e] at h1
  rw [beV_last h, h1]
  have hx := xor128 (b.getD 31 0)
  have hl := beV_lt 31 (b.take 31).reverse (by rw [List.length_reverse, List.length_take, h]; rfl)
  have e1 : (256 ^ 31 : Nat) = 452312848583266388373324160190187140051835877600158453279131187530910662656 := by decide
  rw [e1] at hl
  rw [e1]
  unfold topV
  omega
theorem shared_top {a b : List UInt8} (h : b.length = 32) : sharedV a (b.set 31 (b.getD 31 0 ^^^ UInt8.ofNat 128)) = sharedV a b := by
  unfold sharedV
  rw [top_bit h]
theorem shared_small {a b : List UInt8} (h : topV (beV b.reverse) % md 2 = 0 ∨ topV (beV b.reverse) % md 2 = 1 ∨ topV (beV b.reverse) % md 2 = md 2 - 1) : sharedV a b = 0 := by
  unfold sharedV
  rcases h with h | h | h <;> rw [h]
  · exact small0 _
  · exact small1 _
  · exact smallM _
theorem small_z (a : List UInt8) {n : Nat} (h : n = 0 ∨ n = 1) : sharedV a ((List.replicate 32 0).set 0 (UInt8.ofNat n)) = 0 := by
  refine shared_small ?_
  rcases h with rfl | rfl
  · left; decide +kernel
  · right; left; decide +kernel
theorem small_prime (a : List UInt8) {n : Nat} (h : n = 236 ∨ n = 237) : sharedV a (((List.replicate 32 255).set 31 (UInt8.ofNat 127)).set 0 (UInt8.ofNat n)) = 0 := by
  refine shared_small ?_
  rcases h with rfl | rfl
  · right; right; decide +kernel
  · left; decide +kernel
theorem xcurveTop_vc (w : World) (x y : List UInt8) (z : Int) :
    fnVC (lawG f12.ntmps tys lawFnX w []) pl12 (codeOf f12) f12.results.toList [.str x, .str y, .int z] [] (fun r _ => r = .bool true) := by
  repeat ((conv => whnf); first | (refine pre_i ?hc ?_; case hc => first | exact (show planOK _ _ _ = true from by kernel_rfl) | assumption | omega | (unfold fits; omega) | decide +kernel | (constructor <;> first | assumption | omega) | (simp only [off_addO, tysz, off, offE] <;> omega) | (simp only [lens, off_addO, off, offE] <;> omega) | (simp only [off_addO, tysz, lens, off, offE] <;> omega) | (constructor <;> first | assumption | (simp only [off_addO, tysz, lens, off, offE] <;> omega))) | (refine cond_t ?hc ?_; case hc => first | rfl | assumption | (rw [decide_eq_true_eq]; omega) | (rw [decide_eq_false_iff_not]; omega) | (simp <;> omega)) | (refine cond_f ?hc ?_; case hc => first | rfl | assumption | (rw [decide_eq_true_eq]; omega) | (rw [decide_eq_false_iff_not]; omega) | (simp <;> omega)) | refine same_i ?_)
  conv => whnf
  refine loop_h (Ix 32) (fun q => ⟨[(0, .str x), (1, .str y), (2, .int z), (7, .sl 0 0 0 [] 32 32), (8, .sl 1 0 0 [] 32 32), (9, .int q.i)],
    [.mk 5 [.arr8 32 (cpSt x q.i)], .mk 5 [.arr8 32 (cpSt y q.i)]]⟩)
    (fun q => 32 - q.i) ⟨0, Nat.zero_le _⟩ [0, 1] ?_ ?_
  · repeat ((conv => whnf); first | (refine pre_i ?hc ?_; case hc => first | exact (show planOK _ _ _ = true from by kernel_rfl) | assumption | omega | (unfold fits; omega) | decide +kernel | (constructor <;> first | assumption | omega) | (simp only [off_addO, tysz, off, offE] <;> omega) | (simp only [lens, off_addO, off, offE] <;> omega) | (simp only [off_addO, tysz, lens, off, offE] <;> omega) | (constructor <;> first | assumption | (simp only [off_addO, tysz, lens, off, offE] <;> omega))) | (refine cond_t ?hc ?_; case hc => first | rfl | assumption | (rw [decide_eq_true_eq]; omega) | (rw [decide_eq_false_iff_not]; omega) | (simp <;> omega)) | (refine cond_f ?hc ?_; case hc => first | rfl | assumption | (rw [decide_eq_true_eq]; omega) | (rw [decide_eq_false_iff_not]; omega) | (simp <;> omega)) | refine same_i ?_)
    exact trivial
  · intro q
    have hi := q.hi
    have hlx := cpSt_len x q.i
    have hly := cpSt_len y q.i
    have hI : ((q.i : Int)).toNat = q.i := Int.toNat_natCast _
    by_cases h4 : q.i < 32
    · by_cases h1 : q.i < x.length
      · by_cases h2 : q.i < y.length
        · repeat ((conv => whnf); first | (refine pre_i ?hc ?_; case hc => first | exact (show planOK _ _ _ = true from by kernel_rfl) | assumption | omega | (unfold fits; omega) | decide +kernel | (constructor <;> first | assumption | omega) | (simp only [off_addO, tysz, off, offE] <;> omega) | (simp only [lens, off_addO, off, offE] <;> omega) | (simp only [off_addO, tysz, lens, off, offE] <;> omega) | (constructor <;> first | assumption | (simp only [off_addO, tysz, lens, off, offE] <;> omega))) | (refine cond_t ?hc ?_; case hc => first | rfl | assumption | (rw [decide_eq_true_eq]; omega) | (rw [decide_eq_false_iff_not]; omega) | (simp <;> omega)) | (refine cond_f ?hc ?_; case hc => first | rfl | assumption | (rw [decide_eq_true_eq]; omega) | (rw [decide_eq_false_iff_not]; omega) | (simp <;> omega)) | refine same_i ?_)
          conv => whnf
          refine ⟨⟨q.i + 1, h4⟩, [0, 1], ?_, ?_⟩
          · show 32 - (q.i + 1) < 32 - q.i
            omega
          · repeat ((conv => whnf); first | (refine pre_i ?hc ?_; case hc => first | exact (show planOK _ _ _ = true from by kernel_rfl) | assumption | omega | (unfold fits; omega) | decide +kernel | (constructor <;> first | assumption | omega) | (simp only [off_addO, tysz, off, offE] <;> omega) | (simp only [lens, off_addO, off, offE] <;> omega) | (simp only [off_addO, tysz, lens, off, offE] <;> omega) | (constructor <;> first | assumption | (simp only [off_addO, tysz, lens, off, offE] <;> omega))) | (refine cond_t ?hc ?_; case hc => first | rfl | assumption | (rw [decide_eq_true_eq]; omega) | (rw [decide_eq_false_iff_not]; omega) | (simp <;> omega)) | (refine cond_f ?hc ?_; case hc => first | rfl | assumption | (rw [decide_eq_true_eq]; omega) | (rw [decide_eq_false_iff_not]; omega) | (simp <;> omega)) | refine same_i ?_)
            conv => whnf
            refine same_q (by rw [cpSt_t h1]; rfl) ?_
            repeat ((conv => whnf); first | (refine pre_i ?hc ?_; case hc => first | exact (show planOK _ _ _ = true from by kernel_rfl) | assumption | omega | (unfold fits; omega) | decide +kernel | (constructor <;> first | assumption | omega) | (simp only [off_addO, tysz, off, offE] <;> omega) | (simp only [lens, off_addO, off, offE] <;> omega) | (simp only [off_addO, tysz, lens, off, offE] <;> omega) | (constructor <;> first | assumption | (simp only [off_addO, tysz, lens, off, offE] <;> omega))) | (refine cond_t ?hc ?_; case hc => first | rfl | assumption | (rw [decide_eq_true_eq]; omega) | (rw [decide_eq_false_iff_not]; omega) | (simp <;> omega)) | (refine cond_f ?hc ?_; case hc => first | rfl | assumption | (rw [decide_eq_true_eq]; omega) | (rw [decide_eq_false_iff_not]; omega) | (simp <;> omega)) | refine same_i ?_)
            conv => whnf
            refine same_q (by rw [cpSt_t h2]; rfl) ?_
            repeat ((conv => whnf); first | (refine pre_i ?hc ?_; case hc => first | exact (show planOK _ _ _ = true from by kernel_rfl) | assumption | omega | (unfold fits; omega) | decide +kernel | (constructor <;> first | assumption | omega) | (simp only [off_addO, tysz, off, offE] <;> omega) | (simp only [lens, off_addO, off, offE] <;> omega) | (simp only [off_addO, tysz, lens, off, offE] <;> omega) | (constructor <;> first | assumption | (simp only [off_addO, tysz, lens, off, offE] <;> omega))) | (refine cond_t ?hc ?_; case hc => first | rfl | assumption | (rw [decide_eq_true_eq]; omega) | (rw [decide_eq_false_iff_not]; omega) | (simp <;> omega)) | (refine cond_f ?hc ?_; case hc => first | rfl | assumption | (rw [decide_eq_true_eq]; omega) | (rw [decide_eq_false_iff_not]; omega) | (simp <;> omega)) | refine same_i ?_)
            exact trivial
        · repeat ((conv => whnf); first | (refine pre_i ?hc ?_; case hc => first | exact (show planOK _ _ _ = true from by kernel_rfl) | assumption | omega | (unfold fits; omega) | decide +kernel | (constructor <;> first | assumption | omega) | (simp only [off_addO, tysz, off, offE] <;> omega) | (simp only [lens, off_addO, off, offE] <;> omega) | (simp only [off_addO, tysz, lens, off, offE] <;> omega) | (constructor <;> first | assumption | (simp only [off_addO, tysz, lens, off, offE] <;> omega))) | (refine cond_t ?hc ?_; case hc => first | rfl | assumption | (rw [decide_eq_true_eq]; omega) | (rw [decide_eq_false_iff_not]; omega) | (simp <;> omega)) | (refine cond_f ?hc ?_; case hc => first | rfl | assumption | (rw [decide_eq_true_eq]; omega) | (rw [decide_eq_false_iff_not]; omega) | (simp <;> omega)) | refine same_i ?_)
          conv => whnf
          refine ⟨⟨q.i + 1, h4⟩, [0, 1], ?_, ?_⟩
          · show 32 - (q.i + 1) < 32 - q.i
            omega
          · repeat ((conv => whnf); first | (refine pre_i ?hc ?_; case hc => first | exact (show planOK _ _ _ = true from by kernel_rfl) | assumption | omega | (unfold fits; omega) | decide +kernel | (constructor <;> first | assumption | omega) | (simp only [off_addO, tysz, off, offE] <;> omega) | (simp only [lens, off_addO, off, offE] <;> omega) | (simp only [off_addO, tysz, lens, off, offE] <;> omega) | (constructor <;> first | assumption | (simp only [off_addO, tysz, lens, off, offE] <;> omega))) | (refine cond_t ?hc ?_; case hc => first | rfl | assumption | (rw [decide_eq_true_eq]; omega) | (rw [decide_eq_false_iff_not]; omega) | (simp <;> omega)) | (refine cond_f ?hc ?_; case hc => first | rfl | assumption | (rw [decide_eq_true_eq]; omega) | (rw [decide_eq_false_iff_not]; omega) | (simp <;> omega)) | refine same_i ?_)
            conv => whnf
            refine same_q (by rw [cpSt_t h1]; rfl) ?_
            repeat ((conv => whnf); first | (refine pre_i ?hc ?_; case hc => first | exact (show planOK _ _ _ = true from by kernel_rfl) | assumption | omega | (unfold fits; omega) | decide +kernel | (constructor <;> first | assumption | omega) | (simp only [off_addO, tysz, off, offE] <;> omega) | (simp only [lens, off_addO, off, offE] <;> omega) | (simp only [off_addO, tysz, lens, off, offE] <;> omega) | (constructor <;> first | assumption | (simp only [off_addO, tysz, lens, off, offE] <;> omega))) | (refine cond_t ?hc ?_; case hc => first | rfl | assumption | (rw [decide_eq_true_eq]; omega) | (rw [decide_eq_false_iff_not]; omega) | (simp <;> omega)) | (refine cond_f ?hc ?_; case hc => first | rfl | assumption | (rw [decide_eq_true_eq]; omega) | (rw [decide_eq_false_iff_not]; omega) | (simp <;> omega)) | refine same_i ?_)
            conv => whnf
            refine same_q (by rw [cpSt_f h2]; rfl) ?_
            repeat ((conv => whnf); first | (refine pre_i ?hc ?_; case hc => first | exact (show planOK _ _ _ = true from by kernel_rfl) | assumption | omega | (unfold fits; omega) | decide +kernel | (constructor <;> first | assumption | omega) | (simp only [off_addO, tysz, off, offE] <;> omega) | (simp only [lens, off_addO, off, offE] <;> omega) | (simp only [off_addO, tysz, lens, off, offE] <;> omega) | (constructor <;> first | assumption | (simp only [off_addO, tysz, lens, off, offE] <;> omega))) | (refine cond_t ?hc ?_; case hc => first | rfl | assumption | (rw [decide_eq_true_eq]; omega) | (rw [decide_eq_false_iff_not]; omega) | (simp <;> omega)) | (refine cond_f ?hc ?_; case hc => first | rfl | assumption | (rw [decide_eq_true_eq]; omega) | (rw [decide_eq_false_iff_not]; omega) | (simp <;> omega)) | refine same_i ?_)
            exact trivial
      · by_cases h2 : q.i < y.length
        · repeat ((conv => whnf); first | (refine pre_i ?hc ?_; case hc => first | exact (show planOK _ _ _ = true from by kernel_rfl) | assumption | omega | (unfold fits; omega) | decide +kernel | (constructor <;> first | assumption | omega) | (simp only [off_addO, tysz, off, offE] <;> omega) | (simp only [lens, off_addO, off, offE] <;> omega) | (simp only [off_addO, tysz, lens, off, offE] <;> omega) | (constructor <;> first | assumption | (simp only [off_addO, tysz, lens, off, offE] <;> omega))) | (refine cond_t ?hc ?_; case hc => first | rfl | assumption | (rw [decide_eq_true_eq]; omega) | (rw [decide_eq_false_iff_not]; omega) | (simp <;> omega)) | (refine cond_f ?hc ?_; case hc => first | rfl | assumption | (rw [decide_eq_true_eq]; omega) | (rw [decide_eq_false_iff_not]; omega) | (simp <;> omega)) | refine same_i ?_)
          conv => whnf
          refine ⟨⟨q.i + 1, h4⟩, [0, 1], ?_, ?_⟩
          · show 32 - (q.i + 1) < 32 - q.i
            omega
          · repeat ((conv => whnf); first | (refine pre_i ?hc ?_; case hc => first | exact (show planOK _ _ _ = true from by kernel_rfl) | assumption | omega | (unfold fits; omega) | decide +kernel | (constructor <;> first | assumption | omega) | (simp only [off_addO, tysz, off, offE] <;> omega) | (simp only [lens, off_addO, off, offE] <;> omega) | (simp only [off_addO, tysz, lens, off, offE] <;> omega) | (constructor <;> first | assumption | (simp only [off_addO, tysz, lens, off, offE] <;> omega))) | (refine cond_t ?hc ?_; case hc => first | rfl | assumption | (rw [decide_eq_true_eq]; omega) | (rw [decide_eq_false_iff_not]; omega) | (simp <;> omega)) | (refine cond_f ?hc ?_; case hc => first | rfl | assumption | (rw [decide_eq_true_eq]; omega) | (rw [decide_eq_false_iff_not]; omega) | (simp <;> omega)) | refine same_i ?_)
            conv => whnf
            refine same_q (by rw [cpSt_f h1]; rfl) ?_
            repeat ((conv => whnf); first | (refine pre_i ?hc ?_; case hc => first | exact (show planOK _ _ _ = true from by kernel_rfl) | assumption | omega | (unfold fits; omega) | decide +kernel | (constructor <;> first | assumption | omega) | (simp only [off_addO, tysz, off, offE] <;> omega) | (simp only [lens, off_addO, off, offE] <;> omega) | (simp only [off_addO, tysz, lens, off, offE] <;> omega) | (constructor <;> first | assumption | (simp only [off_addO, tysz, lens, off, offE] <;> omega))) | (refine cond_t ?hc ?_; case hc => first | rfl | assumption | (rw [decide_eq_true_eq]; omega) | (rw [decide_eq_false_iff_not]; omega) | (simp <;> omega)) | (refine cond_f ?hc ?_; case hc => first | rfl | assumption | (rw [decide_eq_true_eq]; omega) | (rw [decide_eq_false_iff_not]; omega) | (simp <;> omega)) | refine same_i ?_)
            conv => whnf
            refine same_q (by rw [cpSt_t h2]; rfl) ?_
            repeat ((conv => whnf); first | (refine pre_i ?hc ?_; case hc => first | exact (show planOK _ _ _ = true from by kernel_rfl) | assumption | omega | (unfold fits; omega) | decide +kernel | (constructor <;> first | assumption | omega) | (simp only [off_addO, tysz, off, offE] <;> omega) | (simp only [lens, off_addO, off, offE] <;> omega) | (simp only [off_addO, tysz, lens, off, offE] <;> omega) | (constructor <;> first | assumption | (simp only [off_addO, tysz, lens, off, offE] <;> omega))) | (refine cond_t ?hc ?_; case hc => first | rfl | assumption | (rw [decide_eq_true_eq]; omega) | (rw [decide_eq_false_iff_not]; omega) | (simp <;> omega)) | (refine cond_f ?hc ?_; case hc => first | rfl | assumption | (rw [decide_eq_true_eq]; omega) | (rw [decide_eq_false_iff_not]; omega) | (simp <;> omega)) | refine same_i ?_)
            exact trivial
        · repeat ((conv => whnf); first | (refine pre_i ?hc ?_; case hc => first | exact (show planOK _ _ _ = true from by kernel_rfl) | assumption | omega | (unfold fits; omega) | decide +kernel | (constructor <;> first | assumption | omega) | (simp only [off_addO, tysz, off, offE] <;> omega) | (simp only [lens, off_addO, off, offE] <;> omega) | (simp only [off_addO, tysz, lens, off, offE] <;> omega) | (constructor <;> first | assumption | (simp only [off_addO, tysz, lens, off, offE] <;> omega))) | (refine cond_t ?hc ?_; case hc => first | rfl | assumption | (rw [decide_eq_true_eq]; omega) | (rw [decide_eq_false_iff_not]; omega) | (simp <;> omega)) | (refine cond_f ?hc ?_; case hc => first | rfl | assumption | (rw [decide_eq_true_eq]; omega) | (rw [decide_eq_false_iff_not]; omega) | (simp <;> omega)) | refine same_i ?_)
          conv => whnf
          refine ⟨⟨q.i + 1, h4⟩, [0, 1], ?_, ?_⟩
          · show 32 - (q.i + 1) < 32 - q.i
            omega
          · repeat ((conv => whnf); first | (refine pre_i ?hc ?_; case hc => first | exact (show planOK _ _ _ = true from by kernel_rfl) | assumption | omega | (unfold fits; omega) | decide +kernel | (constructor <;> first | assumption | omega) | (simp only [off_addO, tysz, off, offE] <;> omega) | (simp only [lens, off_addO, off, offE] <;> omega) | (simp only [off_addO, tysz, lens, off, offE] <;> omega) | (constructor <;> first | assumption | (simp only [off_addO, tysz, lens, off, offE] <;> omega))) | (refine cond_t ?hc ?_; case hc => first | rfl | assumption | (rw [decide_eq_true_eq]; omega) | (rw [decide_eq_false_iff_not]; omega) | (simp <;> omega)) | (refine cond_f ?hc ?_; case hc => first | rfl | assumption | (rw [decide_eq_true_eq]; omega) | (rw [decide_eq_false_iff_not]; omega) | (simp <;> omega)) | refine same_i ?_)
            conv => whnf
            refine same_q (by rw [cpSt_f h1]; rfl) ?_
            repeat ((conv => whnf); first | (refine pre_i ?hc ?_; case hc => first | exact (show planOK _ _ _ = true from by kernel_rfl) | assumption | omega | (unfold fits; omega) | decide +kernel | (constructor <;> first | assumption | omega) | (simp only [off_addO, tysz, off, offE] <;> omega) | (simp only [lens, off_addO, off, offE] <;> omega) | (simp only [off_addO, tysz, lens, off, offE] <;> omega) | (constructor <;> first | assumption | (simp only [off_addO, tysz, lens, off, offE] <;> omega))) | (refine cond_t ?hc ?_; case hc => first | rfl | assumption | (rw [decide_eq_true_eq]; omega) | (rw [decide_eq_false_iff_not]; omega) | (simp <;> omega)) | (refine cond_f ?hc ?_; case hc => first | rfl | assumption | (rw [decide_eq_true_eq]; omega) | (rw [decide_eq_false_iff_not]; omega) | (simp <;> omega)) | refine same_i ?_)
            conv => whnf
            refine same_q (by rw [cpSt_f h2]; rfl) ?_
            repeat ((conv => whnf); first | (refine pre_i ?hc ?_; case hc => first | exact (show planOK _ _ _ = true from by kernel_rfl) | assumption | omega | (unfold fits; omega) | decide +kernel | (constructor <;> first | assumption | omega) | (simp only [off_addO, tysz, off, offE] <;> omega) | (simp only [lens, off_addO, off, offE] <;> omega) | (simp only [off_addO, tysz, lens, off, offE] <;> omega) | (constructor <;> first | assumption | (simp only [off_addO, tysz, lens, off, offE] <;> omega))) | (refine cond_t ?hc ?_; case hc => first | rfl | assumption | (rw [decide_eq_true_eq]; omega) | (rw [decide_eq_false_iff_not]; omega) | (simp <;> omega)) | (refine cond_f ?hc ?_; case hc => first | rfl | assumption | (rw [decide_eq_true_eq]; omega) | (rw [decide_eq_false_iff_not]; omega) | (simp <;> omega)) | refine same_i ?_)
            exact trivial
    · have e4 : q.i = 32 := by omega
      rw [e4] at hlx hly
      have ta : List.take 32 (List.drop (off []) (cpSt x 32)) = cpSt x 32 := List.take_of_length_le (Nat.le_of_eq hlx)
      have tb : List.take 32 (List.drop (off []) (cpSt y 32)) = cpSt y 32 := List.take_of_length_le (Nat.le_of_eq hly)
      rw [e4]
      generalize cpSt x 32 = A at *
      generalize cpSt y 32 = B at *
      repeat ((conv => whnf); first | (refine pre_i ?hc ?_; case hc => first | exact (show planOK _ _ _ = true from by kernel_rfl) | assumption | omega | (unfold fits; omega) | decide +kernel | (constructor <;> first | assumption | omega) | (simp only [off_addO, tysz, off, offE] <;> omega) | (simp only [lens, off_addO, off, offE] <;> omega) | (simp only [off_addO, tysz, lens, off, offE] <;> omega) | (constructor <;> first | assumption | (simp only [off_addO, tysz, lens, off, offE] <;> omega))) | (refine cond_t ?hc ?_; case hc => first | rfl | assumption | (rw [decide_eq_true_eq]; omega) | (rw [decide_eq_false_iff_not]; omega) | (simp <;> omega)) | (refine cond_f ?hc ?_; case hc => first | rfl | assumption | (rw [decide_eq_true_eq]; omega) | (rw [decide_eq_false_iff_not]; omega) | (simp <;> omega)) | refine same_i ?_)
      conv => whnf
      rw [ta, tb]
      have d1 : decide (A.length = 32 ∧ B.length = 32) = true := decide_eq_true ⟨hlx, hly⟩
      obtain ⟨B', hB'⟩ : ∃ B', B' = B.set 31 (B.getD 31 0 ^^^ UInt8.ofNat 128) := ⟨_, rfl⟩
      have hlB : B'.length = 32 := by rw [hB', List.length_set]; exact hly
      have tB : List.take 32 (List.drop (off []) (B.set (off (addO [] (Int.toNat 31) ty5.sz)) (B.getD (off (addO [] (Int.toNat 31) ty5.sz)) 0 ^^^ UInt8.ofNat 128))) = B' := by
        rw [hB']; exact List.take_of_length_le (by rw [List.length_drop, List.length_set]; exact Nat.le_trans (Nat.sub_le _ _) (Nat.le_of_eq hly))
      have d2 : decide (A.length = 32 ∧ B'.length = 32) = true := decide_eq_true ⟨hlx, hlB⟩
      obtain ⟨Z, hZ⟩ : ∃ Z, Z = (List.replicate 32 0).set 0 (UInt8.ofInt (ibits .and z 1)) := ⟨_, rfl⟩
      have hlZ : Z.length = 32 := by rw [hZ, List.length_set, List.length_replicate]
      have tZ : List.take (Int.toNat 32) (List.drop (off []) ((List.replicate (Int.toNat 32) 0).set (off (addO [] (Int.toNat 0) ty5.sz)) (UInt8.ofInt (ibits .and z 1)))) = Z := by
        rw [hZ]; exact List.take_of_length_le (by rw [List.length_drop, List.length_set, List.length_replicate]; decide)
      have d3 : decide (A.length = 32 ∧ Z.length = 32) = true := decide_eq_true ⟨hlx, hlZ⟩
      have h3 : decide (sharedV A Z = 0) = true := decide_eq_true (by
        have hb := ibits_and (a := z) (m := 1) (by decide) (by decide)
        rw [hZ]
        obtain e | e : ibits .and z 1 = 0 ∨ ibits .and z 1 = 1 := by omega
        · rw [e]; exact small_z A (.inl rfl)
        · rw [e]; exact small_z A (.inr rfl))
      obtain ⟨T, hT⟩ : ∃ T, T = ((List.replicate 32 255).set 31 (UInt8.ofNat 127)).set 0 (UInt8.ofInt (236 + ibits .and (z / 2 ^ (UInt64.ofNat 1).toNat) 1)) := ⟨_, rfl⟩
      have hlT : T.length = 32 := by rw [hT, List.length_set, List.length_set, List.length_replicate]
      have tT : List.take 32 (List.drop (off []) (((List.replicate 32 255).set (off (addO [] (Int.toNat 31) ty5.sz)) (UInt8.ofNat 127)).set (off (addO [] (Int.toNat 0) ty5.sz)) (UInt8.ofInt (236 + ibits .and (z / 2 ^ (UInt64.ofNat 1).toNat) 1)))) = T := by
        rw [hT]; exact List.take_of_length_le (by rw [List.length_drop, List.length_set, List.length_set, List.length_replicate]; decide)
      have d4 : decide (A.length = 32 ∧ T.length = 32) = true := decide_eq_true ⟨hlx, hlT⟩
      have hb2 := ibits_and (a := z / 2 ^ (UInt64.ofNat 1).toNat) (m := 1) (by decide) (by decide)
      have h4' : decide (sharedV A T = 0) = true := decide_eq_true (by
        rw [hT]
        obtain e | e : ibits .and (z / 2 ^ (UInt64.ofNat 1).toNat) 1 = 0 ∨ ibits .and (z / 2 ^ (UInt64.ofNat 1).toNat) 1 = 1 := by omega
        · rw [e]; exact small_prime A (.inl rfl)
        · rw [e]; exact small_prime A (.inr rfl))
      have d6 : decide ((beB 32 (sharedV A B)).reverse = (beB 32 (sharedV A B')).reverse) = true := decide_eq_true (by rw [hB', shared_top hly])
      have d7 : decide (((beB 32 (sharedV A B)).reverse.length : Int) = 32) = true := decide_eq_true (by rw [List.length_reverse, beB_len]; rfl)
      generalize hV : decide (sharedV A B = 0) = c
      have hV2 : decide (sharedV A B' = 0) = c := by rw [hB', shared_top hly]; exact hV
      have t31 : (List.take (Int.toNat 31) (List.drop (off []) A)).length = 31 := by rw [List.length_take, List.length_drop, hlx]; rfl
      have d5 : decide ((List.take (Int.toNat 31) (List.drop (off []) A)).length = 32 ∧ B'.length = 32) = false := decide_eq_false (fun h => by rw [t31] at h; omega)
      cases c
      · repeat ((conv => whnf); first | (refine pre_i ?hc ?_; case hc => first | exact (show planOK _ _ _ = true from by kernel_rfl) | assumption | omega | (unfold fits; omega) | decide +kernel | (constructor <;> first | assumption | omega) | (simp only [off_addO, tysz, off, offE] <;> omega) | (simp only [lens, off_addO, off, offE] <;> omega) | (simp only [off_addO, tysz, lens, off, offE] <;> omega) | (constructor <;> first | assumption | (simp only [off_addO, tysz, lens, off, offE] <;> omega))) | (refine cond_t ?hc ?_; case hc => first | rfl | assumption | (rw [decide_eq_true_eq]; omega) | (rw [decide_eq_false_iff_not]; omega) | (simp <;> omega) | exact d1 | exact hV) | (refine cond_f ?hc ?_; case hc => first | rfl | assumption | (rw [decide_eq_true_eq]; omega) | (rw [decide_eq_false_iff_not]; omega) | (simp <;> omega) | exact d1 | exact hV) | refine same_i ?_)
        conv => whnf
        rw [ta, tB]
        repeat ((conv => whnf); first | (refine pre_i ?hc ?_; case hc => first | exact (show planOK _ _ _ = true from by kernel_rfl) | assumption | omega | (unfold fits; omega) | decide +kernel | (constructor <;> first | assumption | omega) | (simp only [off_addO, tysz, off, offE] <;> omega) | (simp only [lens, off_addO, off, offE] <;> omega) | (simp only [off_addO, tysz, lens, off, offE] <;> omega) | (constructor <;> first | assumption | (simp only [off_addO, tysz, lens, off, offE] <;> omega))) | (refine cond_t ?hc ?_; case hc => first | rfl | assumption | (rw [decide_eq_true_eq]; omega) | (rw [decide_eq_false_iff_not]; omega) | (simp <;> omega) | exact d2 | exact hV2) | (refine cond_f ?hc ?_; case hc => first | rfl | assumption | (rw [decide_eq_true_eq]; omega) | (rw [decide_eq_false_iff_not]; omega) | (simp <;> omega) | exact d2 | exact hV2) | refine same_i ?_)
        conv => whnf
        rw [ta, tZ]
        repeat ((conv => whnf); first | (refine pre_i ?hc ?_; case hc => first | exact (show planOK _ _ _ = true from by kernel_rfl) | assumption | omega | (unfold fits; omega) | decide +kernel | (constructor <;> first | assumption | omega) | (simp only [off_addO, tysz, off, offE] <;> omega) | (simp only [lens, off_addO, off, offE] <;> omega) | (simp only [off_addO, tysz, lens, off, offE] <;> omega) | (constructor <;> first | assumption | (simp only [off_addO, tysz, lens, off, offE] <;> omega))) | (refine cond_t ?hc ?_; case hc => first | rfl | assumption | (rw [decide_eq_true_eq]; omega) | (rw [decide_eq_false_iff_not]; omega) | (simp <;> omega) | exact d3 | exact h3) | (refine cond_f ?hc ?_; case hc => first | rfl | assumption | (rw [decide_eq_true_eq]; omega) | (rw [decide_eq_false_iff_not]; omega) | (simp <;> omega) | exact d3 | exact h3) | refine same_i ?_)
        conv => whnf
        refine loop_h (Ix 32) (fun q => ⟨[(0, .str x), (1, .str y), (2, .int z), (7, .sl 0 0 0 [] 32 32), (8, .sl 1 0 0 [] 32 32), (10, .str (beB 32 (sharedV A B)).reverse), (11, .int 0), (12, .str (beB 32 (sharedV A B')).reverse), (13, .int 0), (16, .int 1001), (17, .sl 3 0 0 [] 32 32), (18, .int q.i)],
          [.mk 5 [.arr8 32 A], .mk 5 [.arr8 32 B'], .mk 5 [.arr8 32 Z], .mk 5 [.arr8 32 (ffSt q.i)]]⟩)
          (fun q => 32 - q.i) ⟨0, Nat.zero_le _⟩ [0, 1, 2, 3] ?_ ?_
        · repeat ((conv => whnf); first | (refine pre_i ?hc ?_; case hc => first | exact (show planOK _ _ _ = true from by kernel_rfl) | assumption | omega | (unfold fits; omega) | decide +kernel | (constructor <;> first | assumption | omega) | (simp only [off_addO, tysz, off, offE] <;> omega) | (simp only [lens, off_addO, off, offE] <;> omega) | (simp only [off_addO, tysz, lens, off, offE] <;> omega) | (constructor <;> first | assumption | (simp only [off_addO, tysz, lens, off, offE] <;> omega))) | (refine cond_t ?hc ?_; case hc => first | rfl | assumption | (rw [decide_eq_true_eq]; omega) | (rw [decide_eq_false_iff_not]; omega) | (simp <;> omega)) | (refine cond_f ?hc ?_; case hc => first | rfl | assumption | (rw [decide_eq_true_eq]; omega) | (rw [decide_eq_false_iff_not]; omega) | (simp <;> omega)) | refine same_i ?_)
          conv => whnf
          refine same_q (by rw [hB']; rfl) ?_
          repeat ((conv => whnf); first | (refine pre_i ?hc ?_; case hc => first | exact (show planOK _ _ _ = true from by kernel_rfl) | assumption | omega | (unfold fits; omega) | decide +kernel | (constructor <;> first | assumption | omega) | (simp only [off_addO, tysz, off, offE] <;> omega) | (simp only [lens, off_addO, off, offE] <;> omega) | (simp only [off_addO, tysz, lens, off, offE] <;> omega) | (constructor <;> first | assumption | (simp only [off_addO, tysz, lens, off, offE] <;> omega))) | (refine cond_t ?hc ?_; case hc => first | rfl | assumption | (rw [decide_eq_true_eq]; omega) | (rw [decide_eq_false_iff_not]; omega) | (simp <;> omega)) | (refine cond_f ?hc ?_; case hc => first | rfl | assumption | (rw [decide_eq_true_eq]; omega) | (rw [decide_eq_false_iff_not]; omega) | (simp <;> omega)) | refine same_i ?_)
          conv => whnf
          refine same_q (by rw [hZ]; rfl) ?_
          repeat ((conv => whnf); first | (refine pre_i ?hc ?_; case hc => first | exact (show planOK _ _ _ = true from by kernel_rfl) | assumption | omega | (unfold fits; omega) | decide +kernel | (constructor <;> first | assumption | omega) | (simp only [off_addO, tysz, off, offE] <;> omega) | (simp only [lens, off_addO, off, offE] <;> omega) | (simp only [off_addO, tysz, lens, off, offE] <;> omega) | (constructor <;> first | assumption | (simp only [off_addO, tysz, lens, off, offE] <;> omega))) | (refine cond_t ?hc ?_; case hc => first | rfl | assumption | (rw [decide_eq_true_eq]; omega) | (rw [decide_eq_false_iff_not]; omega) | (simp <;> omega)) | (refine cond_f ?hc ?_; case hc => first | rfl | assumption | (rw [decide_eq_true_eq]; omega) | (rw [decide_eq_false_iff_not]; omega) | (simp <;> omega)) | refine same_i ?_)
          exact trivial
        · intro q
          have hi := q.hi
          have hl := ffSt_len q.i
          have hI : ((q.i : Int)).toNat = q.i := Int.toNat_natCast _
          by_cases h4 : q.i < 32
          · repeat ((conv => whnf); first | (refine pre_i ?hc ?_; case hc => first | exact (show planOK _ _ _ = true from by kernel_rfl) | assumption | omega | (unfold fits; omega) | decide +kernel | (constructor <;> first | assumption | omega) | (simp only [off_addO, tysz, off, offE] <;> omega) | (simp only [lens, off_addO, off, offE] <;> omega) | (simp only [off_addO, tysz, lens, off, offE] <;> omega) | (constructor <;> first | assumption | (simp only [off_addO, tysz, lens, off, offE] <;> omega))) | (refine cond_t ?hc ?_; case hc => first | rfl | assumption | (rw [decide_eq_true_eq]; omega) | (rw [decide_eq_false_iff_not]; omega) | (simp <;> omega)) | (refine cond_f ?hc ?_; case hc => first | rfl | assumption | (rw [decide_eq_true_eq]; omega) | (rw [decide_eq_false_iff_not]; omega) | (simp <;> omega)) | refine same_i ?_)
            conv => whnf
            refine ⟨⟨q.i + 1, h4⟩, [0, 1, 2, 3], ?_, ?_⟩
            · show 32 - (q.i + 1) < 32 - q.i
              omega
            · repeat ((conv => whnf); first | (refine pre_i ?hc ?_; case hc => first | exact (show planOK _ _ _ = true from by kernel_rfl) | assumption | omega | (unfold fits; omega) | decide +kernel | (constructor <;> first | assumption | omega) | (simp only [off_addO, tysz, off, offE] <;> omega) | (simp only [lens, off_addO, off, offE] <;> omega) | (simp only [off_addO, tysz, lens, off, offE] <;> omega) | (constructor <;> first | assumption | (simp only [off_addO, tysz, lens, off, offE] <;> omega))) | (refine cond_t ?hc ?_; case hc => first | rfl | assumption | (rw [decide_eq_true_eq]; omega) | (rw [decide_eq_false_iff_not]; omega) | (simp <;> omega)) | (refine cond_f ?hc ?_; case hc => first | rfl | assumption | (rw [decide_eq_true_eq]; omega) | (rw [decide_eq_false_iff_not]; omega) | (simp <;> omega)) | refine same_i ?_)
              exact trivial
          · have e5 : q.i = 32 := by omega
            rw [e5, ffSt_all]
            repeat ((conv => whnf); first | (refine pre_i ?hc ?_; case hc => first | exact (show planOK _ _ _ = true from by kernel_rfl) | assumption | omega | (unfold fits; omega) | decide +kernel | (constructor <;> first | assumption | omega) | (simp only [off_addO, tysz, off, offE] <;> omega) | (simp only [lens, off_addO, off, offE] <;> omega) | (simp only [off_addO, tysz, lens, off, offE] <;> omega) | (constructor <;> first | assumption | (simp only [off_addO, tysz, lens, off, offE] <;> omega))) | (refine cond_t ?hc ?_; case hc => first | rfl | assumption | (rw [decide_eq_true_eq]; omega) | (rw [decide_eq_false_iff_not]; omega) | (simp <;> omega)) | (refine cond_f ?hc ?_; case hc => first | rfl | assumption | (rw [decide_eq_true_eq]; omega) | (rw [decide_eq_false_iff_not]; omega) | (simp <;> omega)) | refine same_i ?_)
            conv => whnf
            rw [ta, tT]
            repeat ((conv => whnf); first | (refine pre_i ?hc ?_; case hc => first | exact (show planOK _ _ _ = true from by kernel_rfl) | assumption | omega | (unfold fits; omega) | decide +kernel | (constructor <;> first | assumption | omega) | (simp only [off_addO, tysz, off, offE] <;> omega) | (simp only [lens, off_addO, off, offE] <;> omega) | (simp only [off_addO, tysz, lens, off, offE] <;> omega) | (constructor <;> first | assumption | (simp only [off_addO, tysz, lens, off, offE] <;> omega))) | (refine cond_t ?hc ?_; case hc => first | rfl | assumption | (rw [decide_eq_true_eq]; omega) | (rw [decide_eq_false_iff_not]; omega) | (simp <;> omega) | exact d4 | exact h4') | (refine cond_f ?hc ?_; case hc => first | rfl | assumption | (rw [decide_eq_true_eq]; omega) | (rw [decide_eq_false_iff_not]; omega) | (simp <;> omega) | exact d4 | exact h4') | refine same_i ?_)
            conv => whnf
            repeat ((conv => whnf); first | (refine pre_i ?hc ?_; case hc => first | exact (show planOK _ _ _ = true from by kernel_rfl) | assumption | omega | (unfold fits; omega) | decide +kernel | (constructor <;> first | assumption | omega) | (simp only [off_addO, tysz, off, offE] <;> omega) | (simp only [lens, off_addO, off, offE] <;> omega) | (simp only [off_addO, tysz, lens, off, offE] <;> omega) | (constructor <;> first | assumption | (simp only [off_addO, tysz, lens, off, offE] <;> omega))) | (refine cond_t ?hc ?_; case hc => first | rfl | assumption | (rw [decide_eq_true_eq]; omega) | (rw [decide_eq_false_iff_not]; omega) | (simp <;> omega) | exact d6 | (rw [d6]; rfl) | exact d7 | (rw [d7]; rfl)) | (refine cond_f ?hc ?_; case hc => first | rfl | assumption | (rw [decide_eq_true_eq]; omega) | (rw [decide_eq_false_iff_not]; omega) | (simp <;> omega) | exact d6 | (rw [d6]; rfl) | exact d7 | (rw [d7]; rfl)) | refine same_i ?_)
            conv => whnf
            refine final_h (hp' := []) [] rfl ?_
            repeat ((conv => whnf); first | (refine pre_i ?hc ?_; case hc => first | exact (show planOK _ _ _ = true from by kernel_rfl) | assumption | omega | (unfold fits; omega) | decide +kernel | (constructor <;> first | assumption | omega) | (simp only [off_addO, tysz, off, offE] <;> omega) | (simp only [lens, off_addO, off, offE] <;> omega) | (simp only [off_addO, tysz, lens, off, offE] <;> omega) | (constructor <;> first | assumption | (simp only [off_addO, tysz, lens, off, offE] <;> omega))) | (refine cond_t ?hc ?_; case hc => first | rfl | assumption | (rw [decide_eq_true_eq]; omega) | (rw [decide_eq_false_iff_not]; omega) | (simp <;> omega)) | (refine cond_f ?hc ?_; case hc => first | rfl | assumption | (rw [decide_eq_true_eq]; omega) | (rw [decide_eq_false_iff_not]; omega) | (simp <;> omega)) | refine same_i ?_)
            exact trivial
      · repeat ((conv => whnf); first | (refine pre_i ?hc ?_; case hc => first | exact (show planOK _ _ _ = true from by kernel_rfl) | assumption | omega | (unfold fits; omega) | decide +kernel | (constructor <;> first | assumption | omega) | (simp only [off_addO, tysz, off, offE] <;> omega) | (simp only [lens, off_addO, off, offE] <;> omega) | (simp only [off_addO, tysz, lens, off, offE] <;> omega) | (constructor <;> first | assumption | (simp only [off_addO, tysz, lens, off, offE] <;> omega))) | (refine cond_t ?hc ?_; case hc => first | rfl | assumption | (rw [decide_eq_true_eq]; omega) | (rw [decide_eq_false_iff_not]; omega) | (simp <;> omega) | exact d1 | exact hV) | (refine cond_f ?hc ?_; case hc => first | rfl | assumption | (rw [decide_eq_true_eq]; omega) | (rw [decide_eq_false_iff_not]; omega) | (simp <;> omega) | exact d1 | exact hV) | refine same_i ?_)
        conv => whnf
        rw [ta, tB]
        repeat ((conv => whnf); first | (refine pre_i ?hc ?_; case hc => first | exact (show planOK _ _ _ = true from by kernel_rfl) | assumption | omega | (unfold fits; omega) | decide +kernel | (constructor <;> first | assumption | omega) | (simp only [off_addO, tysz, off, offE] <;> omega) | (simp only [lens, off_addO, off, offE] <;> omega) | (simp only [off_addO, tysz, lens, off, offE] <;> omega) | (constructor <;> first | assumption | (simp only [off_addO, tysz, lens, off, offE] <;> omega))) | (refine cond_t ?hc ?_; case hc => first | rfl | assumption | (rw [decide_eq_true_eq]; omega) | (rw [decide_eq_false_iff_not]; omega) | (simp <;> omega) | exact d2 | exact hV2) | (refine cond_f ?hc ?_; case hc => first | rfl | assumption | (rw [decide_eq_true_eq]; omega) | (rw [decide_eq_false_iff_not]; omega) | (simp <;> omega) | exact d2 | exact hV2) | refine same_i ?_)
        conv => whnf
        rw [ta, tZ]
        repeat ((conv => whnf); first | (refine pre_i ?hc ?_; case hc => first | exact (show planOK _ _ _ = true from by kernel_rfl) | assumption | omega | (unfold fits; omega) | decide +kernel | (constructor <;> first | assumption | omega) | (simp only [off_addO, tysz, off, offE] <;> omega) | (simp only [lens, off_addO, off, offE] <;> omega) | (simp only [off_addO, tysz, lens, off, offE] <;> omega) | (constructor <;> first | assumption | (simp only [off_addO, tysz, lens, off, offE] <;> omega))) | (refine cond_t ?hc ?_; case hc => first | rfl | assumption | (rw [decide_eq_true_eq]; omega) | (rw [decide_eq_false_iff_not]; omega) | (simp <;> omega) | exact d3 | exact h3) | (refine cond_f ?hc ?_; case hc => first | rfl | assumption | (rw [decide_eq_true_eq]; omega) | (rw [decide_eq_false_iff_not]; omega) | (simp <;> omega) | exact d3 | exact h3) | refine same_i ?_)
        conv => whnf
        refine loop_h (Ix 32) (fun q => ⟨[(0, .str x), (1, .str y), (2, .int z), (7, .sl 0 0 0 [] 32 32), (8, .sl 1 0 0 [] 32 32), (10, .str []), (11, .int 1001), (12, .str []), (13, .int 1001), (16, .int 1001), (17, .sl 3 0 0 [] 32 32), (18, .int q.i)],
          [.mk 5 [.arr8 32 A], .mk 5 [.arr8 32 B'], .mk 5 [.arr8 32 Z], .mk 5 [.arr8 32 (ffSt q.i)]]⟩)
          (fun q => 32 - q.i) ⟨0, Nat.zero_le _⟩ [0, 1, 2, 3] ?_ ?_
        · repeat ((conv => whnf); first | (refine pre_i ?hc ?_; case hc => first | exact (show planOK _ _ _ = true from by kernel_rfl) | assumption | omega | (unfold fits; omega) | decide +kernel | (constructor <;> first | assumption | omega) | (simp only [off_addO, tysz, off, offE] <;> omega) | (simp only [lens, off_addO, off, offE] <;> omega) | (simp only [off_addO, tysz, lens, off, offE] <;> omega) | (constructor <;> first | assumption | (simp only [off_addO, tysz, lens, off, offE] <;> omega))) | (refine cond_t ?hc ?_; case hc => first | rfl | assumption | (rw [decide_eq_true_eq]; omega) | (rw [decide_eq_false_iff_not]; omega) | (simp <;> omega)) | (refine cond_f ?hc ?_; case hc => first | rfl | assumption | (rw [decide_eq_true_eq]; omega) | (rw [decide_eq_false_iff_not]; omega) | (simp <;> omega)) | refine same_i ?_)
          conv => whnf
          refine same_q (by rw [hB']; rfl) ?_
          repeat ((conv => whnf); first | (refine pre_i ?hc ?_; case hc => first | exact (show planOK _ _ _ = true from by kernel_rfl) | assumption | omega | (unfold fits; omega) | decide +kernel | (constructor <;> first | assumption | omega) | (simp only [off_addO, tysz, off, offE] <;> omega) | (simp only [lens, off_addO, off, offE] <;> omega) | (simp only [off_addO, tysz, lens, off, offE] <;> omega) | (constructor <;> first | assumption | (simp only [off_addO, tysz, lens, off, offE] <;> omega))) | (refine cond_t ?hc ?_; case hc => first | rfl | assumption | (rw [decide_eq_true_eq]; omega) | (rw [decide_eq_false_iff_not]; omega) | (simp <;> omega)) | (refine cond_f ?hc ?_; case hc => first | rfl | assumption | (rw [decide_eq_true_eq]; omega) | (rw [decide_eq_false_iff_not]; omega) | (simp <;> omega)) | refine same_i ?_)
          conv => whnf
          refine same_q (by rw [hZ]; rfl) ?_
          repeat ((conv => whnf); first | (refine pre_i ?hc ?_; case hc => first | exact (show planOK _ _ _ = true from by kernel_rfl) | assumption | omega | (unfold fits; omega) | decide +kernel | (constructor <;> first | assumption | omega) | (simp only [off_addO, tysz, off, offE] <;> omega) | (simp only [lens, off_addO, off, offE] <;> omega) | (simp only [off_addO, tysz, lens, off, offE] <;> omega) | (constructor <;> first | assumption | (simp only [off_addO, tysz, lens, off, offE] <;> omega))) | (refine cond_t ?hc ?_; case hc => first | rfl | assumption | (rw [decide_eq_true_eq]; omega) | (rw [decide_eq_false_iff_not]; omega) | (simp <;> omega)) | (refine cond_f ?hc ?_; case hc => first | rfl | assumption | (rw [decide_eq_true_eq]; omega) | (rw [decide_eq_false_iff_not]; omega) | (simp <;> omega)) | refine same_i ?_)
          exact trivial
        · intro q
          have hi := q.hi
          have hl := ffSt_len q.i
          have hI : ((q.i : Int)).toNat = q.i := Int.toNat_natCast _
          by_cases h4 : q.i < 32
          · repeat ((conv => whnf); first | (refine pre_i ?hc ?_; case hc => first | exact (show planOK _ _ _ = true from by kernel_rfl) | assumption | omega | (unfold fits; omega) | decide +kernel | (constructor <;> first | assumption | omega) | (simp only [off_addO, tysz, off, offE] <;> omega) | (simp only [lens, off_addO, off, offE] <;> omega) | (simp only [off_addO, tysz, lens, off, offE] <;> omega) | (constructor <;> first | assumption | (simp only [off_addO, tysz, lens, off, offE] <;> omega))) | (refine cond_t ?hc ?_; case hc => first | rfl | assumption | (rw [decide_eq_true_eq]; omega) | (rw [decide_eq_false_iff_not]; omega) | (simp <;> omega)) | (refine cond_f ?hc ?_; case hc => first | rfl | assumption | (rw [decide_eq_true_eq]; omega) | (rw [decide_eq_false_iff_not]; omega) | (simp <;> omega)) | refine same_i ?_)
            conv => whnf
            refine ⟨⟨q.i + 1, h4⟩, [0, 1, 2, 3], ?_, ?_⟩
            · show 32 - (q.i + 1) < 32 - q.i
              omega
            · repeat ((conv => whnf); first | (refine pre_i ?hc ?_; case hc => first | exact (show planOK _ _ _ = true from by kernel_rfl) | assumption | omega | (unfold fits; omega) | decide +kernel | (constructor <;> first | assumption | omega) | (simp only [off_addO, tysz, off, offE] <;> omega) | (simp only [lens, off_addO, off, offE] <;> omega) | (simp only [off_addO, tysz, lens, off, offE] <;> omega) | (constructor <;> first | assumption | (simp only [off_addO, tysz, lens, off, offE] <;> omega))) | (refine cond_t ?hc ?_; case hc => first | rfl | assumption | (rw [decide_eq_true_eq]; omega) | (rw [decide_eq_false_iff_not]; omega) | (simp <;> omega)) | (refine cond_f ?hc ?_; case hc => first | rfl | assumption | (rw [decide_eq_true_eq]; omega) | (rw [decide_eq_false_iff_not]; omega) | (simp <;> omega)) | refine same_i ?_)
              exact trivial
          · have e5 : q.i = 32 := by omega
            rw [e5, ffSt_all]
            repeat ((conv => whnf); first | (refine pre_i ?hc ?_; case hc => first | exact (show planOK _ _ _ = true from by kernel_rfl) | assumption | omega | (unfold fits; omega) | decide +kernel | (constructor <;> first | assumption | omega) | (simp only [off_addO, tysz, off, offE] <;> omega) | (simp only [lens, off_addO, off, offE] <;> omega) | (simp only [off_addO, tysz, lens, off, offE] <;> omega) | (constructor <;> first | assumption | (simp only [off_addO, tysz, lens, off, offE] <;> omega))) | (refine cond_t ?hc ?_; case hc => first | rfl | assumption | (rw [decide_eq_true_eq]; omega) | (rw [decide_eq_false_iff_not]; omega) | (simp <;> omega)) | (refine cond_f ?hc ?_; case hc => first | rfl | assumption | (rw [decide_eq_true_eq]; omega) | (rw [decide_eq_false_iff_not]; omega) | (simp <;> omega)) | refine same_i ?_)
            conv => whnf
            rw [ta, tT]
            repeat ((conv => whnf); first | (refine pre_i ?hc ?_; case hc => first | exact (show planOK _ _ _ = true from by kernel_rfl) | assumption | omega | (unfold fits; omega) | decide +kernel | (constructor <;> first | assumption | omega) | (simp only [off_addO, tysz, off, offE] <;> omega) | (simp only [lens, off_addO, off, offE] <;> omega) | (simp only [off_addO, tysz, lens, off, offE] <;> omega) | (constructor <;> first | assumption | (simp only [off_addO, tysz, lens, off, offE] <;> omega))) | (refine cond_t ?hc ?_; case hc => first | rfl | assumption | (rw [decide_eq_true_eq]; omega) | (rw [decide_eq_false_iff_not]; omega) | (simp <;> omega) | exact d4 | exact h4') | (refine cond_f ?hc ?_; case hc => first | rfl | assumption | (rw [decide_eq_true_eq]; omega) | (rw [decide_eq_false_iff_not]; omega) | (simp <;> omega) | exact d4 | exact h4') | refine same_i ?_)
            conv => whnf
            refine final_h (hp' := []) [] rfl ?_
            repeat ((conv => whnf); first | (refine pre_i ?hc ?_; case hc => first | exact (show planOK _ _ _ = true from by kernel_rfl) | assumption | omega | (unfold fits; omega) | decide +kernel | (constructor <;> first | assumption | omega) | (simp only [off_addO, tysz, off, offE] <;> omega) | (simp only [lens, off_addO, off, offE] <;> omega) | (simp only [off_addO, tysz, lens, off, offE] <;> omega) | (constructor <;> first | assumption | (simp only [off_addO, tysz, lens, off, offE] <;> omega))) | (refine cond_t ?hc ?_; case hc => first | rfl | assumption | (rw [decide_eq_true_eq]; omega) | (rw [decide_eq_false_iff_not]; omega) | (simp <;> omega)) | (refine cond_f ?hc ?_; case hc => first | rfl | assumption | (rw [decide_eq_true_eq]; omega) | (rw [decide_eq_false_iff_not]; omega) | (simp <;> omega)) | refine same_i ?_)
            exact trivial
theorem xcurveTop_end (w : World) (x : List UInt8) (_ : x.length ≤ 140737488351232) (y : List UInt8) (_ : y.length ≤ 140737488351232) (z : Int) (_ : -9223372036854775808 ≤ z ∧ z ≤ 9223372036854775807) :
    fnVC (lawG f12.ntmps tys lawFnX w []) pl12 (codeOf f12) f12.results.toList [.str x, .str y, .int z] [] (fun r _ => r = .bool true) := xcurveTop_vc w x y z
/-- a point and the one that is the prime more -/
theorem reduced_pt : ∀ n, n < 19 → topV (beV ((List.replicate 32 0).set 0 (UInt8.ofInt ((n : Nat) : Int))).reverse) % md 2 = topV (beV (((List.replicate 32 255).set 0 (UInt8.ofInt (237 + ((n : Nat) : Int)))).set 31 (UInt8.ofNat 127)).reverse) % md 2 := by decide +kernel
theorem xcurveReduced_vc (w : World) (x : List UInt8) (z : Int) :
    fnVC (lawG f13.ntmps tys lawFnX w []) pl13 (codeOf f13) f13.results.toList [.str x, .int z] [] (fun r _ => r = .bool true) := by
  repeat ((conv => whnf); first | (refine pre_i ?hc ?_; case hc => first | exact (show planOK _ _ _ = true from by kernel_rfl) | assumption | omega | (unfold fits; omega) | decide +kernel | (constructor <;> first | assumption | omega) | (simp only [off_addO, tysz, off, offE] <;> omega) | (simp only [lens, off_addO, off, offE] <;> omega) | (simp only [off_addO, tysz, lens, off, offE] <;> omega) | (constructor <;> first | assumption | (simp only [off_addO, tysz, lens, off, offE] <;> omega))) | (refine cond_t ?hc ?_; case hc => first | rfl | assumption | (rw [decide_eq_true_eq]; omega) | (rw [decide_eq_false_iff_not]; omega) | (simp <;> omega)) | (refine cond_f ?hc ?_; case hc => first | rfl | assumption | (rw [decide_eq_true_eq]; omega) | (rw [decide_eq_false_iff_not]; omega) | (simp <;> omega)) | refine same_i ?_)
  conv => whnf
  refine loop_h (Ix 32) (fun q => ⟨[(0, .str x), (1, .int z), (5, .sl 0 0 0 [] 32 32), (6, .sl 1 0 0 [] 32 32), (7, .sl 2 0 0 [] 32 32), (8, .int q.i)],
    [.mk 5 [.arr8 32 (cpSt x q.i)], .mk 5 [.arr8 32 (List.replicate 32 0)], .mk 5 [.arr8 32 (ffSt q.i)]]⟩)
    (fun q => 32 - q.i) ⟨0, Nat.zero_le _⟩ [0, 1, 2] ?_ ?_
  · repeat ((conv => whnf); first | (refine pre_i ?hc ?_; case hc => first | exact (show planOK _ _ _ = true from by kernel_rfl) | assumption | omega | (unfold fits; omega) | decide +kernel | (constructor <;> first | assumption | omega) | (simp only [off_addO, tysz, off, offE] <;> omega) | (simp only [lens, off_addO, off, offE] <;> omega) | (simp only [off_addO, tysz, lens, off, offE] <;> omega) | (constructor <;> first | assumption | (simp only [off_addO, tysz, lens, off, offE] <;> omega))) | (refine cond_t ?hc ?_; case hc => first | rfl | assumption | (rw [decide_eq_true_eq]; omega) | (rw [decide_eq_false_iff_not]; omega) | (simp <;> omega)) | (refine cond_f ?hc ?_; case hc => first | rfl | assumption | (rw [decide_eq_true_eq]; omega) | (rw [decide_eq_false_iff_not]; omega) | (simp <;> omega)) | refine same_i ?_)
    exact trivial
  · intro q
    have hi := q.hi
    have hlx := cpSt_len x q.i
    have hly := ffSt_len q.i
    have hI : ((q.i : Int)).toNat = q.i := Int.toNat_natCast _
    by_cases h4 : q.i < 32
    · by_cases h1 : q.i < x.length
      · repeat ((conv => whnf); first | (refine pre_i ?hc ?_; case hc => first | exact (show planOK _ _ _ = true from by kernel_rfl) | assumption | omega | (unfold fits; omega) | decide +kernel | (constructor <;> first | assumption | omega) | (simp only [off_addO, tysz, off, offE] <;> omega) | (simp only [lens, off_addO, off, offE] <;> omega) | (simp only [off_addO, tysz, lens, off, offE] <;> omega) | (constructor <;> first | assumption | (simp only [off_addO, tysz, lens, off, offE] <;> omega))) | (refine cond_t ?hc ?_; case hc => first | rfl | assumption | (rw [decide_eq_true_eq]; omega) | (rw [decide_eq_false_iff_not]; omega) | (simp <;> omega)) | (refine cond_f ?hc ?_; case hc => first | rfl | assumption | (rw [decide_eq_true_eq]; omega) | (rw [decide_eq_false_iff_not]; omega) | (simp <;> omega)) | refine same_i ?_)
        conv => whnf
        refine ⟨⟨q.i + 1, h4⟩, [0, 1, 2], ?_, ?_⟩
        · show 32 - (q.i + 1) < 32 - q.i
          omega
        · repeat ((conv => whnf); first | (refine pre_i ?hc ?_; case hc => first | exact (show planOK _ _ _ = true from by kernel_rfl) | assumption | omega | (unfold fits; omega) | decide +kernel | (constructor <;> first | assumption | omega) | (simp only [off_addO, tysz, off, offE] <;> omega) | (simp only [lens, off_addO, off, offE] <;> omega) | (simp only [off_addO, tysz, lens, off, offE] <;> omega) | (constructor <;> first | assumption | (simp only [off_addO, tysz, lens, off, offE] <;> omega))) | (refine cond_t ?hc ?_; case hc => first | rfl | assumption | (rw [decide_eq_true_eq]; omega) | (rw [decide_eq_false_iff_not]; omega) | (simp <;> omega)) | (refine cond_f ?hc ?_; case hc => first | rfl | assumption | (rw [decide_eq_true_eq]; omega) | (rw [decide_eq_false_iff_not]; omega) | (simp <;> omega)) | refine same_i ?_)
          conv => whnf
          refine same_q (by rw [cpSt_t h1]; rfl) ?_
          repeat ((conv => whnf); first | (refine pre_i ?hc ?_; case hc => first | exact (show planOK _ _ _ = true from by kernel_rfl) | assumption | omega | (unfold fits; omega) | decide +kernel | (constructor <;> first | assumption | omega) | (simp only [off_addO, tysz, off, offE] <;> omega) | (simp only [lens, off_addO, off, offE] <;> omega) | (simp only [off_addO, tysz, lens, off, offE] <;> omega) | (constructor <;> first | assumption | (simp only [off_addO, tysz, lens, off, offE] <;> omega))) | (refine cond_t ?hc ?_; case hc => first | rfl | assumption | (rw [decide_eq_true_eq]; omega) | (rw [decide_eq_false_iff_not]; omega) | (simp <;> omega)) | (refine cond_f ?hc ?_; case hc => first | rfl | assumption | (rw [decide_eq_true_eq]; omega) | (rw [decide_eq_false_iff_not]; omega) | (simp <;> omega)) | refine same_i ?_)
          exact trivial
      · repeat ((conv => whnf); first | (refine pre_i ?hc ?_; case hc => first | exact (show planOK _ _ _ = true from by kernel_rfl) | assumption | omega | (unfold fits; omega) | decide +kernel | (constructor <;> first | assumption | omega) | (simp only [off_addO, tysz, off, offE] <;> omega) | (simp only [lens, off_addO, off, offE] <;> omega) | (simp only [off_addO, tysz, lens, off, offE] <;> omega) | (constructor <;> first | assumption | (simp only [off_addO, tysz, lens, off, offE] <;> omega))) | (refine cond_t ?hc ?_; case hc => first | rfl | assumption | (rw [decide_eq_true_eq]; omega) | (rw [decide_eq_false_iff_not]; omega) | (simp <;> omega)) | (refine cond_f ?hc ?_; case hc => first | rfl | assumption | (rw [decide_eq_true_eq]; omega) | (rw [decide_eq_false_iff_not]; omega) | (simp <;> omega)) | refine same_i ?_)
        conv => whnf
        refine ⟨⟨q.i + 1, h4⟩, [0, 1, 2], ?_, ?_⟩
        · show 32 - (q.i + 1) < 32 - q.i
          omega
        · repeat ((conv => whnf); first | (refine pre_i ?hc ?_; case hc => first | exact (show planOK _ _ _ = true from by kernel_rfl) | assumption | omega | (unfold fits; omega) | decide +kernel | (constructor <;> first | assumption | omega) | (simp only [off_addO, tysz, off, offE] <;> omega) | (simp only [lens, off_addO, off, offE] <;> omega) | (simp only [off_addO, tysz, lens, off, offE] <;> omega) | (constructor <;> first | assumption | (simp only [off_addO, tysz, lens, off, offE] <;> omega))) | (refine cond_t ?hc ?_; case hc => first | rfl | assumption | (rw [decide_eq_true_eq]; omega) | (rw [decide_eq_false_iff_not]; omega) | (simp <;> omega)) | (refine cond_f ?hc ?_; case hc => first | rfl | assumption | (rw [decide_eq_true_eq]; omega) | (rw [decide_eq_false_iff_not]; omega) | (simp <;> omega)) | refine same_i ?_)
          conv => whnf
          refine same_q (by rw [cpSt_f h1]; rfl) ?_
          repeat ((conv => whnf); first | (refine pre_i ?hc ?_; case hc => first | exact (show planOK _ _ _ = true from by kernel_rfl) | assumption | omega | (unfold fits; omega) | decide +kernel | (constructor <;> first | assumption | omega) | (simp only [off_addO, tysz, off, offE] <;> omega) | (simp only [lens, off_addO, off, offE] <;> omega) | (simp only [off_addO, tysz, lens, off, offE] <;> omega) | (constructor <;> first | assumption | (simp only [off_addO, tysz, lens, off, offE] <;> omega))) | (refine cond_t ?hc ?_; case hc => first | rfl | assumption | (rw [decide_eq_true_eq]; omega) | (rw [decide_eq_false_iff_not]; omega) | (simp <;> omega)) | (refine cond_f ?hc ?_; case hc => first | rfl | assumption | (rw [decide_eq_true_eq]; omega) | (rw [decide_eq_false_iff_not]; omega) | (simp <;> omega)) | refine same_i ?_)
          exact trivial
    · have e4 : q.i = 32 := by omega
      rw [e4] at hlx
      have ta : List.take 32 (List.drop (off []) (cpSt x 32)) = cpSt x 32 := List.take_of_length_le (Nat.le_of_eq hlx)
      rw [e4, ffSt_all]
      generalize cpSt x 32 = A at *
      have hN : (UInt64.ofInt z % UInt64.ofNat 19).toNat < 19 := by
        rw [UInt64.toNat_mod]; exact Nat.mod_lt _ (by decide)
      have hlt : (UInt64.ofInt z % UInt64.ofNat 19).toNat < 9223372036854775808 := by omega
      repeat ((conv => whnf); first | (refine pre_i ?hc ?_; case hc => first | exact (show planOK _ _ _ = true from by kernel_rfl) | assumption | omega | (unfold fits; omega) | decide +kernel | (constructor <;> first | assumption | omega) | (simp only [off_addO, tysz, off, offE] <;> omega) | (simp only [lens, off_addO, off, offE] <;> omega) | (simp only [off_addO, tysz, lens, off, offE] <;> omega) | (constructor <;> first | assumption | (simp only [off_addO, tysz, lens, off, offE] <;> omega))) | (refine cond_t ?hc ?_; case hc => first | rfl | assumption | (rw [decide_eq_true_eq]; omega) | (rw [decide_eq_false_iff_not]; omega) | (simp <;> omega)) | (refine cond_f ?hc ?_; case hc => first | rfl | assumption | (rw [decide_eq_true_eq]; omega) | (rw [decide_eq_false_iff_not]; omega) | (simp <;> omega)) | refine same_i ?_)
      conv => whnf
      generalize hn2 : (UInt64.ofInt z % UInt64.ofNat 19).toNat = N' at *
      obtain ⟨B, hB⟩ : ∃ B, B = (List.replicate 32 0).set 0 (UInt8.ofInt ((N' : Nat) : Int)) := ⟨_, rfl⟩
      obtain ⟨C, hC⟩ : ∃ C, C = ((List.replicate 32 255).set 0 (UInt8.ofInt (237 + ((N' : Nat) : Int)))).set 31 (UInt8.ofNat 127) := ⟨_, rfl⟩
      have hlB : B.length = 32 := by rw [hB, List.length_set, List.length_replicate]
      have hlC : C.length = 32 := by rw [hC, List.length_set, List.length_set, List.length_replicate]
      have tB : List.take 32 (List.drop (off []) ((List.replicate 32 0).set (off (addO [] (Int.toNat 0) ty5.sz)) (UInt8.ofInt ((N' : Nat) : Int)))) = B := by
        rw [hB]; exact List.take_of_length_le (by rw [List.length_drop, List.length_set, List.length_replicate]; decide)
      have tC : List.take 32 (List.drop (off []) (((List.replicate 32 255).set (off (addO [] (Int.toNat 0) ty5.sz)) (UInt8.ofInt (237 + ((N' : Nat) : Int)))).set (off (addO [] (Int.toNat 31) ty5.sz)) (UInt8.ofNat 127))) = C := by
        rw [hC]; exact List.take_of_length_le (by rw [List.length_drop, List.length_set, List.length_set, List.length_replicate]; decide)
      have hS : sharedV A C = sharedV A B := by
        unfold sharedV
        rw [hB, hC, reduced_pt N' hN]
      have d1 : decide (A.length = 32 ∧ B.length = 32) = true := decide_eq_true ⟨hlx, hlB⟩
      have d2 : decide (A.length = 32 ∧ C.length = 32) = true := decide_eq_true ⟨hlx, hlC⟩
      have d3 : decide ((A ++ [120]).length = 32) = false := decide_eq_false (fun h => by rw [List.length_append, hlx] at h; exact absurd h (by decide))
      have d6 : decide ((beB 32 (sharedV A B)).reverse = (beB 32 (sharedV A C)).reverse) = true := decide_eq_true (by rw [hS])
      generalize hV : decide (sharedV A B = 0) = c
      have hV2 : decide (sharedV A C = 0) = c := by rw [hS]; exact hV
      rw [ta, tB]
      cases c
      all_goals
        repeat ((conv => whnf); first | (refine pre_i ?hc ?_; case hc => first | exact (show planOK _ _ _ = true from by kernel_rfl) | assumption | omega | (unfold fits; omega) | decide +kernel | (constructor <;> first | assumption | omega) | (simp only [off_addO, tysz, off, offE] <;> omega) | (simp only [lens, off_addO, off, offE] <;> omega) | (simp only [off_addO, tysz, lens, off, offE] <;> omega) | (constructor <;> first | assumption | (simp only [off_addO, tysz, lens, off, offE] <;> omega))) | (refine cond_t ?hc ?_; case hc => first | rfl | assumption | (rw [decide_eq_true_eq]; omega) | (rw [decide_eq_false_iff_not]; omega) | (simp <;> omega) | exact d1 | exact hV) | (refine cond_f ?hc ?_; case hc => first | rfl | assumption | (rw [decide_eq_true_eq]; omega) | (rw [decide_eq_false_iff_not]; omega) | (simp <;> omega) | exact d1 | exact hV) | refine same_i ?_)
        conv => whnf
        rw [ta, tC]
        repeat ((conv => whnf); first | (refine pre_i ?hc ?_; case hc => first | exact (show planOK _ _ _ = true from by kernel_rfl) | assumption | omega | (unfold fits; omega) | decide +kernel | (constructor <;> first | assumption | omega) | (simp only [off_addO, tysz, off, offE] <;> omega) | (simp only [lens, off_addO, off, offE] <;> omega) | (simp only [off_addO, tysz, lens, off, offE] <;> omega) | (constructor <;> first | assumption | (simp only [off_addO, tysz, lens, off, offE] <;> omega))) | (refine cond_t ?hc ?_; case hc => first | rfl | assumption | (rw [decide_eq_true_eq]; omega) | (rw [decide_eq_false_iff_not]; omega) | (simp <;> omega) | exact d2 | exact hV2) | (refine cond_f ?hc ?_; case hc => first | rfl | assumption | (rw [decide_eq_true_eq]; omega) | (rw [decide_eq_false_iff_not]; omega) | (simp <;> omega) | exact d2 | exact hV2) | refine same_i ?_)
        conv => whnf
        rw [ta]
        repeat ((conv => whnf); first | (refine pre_i ?hc ?_; case hc => first | exact (show planOK _ _ _ = true from by kernel_rfl) | assumption | omega | (unfold fits; omega) | decide +kernel | (constructor <;> first | assumption | omega) | (simp only [off_addO, tysz, off, offE] <;> omega) | (simp only [lens, off_addO, off, offE] <;> omega) | (simp only [off_addO, tysz, lens, off, offE] <;> omega) | (constructor <;> first | assumption | (simp only [off_addO, tysz, lens, off, offE] <;> omega))) | (refine cond_t ?hc ?_; case hc => first | rfl | assumption | (rw [decide_eq_true_eq]; omega) | (rw [decide_eq_false_iff_not]; omega) | (simp <;> omega) | exact d3 | exact d6 | (rw [d6]; rfl)) | (refine cond_f ?hc ?_; case hc => first | rfl | assumption | (rw [decide_eq_true_eq]; omega) | (rw [decide_eq_false_iff_not]; omega) | (simp <;> omega) | exact d3 | exact d6 | (rw [d6]; rfl)) | refine same_i ?_)
        conv => whnf
        refine final_h (hp' := []) [] rfl ?_
        repeat ((conv => whnf); first | (refine pre_i ?hc ?_; case hc => first | exact (show planOK _ _ _ = true from by kernel_rfl) | assumption | omega | (unfold fits; omega) | decide +kernel | (constructor <;> first | assumption | omega) | (simp only [off_addO, tysz, off, offE] <;> omega) | (simp only [lens, off_addO, off, offE] <;> omega) | (simp only [off_addO, tysz, lens, off, offE] <;> omega) | (constructor <;> first | assumption | (simp only [off_addO, tysz, lens, off, offE] <;> omega))) | (refine cond_t ?hc ?_; case hc => first | rfl | assumption | (rw [decide_eq_true_eq]; omega) | (rw [decide_eq_false_iff_not]; omega) | (simp <;> omega)) | (refine cond_f ?hc ?_; case hc => first | rfl | assumption | (rw [decide_eq_true_eq]; omega) | (rw [decide_eq_false_iff_not]; omega) | (simp <;> omega)) | refine same_i ?_)
        exact trivial
theorem xcurveReduced_end (w : World) (x : List UInt8) (_ : x.length ≤ 140737488351232) (z : Int) (_ : -9223372036854775808 ≤ z ∧ z ≤ 9223372036854775807) :
    fnVC (lawG f13.ntmps tys lawFnX w []) pl13 (codeOf f13) f13.results.toList [.str x, .int z] [] (fun r _ => r = .bool true) := xcurveReduced_vc w x z
end Go.Sym.N

/-
  A complete curve over the field of 2^255 - 19: its sums make a group; the ladder's formulas over it. Plain laws. No program in sight; no condition beyond each lemma's own.
-/
namespace Go.Sym.Ed
open Go.Sym

abbrev F := Fin 57896044618658097711785492504343953926634992332820282019728792003956564819949
def pX : Nat := 57896044618658097711785492504343953926634992332820282019728792003956564819949
def d : F := 20800338683988658368647408995589388737092878452977063003340006470870624536394
theorem d_eq : 121666 * d = 121665 := by decide +kernel

theorem mul0 {a b : F} (h : a * b = 0) : a = 0 ∨ b = 0 := by
  have h1 : (a * b).val = 0 := by rw [h]; rfl
  rw [Fin.val_mul] at h1
  rcases Pr.euclid Pr.isP_X (Nat.dvd_of_mod_eq_zero h1) with h2 | h2
  · left; apply Fin.ext; exact Nat.eq_zero_of_dvd_of_lt h2 a.isLt
  · right; apply Fin.ext; exact Nat.eq_zero_of_dvd_of_lt h2 b.isLt
theorem mul_ne {a b : F} (ha : a ≠ 0) (hb : b ≠ 0) : a * b ≠ 0 := fun h => (mul0 h).elim ha hb
theorem inv_ex {a : F} (h : a ≠ 0) : ∃ b : F, a * b = 1 := by
  have hn : ¬ pX ∣ a.val := fun hd => h (Fin.ext (Nat.eq_zero_of_dvd_of_lt hd a.isLt))
  have hf : a.val ^ (pX - 1) % pX = 1 := Pr.fermat Pr.isP_X hn
  obtain ⟨k, hk⟩ : ∃ k, k + 1 = pX - 1 := ⟨pX - 2, by decide⟩
  rw [← hk] at hf
  clear hk
  refine ⟨Fin.ofNat _ (a.val ^ k), Fin.ext ?_⟩
  rw [Fin.val_mul, Fin.val_ofNat, Nat.mul_mod_mod, ← Nat.pow_succ']
  exact hf
open Classical in
noncomputable def inv (a : F) : F := if h : a ≠ 0 then (inv_ex h).choose else 0
theorem mul_inv {a : F} (h : a ≠ 0) : a * inv a = 1 := by
  unfold inv; rw [dif_pos h]; exact (inv_ex h).choose_spec
theorem cancel {a b c : F} (h : a ≠ 0) (e : a * b = a * c) : b = c := by
  have : a * (b - c) = 0 := by grobner
  rcases mul0 this with h1 | h1
  · exact absurd h1 h
  · grobner
/-- d is no square -/
theorem d_nonsquare (s : F) : s * s ≠ d := by
  intro h
  have hs : s ≠ 0 := fun e => by rw [e] at h; exact absurd h (by decide +kernel)
  have hn : ¬ pX ∣ s.val := fun hd => hs (Fin.ext (Nat.eq_zero_of_dvd_of_lt hd s.isLt))
  have hf : s.val ^ (pX - 1) % pX = 1 := Pr.fermat Pr.isP_X hn
  have hv : d.val = s.val * s.val % pX := by rw [← h, Fin.val_mul]; rfl
  have e1 : d.val ^ ((pX - 1) / 2) % pX = pX - 1 := by
    rw [← Pr.pm_eq pX d.val 256 ((pX - 1) / 2) (by decide)]
    decide +kernel
  rw [hv, ← Nat.pow_mod, ← Nat.pow_two, ← Nat.pow_mul, show 2 * ((pX - 1) / 2) = pX - 1 by decide, hf] at e1
  exact absurd e1 (by decide)
theorem d_ne_one : (1 : F) - d ≠ 0 := by decide +kernel
theorem two_ne : (2 : F) ≠ 0 := by decide +kernel
theorem one_ne : (1 : F) ≠ 0 := by decide +kernel

/-- a point -/
structure Pt where
  x : F
  y : F
  on : x * x + y * y = 1 + d * (x * x) * (y * y)
theorem Pt.ext' {P Q : Pt} (hx : P.x = Q.x) (hy : P.y = Q.y) : P = Q := by
  cases P; cases Q; simp only at hx hy; subst hx; subst hy; rfl
/-- the denominators are never 0 -/
theorem complete {x1 y1 x2 y2 t : F} (e1 : x1 * x1 + y1 * y1 = 1 + d * (x1 * x1) * (y1 * y1)) (e2 : x2 * x2 + y2 * y2 = 1 + d * (x2 * x2) * (y2 * y2)) (ht : t = d * (x1 * x2) * (y1 * y2)) : t * t ≠ 1 := by
  intro h
  have k1 : (x1 + t * y1) * (x1 + t * y1) = d * ((x1 * y1 * (x2 + y2)) * (x1 * y1 * (x2 + y2))) := by subst ht; grobner
  have k2 : (x1 - t * y1) * (x1 - t * y1) = d * ((x1 * y1 * (x2 - y2)) * (x1 * y1 * (x2 - y2))) := by subst ht; grobner
  have sq : ∀ a b : F, a * a = d * (b * b) → b = 0 := fun a b hab => by
    by_cases hb : b = 0
    · exact hb
    · exfalso
      have hi := mul_inv hb
      refine d_nonsquare (a * inv b) ?_
      grobner
  have z1 := sq _ _ k1
  have z2 := sq _ _ k2
  have t0 : t = 0 → False := fun e => by rw [e] at h; exact absurd h (by decide +kernel)
  rcases mul0 z1 with h1 | h1
  · exact t0 (by rw [ht]; grobner)
  · rcases mul0 z2 with h2 | h2
    · exact t0 (by rw [ht]; grobner)
    · have h3 : 2 * x2 = 0 := by grobner
      rcases mul0 h3 with h4 | h4
      · exact two_ne h4
      · exact t0 (by rw [ht, h4]; grobner)
theorem den_p {x1 y1 x2 y2 : F} (e1 : x1 * x1 + y1 * y1 = 1 + d * (x1 * x1) * (y1 * y1)) (e2 : x2 * x2 + y2 * y2 = 1 + d * (x2 * x2) * (y2 * y2)) : 1 + d * (x1 * x2) * (y1 * y2) ≠ 0 := by
  intro h
  exact complete e1 e2 rfl (by grobner)
theorem den_m {x1 y1 x2 y2 : F} (e1 : x1 * x1 + y1 * y1 = 1 + d * (x1 * x1) * (y1 * y1)) (e2 : x2 * x2 + y2 * y2 = 1 + d * (x2 * x2) * (y2 * y2)) : 1 - d * (x1 * x2) * (y1 * y2) ≠ 0 := by
  intro h
  exact complete e1 e2 rfl (by grobner)
theorem closed_num {x1 y1 x2 y2 s c t : F} (e1 : x1*x1 + y1*y1 = 1 + d*(x1*x1)*(y1*y1)) (e2 : x2*x2 + y2*y2 = 1 + d*(x2*x2)*(y2*y2)) (h1 : s = x1*y2+y1*x2) (h2 : c = y1*y2-x1*x2) (h3 : t = d*(x1*x2)*(y1*y2)) :
   s*s*((1-t)*(1-t)) + c*c*((1+t)*(1+t)) = (1-t*t)*(1-t*t) + d*(s*s)*(c*c) := by
  subst h1 h2 h3
  grobner
theorem closed {x1 y1 x2 y2 x y : F} (e1 : x1*x1 + y1*y1 = 1 + d*(x1*x1)*(y1*y1)) (e2 : x2*x2 + y2*y2 = 1 + d*(x2*x2)*(y2*y2))
    (hx : x * (1 + d * (x1 * x2) * (y1 * y2)) = x1 * y2 + y1 * x2) (hy : y * (1 - d * (x1 * x2) * (y1 * y2)) = y1 * y2 - x1 * x2) : x * x + y * y = 1 + d * (x * x) * (y * y) := by
  have hp := den_p e1 e2
  have hm := den_m e1 e2
  have k := closed_num e1 e2 rfl rfl rfl
  rw [← hx, ← hy] at k
  generalize d * (x1 * x2) * (y1 * y2) = t at *
  have hD : (1 + t) * (1 - t) ≠ 0 := mul_ne hp hm
  refine cancel (mul_ne hD hD) ?_
  clear hp hm hD e1 e2 hx hy
  grobner
noncomputable def add (P Q : Pt) : Pt :=
  ⟨(P.x * Q.y + P.y * Q.x) * inv (1 + d * (P.x * Q.x) * (P.y * Q.y)), (P.y * Q.y - P.x * Q.x) * inv (1 - d * (P.x * Q.x) * (P.y * Q.y)), by
    have hp := mul_inv (den_p P.on Q.on)
    have hm := mul_inv (den_m P.on Q.on)
    refine closed P.on Q.on ?_ ?_
    · generalize inv (1 + d * (P.x * Q.x) * (P.y * Q.y)) = i at *
      grobner
    · generalize inv (1 - d * (P.x * Q.x) * (P.y * Q.y)) = i at *
      grobner⟩
theorem add_x (P Q : Pt) : (add P Q).x * (1 + d * (P.x * Q.x) * (P.y * Q.y)) = P.x * Q.y + P.y * Q.x := by
  have hp := mul_inv (den_p P.on Q.on)
  unfold add
  simp only
  generalize inv (1 + d * (P.x * Q.x) * (P.y * Q.y)) = i at *
  grobner
theorem add_y (P Q : Pt) : (add P Q).y * (1 - d * (P.x * Q.x) * (P.y * Q.y)) = P.y * Q.y - P.x * Q.x := by
  have hm := mul_inv (den_m P.on Q.on)
  unfold add
  simp only
  generalize inv (1 - d * (P.x * Q.x) * (P.y * Q.y)) = i at *
  grobner
/-- what a sum is, told by its denominators -/
theorem add_is {P Q R : Pt} (hx : R.x * (1 + d * (P.x * Q.x) * (P.y * Q.y)) = P.x * Q.y + P.y * Q.x) (hy : R.y * (1 - d * (P.x * Q.x) * (P.y * Q.y)) = P.y * Q.y - P.x * Q.x) : add P Q = R := by
  have hp := den_p P.on Q.on
  have hm := den_m P.on Q.on
  have ax := add_x P Q
  have ay := add_y P Q
  refine Pt.ext' (cancel hp ?_) (cancel hm ?_)
  · grobner
  · grobner
theorem add_comm (P Q : Pt) : add P Q = add Q P := by
  have ax := add_x Q P
  have ay := add_y Q P
  refine add_is ?_ ?_
  · grobner
  · grobner
theorem assocX {x1 y1 x2 y2 x3 y3 : F} (e1 : x1*x1 + y1*y1 = 1 + d*(x1*x1)*(y1*y1)) (e2 : x2*x2 + y2*y2 = 1 + d*(x2*x2)*(y2*y2)) (e3 : x3*x3 + y3*y3 = 1 + d*(x3*x3)*(y3*y3))
  {s12 c12 t12 s23 c23 t23 : F} (h1 : s12 = x1*y2+y1*x2) (h2 : c12 = y1*y2-x1*x2) (h3 : t12 = d*(x1*x2)*(y1*y2)) (h4 : s23 = x2*y3+y2*x3) (h5 : c23 = y2*y3-x2*x3) (h6 : t23 = d*(x2*x3)*(y2*y3)) :
  (s12*(1-t12)*y3 + c12*(1+t12)*x3) * ((1-t23*t23) + d*(x1*y1)*(s23*c23)) = (x1*(c23*(1+t23)) + y1*(s23*(1-t23))) * ((1-t12*t12)+d*(s12*c12)*(x3*y3)) := by
  subst h1 h2 h3 h4 h5 h6
  grobner
theorem assocY {x1 y1 x2 y2 x3 y3 : F} (e1 : x1*x1 + y1*y1 = 1 + d*(x1*x1)*(y1*y1)) (e2 : x2*x2 + y2*y2 = 1 + d*(x2*x2)*(y2*y2)) (e3 : x3*x3 + y3*y3 = 1 + d*(x3*x3)*(y3*y3))
  {s12 c12 t12 s23 c23 t23 : F} (h1 : s12 = x1*y2+y1*x2) (h2 : c12 = y1*y2-x1*x2) (h3 : t12 = d*(x1*x2)*(y1*y2)) (h4 : s23 = x2*y3+y2*x3) (h5 : c23 = y2*y3-x2*x3) (h6 : t23 = d*(x2*x3)*(y2*y3)) :
  (c12*(1+t12)*y3 - s12*(1-t12)*x3) * ((1-t23*t23) - d*(x1*y1)*(s23*c23)) = (y1*(c23*(1+t23)) - x1*(s23*(1-t23))) * ((1-t12*t12)-d*(s12*c12)*(x3*y3)) := by
  subst h1 h2 h3 h4 h5 h6
  grobner
/-- a sum of a sum: its denominator told by the first terms -/
theorem up_x {ax ay t s c X x3 y3 : F} (hax : ax * (1 + t) = s) (hay : ay * (1 - t) = c) (hX : X * (1 + d * (ax * x3) * (ay * y3)) = ax * y3 + ay * x3) :
    X * ((1 - t * t) + d * (s * c) * (x3 * y3)) = s * (1 - t) * y3 + c * (1 + t) * x3 := by
  subst hax hay; grobner
theorem up_y {ax ay t s c Y x3 y3 : F} (hax : ax * (1 + t) = s) (hay : ay * (1 - t) = c) (hY : Y * (1 - d * (ax * x3) * (ay * y3)) = ay * y3 - ax * x3) :
    Y * ((1 - t * t) - d * (s * c) * (x3 * y3)) = c * (1 + t) * y3 - s * (1 - t) * x3 := by
  subst hax hay; grobner
theorem up_p {ax ay t s c x3 y3 : F} (hax : ax * (1 + t) = s) (hay : ay * (1 - t) = c) (hp : 1 + t ≠ 0) (hm : 1 - t ≠ 0) (h : 1 + d * (ax * x3) * (ay * y3) ≠ 0) : (1 - t * t) + d * (s * c) * (x3 * y3) ≠ 0 := by
  have : (1 - t * t) + d * (s * c) * (x3 * y3) = (1 + t) * (1 - t) * (1 + d * (ax * x3) * (ay * y3)) := by subst hax hay; grobner
  rw [this]; exact mul_ne (mul_ne hp hm) h
theorem up_m {ax ay t s c x3 y3 : F} (hax : ax * (1 + t) = s) (hay : ay * (1 - t) = c) (hp : 1 + t ≠ 0) (hm : 1 - t ≠ 0) (h : 1 - d * (ax * x3) * (ay * y3) ≠ 0) : (1 - t * t) - d * (s * c) * (x3 * y3) ≠ 0 := by
  have : (1 - t * t) - d * (s * c) * (x3 * y3) = (1 + t) * (1 - t) * (1 - d * (ax * x3) * (ay * y3)) := by subst hax hay; grobner
  rw [this]; exact mul_ne (mul_ne hp hm) h
theorem meet {L R a b m n : F} (h1 : L * a = m) (h2 : R * b = n) (ha : a ≠ 0) (hb : b ≠ 0) (k : m * b = n * a) : L = R := by
  refine cancel (mul_ne ha hb) ?_
  subst h1 h2; grobner
theorem add_assoc (P Q R : Pt) : add (add P Q) R = add P (add Q R) := by
  have n1p := den_p P.on Q.on
  have n1m := den_m P.on Q.on
  have n2p := den_p Q.on R.on
  have n2m := den_m Q.on R.on
  have rx0 := add_x (add Q R) P
  have ry0 := add_y (add Q R) P
  rw [← add_comm P] at rx0 ry0
  have lx := up_x (add_x P Q) (add_y P Q) (add_x (add P Q) R)
  have ly := up_y (add_x P Q) (add_y P Q) (add_y (add P Q) R)
  have rx := up_x (add_x Q R) (add_y Q R) rx0
  have ry := up_y (add_x Q R) (add_y Q R) ry0
  have nlp := up_p (add_x P Q) (add_y P Q) n1p n1m (den_p (add P Q).on R.on)
  have nlm := up_m (add_x P Q) (add_y P Q) n1p n1m (den_m (add P Q).on R.on)
  have nrp := up_p (add_x Q R) (add_y Q R) n2p n2m (den_p (add Q R).on P.on)
  have nrm := up_m (add_x Q R) (add_y Q R) n2p n2m (den_m (add Q R).on P.on)
  have kx := assocX P.on Q.on R.on rfl rfl rfl rfl rfl rfl
  have ky := assocY P.on Q.on R.on rfl rfl rfl rfl rfl rfl
  refine Pt.ext' (meet lx rx nlp nrp ?_) (meet ly ry nlm nrm ?_)
  · generalize d * (P.x * Q.x) * (P.y * Q.y) = t12 at *
    generalize d * (Q.x * R.x) * (Q.y * R.y) = t23 at *
    generalize P.x * Q.y + P.y * Q.x = s12 at *
    generalize P.y * Q.y - P.x * Q.x = c12 at *
    generalize Q.x * R.y + Q.y * R.x = s23 at *
    generalize Q.y * R.y - Q.x * R.x = c23 at *
    clear lx ly rx ry nlp nlm nrp nrm ky rx0 ry0 n1p n1m n2p n2m
    grobner
  · generalize d * (P.x * Q.x) * (P.y * Q.y) = t12 at *
    generalize d * (Q.x * R.x) * (Q.y * R.y) = t23 at *
    generalize P.x * Q.y + P.y * Q.x = s12 at *
    generalize P.y * Q.y - P.x * Q.x = c12 at *
    generalize Q.x * R.y + Q.y * R.x = s23 at *
    generalize Q.y * R.y - Q.x * R.x = c23 at *
    clear lx ly rx ry nlp nlm nrp nrm kx rx0 ry0 n1p n1m n2p n2m
    grobner
/-! ### the group -/
def O : Pt := ⟨0, 1, by decide +kernel⟩
def neg (P : Pt) : Pt := ⟨-P.x, P.y, by have := P.on; grobner⟩
theorem add_O (P : Pt) : add P O = P := by
  refine add_is ?_ ?_
  · show P.x * (1 + d * (P.x * 0) * (P.y * 1)) = P.x * 1 + P.y * 0
    grobner
  · show P.y * (1 - d * (P.x * 0) * (P.y * 1)) = P.y * 1 - P.x * 0
    grobner
theorem O_add (P : Pt) : add O P = P := by rw [add_comm, add_O]
theorem add_neg (P : Pt) : add P (neg P) = O := by
  have h := P.on
  refine add_is ?_ ?_
  · show (0 : F) * (1 + d * (P.x * (-P.x)) * (P.y * P.y)) = P.x * P.y + P.y * (-P.x)
    grobner
  · show (1 : F) * (1 - d * (P.x * (-P.x)) * (P.y * P.y)) = P.y * P.y - P.x * (-P.x)
    grobner
/-- so many times a point -/
noncomputable def mul (P : Pt) : Nat → Pt
  | 0 => O
  | n + 1 => add (mul P n) P
theorem mul_add (P : Pt) (m : Nat) : ∀ n, mul P (m + n) = add (mul P m) (mul P n)
  | 0 => (add_O _).symm
  | n + 1 => by
    show add (mul P (m + n)) P = add (mul P m) (add (mul P n) P)
    rw [mul_add P m n, add_assoc]
theorem mul_O : ∀ n, mul O n = O
  | 0 => rfl
  | n + 1 => by show add (mul O n) O = O; rw [mul_O n, add_O]
theorem mul_one (P : Pt) : mul P 1 = P := O_add P
theorem mul_mul (P : Pt) (m : Nat) : ∀ n, mul (mul P m) n = mul P (m * n)
  | 0 => rfl
  | n + 1 => by
    show add (mul (mul P m) n) (mul P m) = mul P (m * (n + 1))
    rw [mul_mul P m n, Nat.mul_succ, mul_add]
theorem sub_mul (P : Pt) (m : Nat) : ∀ n, add (mul P (m + n)) (neg (mul P n)) = mul P m := fun n => by
  rw [mul_add, add_assoc, add_neg, add_O]
theorem sub_mul' (P : Pt) (n : Nat) : add (mul P n) (neg (mul P (n + 1))) = neg P := by
  have h : add (add (mul P n) (neg (mul P (n + 1)))) P = O := by
    rw [add_assoc, add_comm (neg _) P, ← add_assoc]
    show add (mul P (n + 1)) (neg (mul P (n + 1))) = O
    rw [add_neg]
  have h2 : add (add (add (mul P n) (neg (mul P (n + 1)))) P) (neg P) = add O (neg P) := by rw [h]
  rw [add_assoc, add_neg, add_O, O_add] at h2
  exact h2
end Go.Sym.Ed

/-
  The ladder's formulas at points of the complete curve. Plain laws. No program in sight; no condition beyond each lemma's own.
-/
namespace Go.Sym.Ed
open Go.Sym

/-- X and Z tell the point's u -/
def Rep (X Z : F) (P : Pt) : Prop := ∃ l : F, l ≠ 0 ∧ X = l * (1 + P.y) ∧ Z = l * (1 - P.y)
theorem rep_none {X Z : F} {P : Pt} (h : Rep X Z P) : Z = 0 → P.y = 1 := by
  obtain ⟨l, hl, _, hz⟩ := h
  intro e
  rw [e] at hz
  rcases mul0 hz.symm with h1 | h1
  · exact absurd h1 hl
  · grobner
theorem y_one {P : Pt} (h : P.y = 1) : P = O := by
  have e := P.on
  rw [h] at e
  refine Pt.ext' ?_ h
  show P.x = 0
  have : (1 - d) * (P.x * P.x) = 0 := by grobner
  rcases mul0 this with h1 | h1
  · exact absurd h1 d_ne_one
  · rcases mul0 h1 with h2 | h2 <;> exact h2
/-- a point over the one of order 2 doubled is none -/
theorem y_minus {P : Pt} (h : P.y = -1) : add P P = O := by
  have e := P.on
  rw [h] at e
  have : (1 - d) * (P.x * P.x) = 0 := by grobner
  have hx : P.x = 0 := by
    rcases mul0 this with h1 | h1
    · exact absurd h1 d_ne_one
    · rcases mul0 h1 with h2 | h2 <;> exact h2
  refine add_is ?_ ?_
  · show (0 : F) * _ = _
    rw [h, hx]; grobner
  · show (1 : F) * _ = _
    rw [h, hx]; grobner
theorem k16_ne : (16 : F) ≠ 0 := by decide +kernel
theorem k8_ne : (8 : F) * 121666 ≠ 0 := by decide +kernel
theorem dy_ne (P : Pt) : 1 - d * (P.y * P.y) ≠ 0 := by
  intro h
  have e := P.on
  have h2 : P.y * P.y = 1 := by grobner
  rw [h2] at h
  exact d_ne_one (by grobner)
/-- the double -/
theorem rep_dbl {X Z A B AA BB E : F} {P : Pt} (h : Rep X Z P) (hA : A = X + Z) (hB : B = X - Z) (hAA : AA = A * A) (hBB : BB = B * B) (hE : E = AA - BB) : Rep (AA * BB) (E * (AA + 121665 * E)) (add P P) := by
  obtain ⟨l, hl, hx, hz⟩ := h
  have hy := add_y P P
  have hm := den_m P.on P.on
  have hd := d_eq
  have on := P.on
  have k : P.y * P.y = 121666 * ((1 - d * (P.y * P.y)) * (1 - P.x * P.x)) := by grobner
  have k2 : d * (P.x * P.x) * (P.y * P.y) = P.x * P.x + P.y * P.y - 1 := by grobner
  have k3 : 1 + 121665 * (1 - P.y * P.y) = 121666 * (1 - d * (P.y * P.y)) := by grobner
  have hAv : A = 2 * l := by rw [hA, hx, hz]; grobner
  have hBv : B = 2 * l * P.y := by rw [hB, hx, hz]; grobner
  have hdy := dy_ne P
  refine ⟨8 * 121666 * (l * l * (l * l)) * (1 - d * (P.y * P.y)) * (1 - d * (P.x * P.x) * (P.y * P.y)), ?_, ?_, ?_⟩
  · exact mul_ne (mul_ne (mul_ne k8_ne (mul_ne (mul_ne hl hl) (mul_ne hl hl))) hdy) hm
  · clear hdy hm hl hx hz hA hB k3 hd on hE
    generalize (add P P).y = Y at *
    generalize P.x = x at *
    generalize P.y = y at *
    have hY : (1 - d * (x * x) * (y * y)) * (1 + Y) = 2 * (1 - x * x) := by grobner
    have e1 : 8 * 121666 * (l * l * (l * l)) * (1 - d * (y * y)) * (1 - d * (x * x) * (y * y)) * (1 + Y) = 8 * 121666 * (l * l * (l * l)) * (1 - d * (y * y)) * ((1 - d * (x * x) * (y * y)) * (1 + Y)) := by grobner
    rw [e1, hY]
    subst hAA hBB hAv hBv
    clear hY hy k2
    generalize 1 - d * (y * y) = w at *
    grobner
  · clear hdy hm hl hx hz hA hB k on hd
    generalize (add P P).y = Y at *
    generalize P.x = x at *
    generalize P.y = y at *
    have hY : (1 - d * (x * x) * (y * y)) * (1 - Y) = 2 * (1 - y * y) := by grobner
    have e1 : 8 * 121666 * (l * l * (l * l)) * (1 - d * (y * y)) * (1 - d * (x * x) * (y * y)) * (1 - Y) = 8 * 121666 * (l * l * (l * l)) * (1 - d * (y * y)) * ((1 - d * (x * x) * (y * y)) * (1 - Y)) := by grobner
    rw [e1, hY]
    subst hAA hBB hE hAv hBv
    clear hY hy k2
    generalize 1 - d * (y * y) = w at *
    grobner
theorem diff_num {x1 y1 x2 y2 : F} (e1 : x1*x1 + y1*y1 = 1 + d*(x1*x1)*(y1*y1)) (e2 : x2*x2 + y2*y2 = 1 + d*(x2*x2)*(y2*y2)) :
    (y1 + y2) * (y1 + y2) * ((1 - d*(x1*x2)*(y1*y2)) - (y1*y2 - x1*x2)) * ((1 + d*(x1*x2)*(y1*y2)) - (y1*y2 + x1*x2)) =
    ((1 + d*(x1*x2)*(y1*y2)) + (y1*y2 + x1*x2)) * ((y1 - y2) * (y1 - y2) * ((1 - d*(x1*x2)*(y1*y2)) + (y1*y2 - x1*x2))) := by
  grobner
/-- the sum, where the difference's u is known -/
theorem rep_sum {X2 Z2 X3 Z3 u DA CB S T : F} {P Q : Pt} (hP : Rep X2 Z2 P) (hQ : Rep X3 Z3 Q) {D : F} (hD : (add Q (neg P)).y = D) (hu : u * (1 - D) = 1 + D) (d1 : D ≠ 1) (d2 : D ≠ -1)
    (hDA : DA = (X3 - Z3) * (X2 + Z2)) (hCB : CB = (X3 + Z3) * (X2 - Z2)) (hS : S = DA + CB) (hT : T = DA - CB) : Rep (S * S) (u * (T * T)) (add P Q) := by
  obtain ⟨l, hl, hx2, hz2⟩ := hP
  obtain ⟨k, hk, hx3, hz3⟩ := hQ
  have hy := add_y P Q
  have hdy : D * (1 + d * (P.x * Q.x) * (P.y * Q.y)) = P.y * Q.y + P.x * Q.x := by
    have h := add_y Q (neg P)
    rw [hD] at h
    have e1 : (neg P).x = -P.x := rfl
    have e2 : (neg P).y = P.y := rfl
    rw [e1, e2] at h
    clear hy hx2 hz2 hx3 hz3 hu hDA hCB hS hT
    grobner
  have hp := den_p P.on Q.on
  have hm := den_m P.on Q.on
  have num := diff_num P.on Q.on
  have on1 := P.on
  have on2 := Q.on
  have hSv : S = 4 * l * k * (P.y + Q.y) := by rw [hS, hDA, hCB, hx2, hz2, hx3, hz3]; clear hy hdy num on1 on2 hu hp hm; grobner
  have hTv : T = 4 * l * k * (Q.y - P.y) := by rw [hT, hDA, hCB, hx2, hz2, hx3, hz3]; clear hy hdy num on1 on2 hu hp hm; grobner
  generalize hYe : (add P Q).y = Y at *
  have d1' : 1 - D ≠ 0 := fun h => d1 (by clear num on1 on2; grobner)
  -- (y1 + y2)^2 (1 - Y) = u (y1 - y2)^2 (1 + Y)
  have key : (P.y + Q.y) * (P.y + Q.y) * (1 - Y) = u * ((P.y - Q.y) * (P.y - Q.y) * (1 + Y)) := by
    have hc : P.y * Q.y - P.x * Q.x = Y * (1 - d * (P.x * Q.x) * (P.y * Q.y)) := hy.symm
    have hc2 : P.y * Q.y + P.x * Q.x = D * (1 + d * (P.x * Q.x) * (P.y * Q.y)) := hdy.symm
    rw [hc, hc2] at num
    clear hc hc2 hy hdy on1 on2 hSv hTv hS hT hDA hCB hx2 hx3 hz2 hz3
    generalize d * (P.x * Q.x) * (P.y * Q.y) = t at *
    generalize P.y + Q.y = a at *
    generalize P.y - Q.y = b at *
    refine cancel (mul_ne (mul_ne hp hm) d1') ?_
    clear hp hm d1' d1 d2 hl hk
    have hn : (1 + t) * (1 - t) * ((a * a) * (1 - Y) * (1 - D)) = (1 + t) * (1 - t) * ((1 + D) * ((b * b) * (1 + Y))) := by grobner
    rw [← hu] at hn
    grobner
  have w1 : ((P.y + Q.y) * (P.y + Q.y) + u * ((P.y - Q.y) * (P.y - Q.y))) * (1 + Y) = 2 * ((P.y + Q.y) * (P.y + Q.y)) := by
    clear num on1 on2 hy hdy hSv hTv hS hT hDA hCB hx2 hx3 hz2 hz3 hu
    generalize P.y + Q.y = a at *
    generalize P.y - Q.y = b at *
    grobner
  have w2 : ((P.y + Q.y) * (P.y + Q.y) + u * ((P.y - Q.y) * (P.y - Q.y))) * (1 - Y) = 2 * (u * ((P.y - Q.y) * (P.y - Q.y))) := by
    clear num on1 on2 hy hdy hSv hTv hS hT hDA hCB hx2 hx3 hz2 hz3 hu
    generalize P.y + Q.y = a at *
    generalize P.y - Q.y = b at *
    grobner
  have wn : (P.y + Q.y) * (P.y + Q.y) + u * ((P.y - Q.y) * (P.y - Q.y)) ≠ 0 := by
    intro h
    rw [h] at w1 w2
    have z1 : 2 * ((P.y + Q.y) * (P.y + Q.y)) = 0 := by rw [← w1]; clear num on1 on2 hy hdy; grobner
    have z2 : 2 * (u * ((P.y - Q.y) * (P.y - Q.y))) = 0 := by rw [← w2]; clear num on1 on2 hy hdy; grobner
    have s1 : P.y + Q.y = 0 := by
      rcases mul0 z1 with h | h
      · exact absurd h two_ne
      · rcases mul0 h with h | h <;> exact h
    have un : u ≠ 0 := fun e => d2 (by rw [e] at hu; clear num on1 on2 hy hdy key w1 w2 z1 z2; grobner)
    have s2 : P.y - Q.y = 0 := by
      rcases mul0 z2 with h | h
      · exact absurd h two_ne
      · rcases mul0 h with h | h
        · exact absurd h un
        · rcases mul0 h with h | h <;> exact h
    have y1 : P.y = 0 := by
      have : 2 * P.y = 0 := by clear num on1 on2 hy hdy key w1 w2 z1 z2; grobner
      rcases mul0 this with h | h
      · exact absurd h two_ne
      · exact h
    have y2 : Q.y = 0 := by rw [y1] at s1; clear num on1 on2 hy hdy key w1 w2 z1 z2; grobner
    rw [y1, y2] at hdy
    rw [y1] at on1
    rw [y2] at on2
    have a1 : P.x * P.x = 1 := by clear num on2 hy hdy key w1 w2 z1 z2; grobner
    have a2 : Q.x * Q.x = 1 := by clear num on1 hy hdy key w1 w2 z1 z2; grobner
    have a3 : D = P.x * Q.x := by clear num on1 on2 hy key w1 w2 z1 z2 a1 a2; grobner
    have a4 : (D - 1) * (D - -1) = 0 := by rw [a3]; clear num on1 on2 hy hdy key w1 w2 z1 z2; grobner
    rcases mul0 a4 with h | h
    · exact d1 (by clear num on1 on2 hy hdy key w1 w2 z1 z2 a4; grobner)
    · exact d2 (by clear num on1 on2 hy hdy key w1 w2 z1 z2 a4; grobner)
  have k8 : (8 : F) ≠ 0 := by decide +kernel
  refine ⟨8 * (l * l * (k * k)) * ((P.y + Q.y) * (P.y + Q.y) + u * ((P.y - Q.y) * (P.y - Q.y))), mul_ne (mul_ne k8 (mul_ne (mul_ne hl hl) (mul_ne hk hk))) wn, ?_, ?_⟩
  · rw [hSv, hYe]
    have : 8 * (l * l * (k * k)) * ((P.y + Q.y) * (P.y + Q.y) + u * ((P.y - Q.y) * (P.y - Q.y))) * (1 + Y) = 8 * (l * l * (k * k)) * (((P.y + Q.y) * (P.y + Q.y) + u * ((P.y - Q.y) * (P.y - Q.y))) * (1 + Y)) := by
      clear num on1 on2 hy hdy key w1 w2 hu hSv hTv hS hT hDA hCB hx2 hx3 hz2 hz3
      grobner
    rw [this, w1]
    clear num on1 on2 hy hdy key w1 w2 hu hSv hTv hS hT hDA hCB hx2 hx3 hz2 hz3 this
    grobner
  · rw [hTv, hYe]
    have : 8 * (l * l * (k * k)) * ((P.y + Q.y) * (P.y + Q.y) + u * ((P.y - Q.y) * (P.y - Q.y))) * (1 - Y) = 8 * (l * l * (k * k)) * (((P.y + Q.y) * (P.y + Q.y) + u * ((P.y - Q.y) * (P.y - Q.y))) * (1 - Y)) := by
      clear num on1 on2 hy hdy key w1 w2 hu hSv hTv hS hT hDA hCB hx2 hx3 hz2 hz3
      grobner
    rw [this, w2]
    clear num on1 on2 hy hdy key w1 w2 hu hSv hTv hS hT hDA hCB hx2 hx3 hz2 hz3 this
    grobner
end Go.Sym.Ed

/-
  The ladder gives a point's multiples; two keys come to one secret. Plain laws. No program in sight; no condition beyond each lemma's own.
-/
namespace Go.Sym.Ed
open Go.Sym Go.Sym.Num Go.Sym.X

def fi (a : Nat) : F := Fin.ofNat _ (a * riOf (md 2))
def fn (a : Nat) : F := Fin.ofNat _ a
theorem md_pX : md 2 = pX := rfl
theorem val_fn (a : Nat) : (fn a).val = a % pX := rfl
theorem val_fi (a : Nat) : (fi a).val = a * riOf (md 2) % pX := rfl
theorem fn_mod (a : Nat) : fn (a % pX) = fn a := Fin.ext (by rw [val_fn, val_fn, Nat.mod_mod])
theorem fn_mul (a b : Nat) : fn (a * b) = fn a * fn b := Fin.ext (by rw [Fin.val_mul, val_fn, val_fn, val_fn]; exact Nat.mul_mod a b pX)
theorem fn_add (a b : Nat) : fn (a + b) = fn a + fn b := Fin.ext (by rw [Fin.val_add, val_fn, val_fn, val_fn]; exact Nat.add_mod a b pX)
theorem fi_fn (a : Nat) : fi a = fn a * fn (riOf (md 2)) := fn_mul _ _
theorem fn_self : fn pX = 0 := by decide +kernel
theorem fi_mo (a b : Nat) : fi (mo (md 2) a b) = fi a * fi b := by
  rw [fi_fn, fi_fn, fi_fn]
  have : fn (mo (md 2) a b) = fn a * fn b * fn (riOf (md 2)) := by
    unfold mo mont; rw [md_pX, fn_mod, fn_mul, fn_mul]
  rw [this]; grobner
theorem fi_fa (a b : Nat) : fi (fa (md 2) a b) = fi a + fi b := by
  rw [fi_fn, fi_fn, fi_fn]
  have : fn (fa (md 2) a b) = fn a + fn b := by unfold fa; rw [md_pX, fn_mod, fn_add]
  rw [this]; grobner
theorem fi_fs {a b : Nat} (h : b < md 2) : fi (fs (md 2) a b) = fi a - fi b := by
  rw [fi_fn, fi_fn, fi_fn]
  have e : fn (fs (md 2) a b) + fn b = fn a := by
    unfold fs; rw [md_pX, fn_mod, ← fn_add]
    rw [md_pX] at h
    rw [show a + (pX - b) + b = a + pX by omega, fn_add, fn_self]; grobner
  grobner
theorem ri_one : fn B4 * fn (riOf (md 2)) = 1 := by decide +kernel
theorem fi_toM (v : Nat) : fi (toM (md 2) v) = fn v := by
  rw [fi_fn]
  have : fn (toM (md 2) v) = fn v * fn B4 := by unfold toM; rw [md_pX, fn_mod, fn_mul]
  have h := ri_one
  rw [this]; grobner
theorem fi_zero : fi 0 = 0 := by decide +kernel
theorem fi_one : fi (B4 % md 2) = 1 := by
  have := fi_toM 1
  unfold toM at this
  rw [Nat.one_mul] at this
  rw [this]; decide +kernel
theorem fi_24 : fi (toM (md 2) 121665) = 121665 := by rw [fi_toM]; decide +kernel

/-- a step -/
theorem step_pts {x1 : Nat} {q : Q4} (hq : q.ok (md 2)) {A C : Pt} (h2 : Rep (fi q.x2) (fi q.z2) A) (h3 : Rep (fi q.x3) (fi q.z3) C) {D : F} (hD : (add C (neg A)).y = D) (hu : fi x1 * (1 - D) = 1 + D) (d1 : D ≠ 1) (d2 : D ≠ -1) :
    Rep (fi (stepQ (md 2) x1 (toM (md 2) 121665) q).x2) (fi (stepQ (md 2) x1 (toM (md 2) 121665) q).z2) (add A A) ∧
    Rep (fi (stepQ (md 2) x1 (toM (md 2) 121665) q).x3) (fi (stepQ (md 2) x1 (toM (md 2) 121665) q).z3) (add A C) := by
  have hp : 0 < md 2 := by decide
  have eA : fi (stA (md 2) q) = fi q.x2 + fi q.z2 := fi_fa _ _
  have eB : fi (stB (md 2) q) = fi q.x2 - fi q.z2 := fi_fs hq.2.1
  have eAA : fi (stAA (md 2) q) = fi (stA (md 2) q) * fi (stA (md 2) q) := fi_mo _ _
  have eBB : fi (stBB (md 2) q) = fi (stB (md 2) q) * fi (stB (md 2) q) := fi_mo _ _
  have eE : fi (stE (md 2) q) = fi (stAA (md 2) q) - fi (stBB (md 2) q) := fi_fs (mo_lt hp _ _)
  have eDA : fi (stDA (md 2) q) = (fi q.x3 - fi q.z3) * fi (stA (md 2) q) := by unfold stDA; rw [fi_mo, fi_fs hq.2.2.2]
  have eCB : fi (stCB (md 2) q) = (fi q.x3 + fi q.z3) * fi (stB (md 2) q) := by unfold stCB; rw [fi_mo, fi_fa]
  have eS : fi (stS (md 2) q) = fi (stDA (md 2) q) + fi (stCB (md 2) q) := fi_fa _ _
  have eT : fi (stT (md 2) q) = fi (stDA (md 2) q) - fi (stCB (md 2) q) := fi_fs (mo_lt hp _ _)
  constructor
  · have k := rep_dbl h2 eA eB eAA eBB eE
    show Rep (fi (mo (md 2) _ _)) (fi (mo (md 2) _ (fa (md 2) _ (mo (md 2) _ _)))) _
    rw [fi_mo, fi_mo, fi_fa, fi_mo, fi_24]
    exact k
  · rw [eA] at eDA
    rw [eB] at eCB
    have k := rep_sum h2 h3 hD hu d1 d2 eDA eCB eS eT
    show Rep (fi (mo (md 2) _ _)) (fi (mo (md 2) _ (mo (md 2) _ _))) _
    rw [fi_mo, fi_mo, fi_mo]
    exact k

def Inv (B : Pt) (e j : Nat) (q : Q4) : Prop :=
  (bitn e (255 - j) = 0 → Rep (fi q.x2) (fi q.z2) (mul B (e / 2 ^ (255 - j))) ∧ Rep (fi q.x3) (fi q.z3) (mul B (e / 2 ^ (255 - j) + 1))) ∧
  (bitn e (255 - j) = 1 → Rep (fi q.x2) (fi q.z2) (mul B (e / 2 ^ (255 - j) + 1)) ∧ Rep (fi q.x3) (fi q.z3) (mul B (e / 2 ^ (255 - j))))
theorem half {e j : Nat} (h : j < 255) : e / 2 ^ (254 - j) = 2 * (e / 2 ^ (255 - j)) + bitn e (254 - j) := by
  unfold bitn
  have : (2 : Nat) ^ (255 - j) = 2 ^ (254 - j) * 2 := by rw [← Nat.pow_succ]; congr 1; omega
  rw [this, ← Nat.div_div_eq_div_mul]
  omega
theorem lad_pts {B : Pt} {e x1 : Nat} (he : e < 57896044618658097711785492504343953926634992332820282019728792003956564819968) (hx : x1 < md 2) (hu : fi x1 * (1 - B.y) = 1 + B.y) (d1 : B.y ≠ 1) (d2 : B.y ≠ -1) :
    ∀ j, j ≤ 255 → Inv B e j (ladQ (md 2) x1 (toM (md 2) 121665) e j)
  | 0, _ => by
    have hp : (2 : Nat) ^ (255 - 0) = 57896044618658097711785492504343953926634992332820282019728792003956564819968 := by decide
    have e0 : e / 2 ^ (255 - 0) = 0 := by rw [hp]; exact Nat.div_eq_of_lt he
    refine ⟨fun _ => ?_, fun h => ?_⟩
    · rw [e0]
      have hh : 2 * (28948022309329048855892746252171976963317496166410141009864396001978282409975 : F) = 1 := by decide +kernel
      have hn : 1 - B.y ≠ 0 := fun h => d1 (by grobner)
      have hi := mul_inv hn
      constructor
      · refine ⟨28948022309329048855892746252171976963317496166410141009864396001978282409975, by decide +kernel, ?_, ?_⟩
        · show fi (B4 % md 2) = _ * (1 + 1)
          rw [fi_one]; decide +kernel
        · show fi 0 = _ * (1 - 1)
          rw [fi_zero]; decide +kernel
      · rw [Nat.zero_add, mul_one]
        refine ⟨inv (1 - B.y), fun h => by rw [h] at hi; exact one_ne (by grobner), ?_, ?_⟩
        · show fi x1 = _
          generalize inv (1 - B.y) = i at *
          grobner
        · show fi (B4 % md 2) = _
          rw [fi_one]
          generalize inv (1 - B.y) = i at *
          grobner
    · unfold bitn at h; rw [e0] at h; omega
  | j + 1, h => by
    have ih := lad_pts he hx hu d1 d2 j (by omega)
    have ok := ladQ_ok (by decide : 0 < md 2) hx (toM (md 2) 121665) e j
    have hl := bitn_lt e (255 - j)
    have hl' := bitn_lt e (254 - j)
    have hh := half (e := e) (j := j) (by omega)
    have ej : 255 - (j + 1) = 254 - j := by omega
    unfold Inv
    rw [ej, hh]
    generalize hn : e / 2 ^ (255 - j) = n at *
    -- the pair as the step takes it: R(b'), R(1 - b')
    have key : ∃ q : Q4, q.ok (md 2) ∧ ladQ (md 2) x1 (toM (md 2) 121665) e (j + 1) = stepQ (md 2) x1 (toM (md 2) 121665) q ∧
        (bitn e (254 - j) = 0 → Rep (fi q.x2) (fi q.z2) (mul B n) ∧ Rep (fi q.x3) (fi q.z3) (mul B (n + 1))) ∧
        (bitn e (254 - j) = 1 → Rep (fi q.x2) (fi q.z2) (mul B (n + 1)) ∧ Rep (fi q.x3) (fi q.z3) (mul B n)) := by
      obtain ⟨i0, i1⟩ := ih
      rw [hn] at i0 i1
      by_cases hb : bitn e (255 - j) = bitn e (254 - j)
      · refine ⟨_, ok, ladQ_same hb, fun h0 => i0 (by omega), fun h0 => i1 (by omega)⟩
      · refine ⟨_, turn_ok ok, ladQ_turn hb, fun h0 => ?_, fun h0 => ?_⟩
        · have := i1 (by omega); exact ⟨this.2, this.1⟩
        · have := i0 (by omega); exact ⟨this.2, this.1⟩
    obtain ⟨q, qok, hq, k0, k1⟩ := key
    rw [hq]
    have b1 : add (mul B (n + 1)) (neg (mul B n)) = B := by
      have := sub_mul B 1 n
      rw [Nat.add_comm, this, mul_one]
    have b2 : add (mul B n) (neg (mul B (n + 1))) = neg B := sub_mul' B n
    refine ⟨fun h0 => ?_, fun h1 => ?_⟩
    · obtain ⟨r2, r3⟩ := k0 h0
      have k := step_pts (x1 := x1) qok r2 r3 (D := B.y) (by rw [b1]) hu d1 d2
      rw [h0, Nat.add_zero, Nat.two_mul, mul_add, Nat.add_assoc, mul_add B n (n + 1)]
      exact k
    · obtain ⟨r2, r3⟩ := k1 h1
      have k := step_pts (x1 := x1) qok r2 r3 (D := B.y) (by rw [b2]; rfl) hu d1 d2
      rw [h1, show 2 * n + 1 + 1 = (n + 1) + (n + 1) by omega, show 2 * n + 1 = (n + 1) + n by omega, mul_add B (n + 1) (n + 1), mul_add B (n + 1) n]
      exact k
/-- what the ladder gives: the multiple's u -/
theorem ladM_pt {B : Pt} {e x1 : Nat} (he : e < 57896044618658097711785492504343953926634992332820282019728792003956564819968) (he2 : e % 2 = 0) (hx : x1 < md 2) (hu : fi x1 * (1 - B.y) = 1 + B.y) (d1 : B.y ≠ 1) (d2 : B.y ≠ -1)
    (hO : mul B e ≠ O) : fn (ladM e x1) * (1 - (mul B e).y) = 1 + (mul B e).y := by
  have h := lad_pts he hx hu d1 d2 255 (Nat.le_refl _)
  have hz := (ladQ_ok (by decide : 0 < md 2) hx (toM (md 2) 121665) e 255).2.1
  unfold Inv at h
  rw [Nat.sub_self, Nat.pow_zero, Nat.div_one] at h
  have hb : bitn e 0 = 0 := by unfold bitn; rw [Nat.pow_zero, Nat.div_one]; exact he2
  have hr := (h.1 hb).1
  unfold ladM
  generalize (ladQ (md 2) x1 (toM (md 2) 121665) e 255).x2 = X at *
  generalize (ladQ (md 2) x1 (toM (md 2) 121665) e 255).z2 = Z at *
  have hZ : fi Z ≠ 0 := fun e => hO (y_one (rep_none hr e))
  have eI : fi Z * fi (invL (md 2) Z (md 2 - 2) 256) = 1 := by
    have hn : ¬ pX ∣ (fi Z).val := fun hd => hZ (Fin.ext (Nat.eq_zero_of_dvd_of_lt hd (fi Z).isLt))
    have hf : (fi Z).val ^ (pX - 1) % pX = 1 := Pr.fermat Pr.isP_X hn
    rw [invL_run hz, fi_toM]
    have hlt : md 2 - 2 < 2 ^ 256 := by decide
    rw [Pr.pm_eq _ _ _ _ hlt, md_pX, fn_mod]
    refine Fin.ext ?_
    rw [Fin.val_mul, val_fn]
    have this : (fi Z).val = Z * riOf pX % pX := rfl
    show (fi Z).val * ((Z * riOf pX % pX) ^ (pX - 2) % pX) % pX = 1
    rw [Nat.mul_mod_mod]
    rw [this] at hf ⊢
    rw [← Nat.pow_succ']
    exact hf
  have e1 : fn (mo (md 2) (mo (md 2) X (invL (md 2) Z (md 2 - 2) 256)) 1) = fi X * fi (invL (md 2) Z (md 2 - 2) 256) := by
    rw [← fi_mo]
    generalize mo (md 2) X (invL (md 2) Z (md 2 - 2) 256) = a
    unfold mo mont fi
    rw [Nat.mul_one, md_pX]
    exact fn_mod _
  rw [e1]
  obtain ⟨l, hl, hX, hZ'⟩ := hr
  generalize fi (invL (md 2) Z (md 2 - 2) 256) = i at *
  generalize fi X = x at *
  generalize fi Z = z at *
  generalize (mul B e).y = y at *
  clear hu h
  grobner

/-! ### the base -/
def G : Pt := ⟨9771384041963202563870679428059935816164187996444183106833894008023910952347, 46316835694926478169428394003475163141307993866256225615783033603165251855960, by decide +kernel⟩
def ell : Nat := 7237005577332262213973186563042994240857116359379907606001950938285454250989
theorem G_u : fi (toM (md 2) 9) * (1 - G.y) = 1 + G.y := by rw [fi_toM]; decide +kernel
theorem G_1 : G.y ≠ 1 := by decide +kernel
theorem G_2 : G.y ≠ -1 := by decide +kernel
theorem G_ne : G ≠ O := fun h => absurd (congrArg Pt.y h) G_1
theorem l0_2551 : Pr.IsP 2551 := Pr.small 50 (by decide) (by decide) (by decide +kernel)
theorem l0_122448 : Pr.IsP 1224481 := Pr.poc1 (a := 2) l0_2551 (by decide) (by decide) (by decide +kernel) (by decide)
theorem l2_531581 : Pr.IsP 531581 := Pr.small 729 (by decide) (by decide) (by decide +kernel)
theorem l0_125755 : Pr.IsP 1257559732178653 := Pr.poc2 (a := 2) l0_122448 l2_531581 (by decide) (by decide) (by decide) (by decide +kernel) (by decide +kernel) (by decide)
theorem l0_443415 : Pr.IsP 4434155615661930479 := Pr.poc1 (a := 2) l0_125755 (by decide) (by decide) (by decide +kernel) (by decide)
theorem l0_172054 : Pr.IsP 172054593956031949258510691 := Pr.poc1 (a := 2) l0_443415 (by decide) (by decide) (by decide +kernel) (by decide)
theorem l0_197573 : Pr.IsP 19757330305831588566944191468367130476339 := Pr.poc1 (a := 2) l0_172054 (by decide) (by decide) (by decide +kernel) (by decide)
theorem l0_276602 : Pr.IsP 276602624281642239937218680557139826668747 := Pr.poc1 (a := 2) l0_197573 (by decide) (by decide) (by decide +kernel) (by decide)
theorem l0_723700 : Pr.IsP 7237005577332262213973186563042994240857116359379907606001950938285454250989 := Pr.poc1 (a := 2) l0_276602 (by decide) (by decide) (by decide +kernel) (by decide)
theorem isP_L : Pr.IsP 7237005577332262213973186563042994240857116359379907606001950938285454250989 := l0_723700
theorem isP_ell : Pr.IsP ell := isP_L
theorem ell_run : runK (md 2) (riOf (md 2)) (toM (md 2) 9) (toM (md 2) 121665) ell 255 (B4 % md 2) 0 (toM (md 2) 9) (B4 % md 2) (fun _ _ _ z => z == 0) = true := by decide +kernel
theorem G_ell : mul G ell = O := by
  have hx : toM (md 2) 9 < md 2 := toM_lt (by decide) _
  have h := lad_pts (B := G) (e := ell) (by decide) hx G_u G_1 G_2 255 (Nat.le_refl _)
  have hz := beq_iff_eq.1 (lad_run ell_run)
  unfold Inv at h
  have hb : bitn ell (255 - 255) = 1 := by decide +kernel
  have hr := (h.2 hb).2
  rw [hz, fi_zero, Nat.sub_self, Nat.pow_zero, Nat.div_one] at hr
  exact y_one (rep_none hr rfl)
/-- only multiples of its order make the base none -/
theorem G_mul_ne {k : Nat} (h : ¬ ell ∣ k) : mul G k ≠ O := by
  intro hk
  have hf : k ^ (ell - 1) % ell = 1 := Pr.fermat isP_ell h
  have e1 : k * k ^ (ell - 2) = ell * (k ^ (ell - 1) / ell) + 1 := by
    have e2 : k * k ^ (ell - 2) = k ^ (ell - 1) := by
      rw [← Nat.pow_succ']; rfl
    rw [e2]
    have := Nat.div_add_mod (k ^ (ell - 1)) ell
    rw [hf] at this
    exact this.symm
  have h1 : mul G (k * k ^ (ell - 2)) = O := by rw [← mul_mul, hk, mul_O]
  rw [e1, mul_add, ← mul_mul, G_ell, mul_O, O_add, mul_one] at h1
  exact G_ne h1
theorem not_dvd_mul {a b : Nat} (ha : ¬ ell ∣ a) (hb : ¬ ell ∣ b) : ¬ ell ∣ a * b := fun h => (Pr.euclid isP_ell h).elim ha hb
theorem not_dvd_two : ¬ ell ∣ 2 := by decide
theorem not_dvd_clamp (e : Nat) : ¬ ell ∣ clampV e := by
  have h8 : clampV e = 8 * (clampV e / 8) := by have := clampV_even e; omega
  rw [h8]
  refine not_dvd_mul (by decide) fun hd => ?_
  have h1 : 0 < clampV e / 8 := by unfold clampV; omega
  have h2 := Nat.le_of_dvd h1 hd
  have h3 := clampV_lt e
  unfold ell at h2
  omega
theorem y_of {k : Nat} (h : ¬ ell ∣ k) : (mul G k).y ≠ 1 ∧ (mul G k).y ≠ -1 := by
  refine ⟨fun e => G_mul_ne h (y_one e), fun e => ?_⟩
  have h2 := y_minus e
  rw [← mul_add, ← Nat.mul_two] at h2
  exact G_mul_ne (not_dvd_mul h not_dvd_two) h2
theorem clamp_ok (e : Nat) : clampV e < 57896044618658097711785492504343953926634992332820282019728792003956564819968 ∧ clampV e % 2 = 0 := by
  have := clampV_even e
  exact ⟨clampV_lt e, by omega⟩
/-- a key's own number belongs to a multiple of the base -/
theorem own_pt (e : Nat) : fn (ladM (clampV e) (toM (md 2) 9)) * (1 - (mul G (clampV e)).y) = 1 + (mul G (clampV e)).y :=
  ladM_pt (clamp_ok e).1 (clamp_ok e).2 (toM_lt (by decide) _) G_u G_1 G_2 (G_mul_ne (not_dvd_clamp e))
theorem shared_pt (a b : Nat) : fn (ladM (clampV a) (toM (md 2) (ladM (clampV b) (toM (md 2) 9)))) * (1 - (mul G (clampV b * clampV a)).y) = 1 + (mul G (clampV b * clampV a)).y := by
  have hb := y_of (not_dvd_clamp b)
  have hab := not_dvd_mul (not_dvd_clamp b) (not_dvd_clamp a)
  have h := ladM_pt (B := mul G (clampV b)) (e := clampV a) (x1 := toM (md 2) (ladM (clampV b) (toM (md 2) 9))) (clamp_ok a).1 (clamp_ok a).2 (toM_lt (by decide) _) (by rw [fi_toM]; exact own_pt b) hb.1 hb.2
    (by rw [mul_mul]; exact G_mul_ne hab)
  rw [mul_mul] at h
  exact h
theorem fn_inj {a b : Nat} (ha : a < md 2) (hb : b < md 2) (h : fn a = fn b) : a = b := by
  have := congrArg Fin.val h
  rw [val_fn, val_fn, ← md_pX, Nat.mod_eq_of_lt ha, Nat.mod_eq_of_lt hb] at this
  exact this
theorem pt_ne {V k : Nat} (hk : ¬ ell ∣ k) (h : fn V * (1 - (mul G k).y) = 1 + (mul G k).y) : V ≠ 0 := by
  rintro rfl
  have h0 : fn 0 = 0 := rfl
  rw [h0] at h
  refine (y_of hk).2 ?_
  generalize (mul G k).y = y at *
  grobner
theorem own_ne (e : Nat) : ladM (clampV e) (toM (md 2) 9) ≠ 0 := pt_ne (not_dvd_clamp e) (own_pt e)
theorem shared_ne (a b : Nat) : ladM (clampV a) (toM (md 2) (ladM (clampV b) (toM (md 2) 9))) ≠ 0 :=
  pt_ne (not_dvd_mul (not_dvd_clamp b) (not_dvd_clamp a)) (shared_pt a b)
/-- two keys come to one secret -/
theorem agree (a b : Nat) : ladM (clampV a) (toM (md 2) (ladM (clampV b) (toM (md 2) 9))) = ladM (clampV b) (toM (md 2) (ladM (clampV a) (toM (md 2) 9))) := by
  refine fn_inj (ladM_lt _ _) (ladM_lt _ _) ?_
  have h1 := shared_pt a b
  have h2 := shared_pt b a
  rw [Nat.mul_comm] at h2
  have hy := (y_of (not_dvd_mul (not_dvd_clamp b) (not_dvd_clamp a))).1
  generalize (mul G (clampV b * clampV a)).y = y at *
  refine cancel (a := 1 - y) (fun h => hy (by clear h1 h2; grobner)) ?_
  grobner
end Go.Sym.Ed
