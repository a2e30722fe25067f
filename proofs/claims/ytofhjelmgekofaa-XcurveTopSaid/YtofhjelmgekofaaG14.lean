/-
  Contracts of functions of the program, each said of symbolic values, and plain laws; no condition beyond each statement's own.
-/
import Derived.Test.YtofhjelmgekofaaG13
import Derived.Test.YtofhjelmgekofaaG12
set_option linter.unusedSimpArgs false
set_option linter.unusedVariables false
/-
  The ladder run at numbers: an evaluator whose state is forced, and one value. Plain laws. No program in sight; no condition beyond each lemma's own.
-/
namespace Go.Sym.X
open Go.Sym.Num

def fo (n : Nat) (k : Nat → Bool) : Bool := Nat.rec (k 0) (fun i _ => k (i + 1)) n
theorem fo_eq (n : Nat) (k : Nat → Bool) : fo n k = k n := by cases n <;> rfl
def stepK (m ri x1 y x2 z2 x3 z3 : Nat) (k : Nat → Nat → Nat → Nat → Bool) : Bool :=
  fo ((x2 + z2) % m) fun a => fo ((x2 + (m - z2)) % m) fun b => fo (a * a * ri % m) fun aa => fo (b * b * ri % m) fun bb => fo ((aa + (m - bb)) % m) fun e =>
  fo ((x3 + (m - z3)) % m * a * ri % m) fun da => fo ((x3 + z3) % m * b * ri % m) fun cb => fo ((da + cb) % m) fun s => fo ((da + (m - cb)) % m) fun t =>
  fo (aa * bb * ri % m) fun p => fo (e * ((aa + y * e * ri % m) % m) * ri % m) fun q => fo (s * s * ri % m) fun r => fo (x1 * (t * t * ri % m) * ri % m) fun u => k p q r u
theorem stepK_eq (m x1 y : Nat) (q : Q4) (k : Nat → Nat → Nat → Nat → Bool) :
    stepK m (riOf m) x1 y q.x2 q.z2 q.x3 q.z3 k = k (stepQ m x1 y q).x2 (stepQ m x1 y q).z2 (stepQ m x1 y q).x3 (stepQ m x1 y q).z3 := by
  unfold stepK
  simp only [fo_eq]
  rfl
def runK (m ri x1 y e : Nat) : Nat → Nat → Nat → Nat → Nat → (Nat → Nat → Nat → Nat → Bool) → Bool
  | 0, x2, z2, x3, z3, k => k x2 z2 x3 z3
  | n + 1, x2, z2, x3, z3, k => bif e / 2 ^ (n + 1) % 2 == e / 2 ^ n % 2 then stepK m ri x1 y x2 z2 x3 z3 (fun a b c d => runK m ri x1 y e n a b c d k) else stepK m ri x1 y x3 z3 x2 z2 (fun a b c d => runK m ri x1 y e n a b c d k)
theorem runK_eq (m x1 y e : Nat) (k : Nat → Nat → Nat → Nat → Bool) : ∀ n, n ≤ 255 →
    runK m (riOf m) x1 y e n (ladQ m x1 y e (255 - n)).x2 (ladQ m x1 y e (255 - n)).z2 (ladQ m x1 y e (255 - n)).x3 (ladQ m x1 y e (255 - n)).z3 k =
    k (ladQ m x1 y e 255).x2 (ladQ m x1 y e 255).z2 (ladQ m x1 y e 255).x3 (ladQ m x1 y e 255).z3
  | 0, _ => rfl
  | n + 1, h => by
    have ih := runK_eq m x1 y e k n (by omega)
    have e1 : 255 - n = (255 - (n + 1)) + 1 := by omega
    have e2 : 255 - (255 - (n + 1)) = n + 1 := by omega
    have e3 : 254 - (255 - (n + 1)) = n := by omega
    rw [e1] at ih
    simp only [runK]
    by_cases hb : e / 2 ^ (n + 1) % 2 = e / 2 ^ n % 2
    · have hq := ladQ_same (m := m) (x1 := x1) (y := y) (e := e) (j := 255 - (n + 1)) (by rw [e2, e3]; exact hb)
      rw [hq] at ih
      rw [beq_iff_eq.2 hb, cond_true, stepK_eq]
      exact ih
    · have hq := ladQ_turn (m := m) (x1 := x1) (y := y) (e := e) (j := 255 - (n + 1)) (by rw [e2, e3]; exact hb)
      rw [hq] at ih
      rw [beq_eq_false_iff_ne.2 hb, cond_false]
      have := stepK_eq m x1 y (ladQ m x1 y e (255 - (n + 1))).turn (fun a b c d => runK m (riOf m) x1 y e n a b c d k)
      exact this.trans ih
theorem lad_run {m x1 y e : Nat} {k : Nat → Nat → Nat → Nat → Bool} (h : runK m (riOf m) x1 y e 255 (B4 % m) 0 x1 (B4 % m) k = true) :
    k (ladQ m x1 y e 255).x2 (ladQ m x1 y e 255).z2 (ladQ m x1 y e 255).x3 (ladQ m x1 y e 255).z3 = true := by
  rw [← runK_eq m x1 y e k 255 (Nat.le_refl _)]
  exact h
/-- the inverse by a power of small numbers -/
theorem invL_run {z : Nat} (hz : z < md 2) : invL (md 2) z (md 2 - 2) 256 = toM (md 2) (Pr.pm (md 2) (z * riOf (md 2) % md 2) 256 (md 2 - 2)) := by
  have h2 := md_gt (w := 2) (by decide)
  have hlt := md_lt (w := 2) (by decide)
  have hri := md_ri (w := 2) (by decide)
  have hz2 : toM (md 2) (z * riOf (md 2) % md 2) = z := by
    rw [toM_mod]
    unfold toM
    rw [Nat.mul_assoc, Nat.mul_comm (riOf _), Nat.mul_mod, hri, Nat.mul_one, Nat.mod_mod, Nat.mod_eq_of_lt hz]
  have h := invL_pow hri (z * riOf (md 2) % md 2) (e := md 2 - 2) (by omega) 256 (Nat.le_refl _)
  rw [hz2, Nat.sub_self, Nat.pow_zero, Nat.div_one] at h
  rw [h, Pr.pm_eq _ _ _ _ (by unfold B4 at hlt; have : (2 : Nat) ^ 256 = 115792089237316195423570985008687907853269984665640564039457584007913129639936 := by decide
                              omega), toM_mod]
theorem ladM_run {e x1 N : Nat} (hx : x1 < md 2) (h : runK (md 2) (riOf (md 2)) x1 (toM (md 2) 121665) e 255 (B4 % md 2) 0 x1 (B4 % md 2)
    (fun x z _ _ => mo (md 2) (mo (md 2) x (toM (md 2) (Pr.pm (md 2) (z * riOf (md 2) % md 2) 256 (md 2 - 2)))) 1 == N) = true) : ladM e x1 = N := by
  have h := beq_iff_eq.1 (lad_run h)
  unfold ladM
  rw [invL_run (ladQ_ok (by decide) hx _ _ 255).2.1]
  exact h
/-- the least key and the base -/
theorem base_value : ladM 28948022309329048855892746252171976963317496166410141009864396001978282409984 (toM (md 2) 9) = 52573937849532372069814888178136277301931757964231753054399601207743438775599 := by
  refine ladM_run (toM_lt (by decide) _) ?_
  decide +kernel
end Go.Sym.X

namespace Go.Sym.N
open Go Go.Proofs.Try Go.Sym.Num
open Go.Sym.X
open Go.Sym.Num32 (minusSt minusSt_len minus_of)
set_option maxRecDepth 100000
attribute [local irreducible] Num32.lim Num32.val Num32.mlim md beB beV mont riOf mo toM invL clampV topV ladM fa fs ladQ bitn sharedV minusSt

/-- the orders of the drawn regions of halberdref9.Shared -/
def pl34 : List (Nat × List PStep) := [(8, [⟨0, []⟩, ⟨1, [0]⟩, ⟨2, []⟩, ⟨3, []⟩]), (9, [⟨0, []⟩, ⟨1, [0]⟩, ⟨2, []⟩, ⟨3, []⟩]), (10, [⟨0, []⟩, ⟨1, [0]⟩, ⟨2, [0]⟩, ⟨3, []⟩, ⟨4, []⟩, ⟨5, []⟩])]
/-- the orders of the drawn regions of halberdlaw10.awake -/
def pl37 : List (Nat × List PStep) := [(2, [⟨0, []⟩, ⟨1, []⟩, ⟨2, [0, 1]⟩, ⟨3, []⟩, ⟨4, []⟩, ⟨5, []⟩, ⟨6, [5]⟩, ⟨7, [6]⟩, ⟨8, []⟩]), (3, [⟨0, []⟩, ⟨1, []⟩, ⟨2, [0, 1]⟩, ⟨3, [0, 1]⟩, ⟨4, []⟩, ⟨5, []⟩, ⟨6, []⟩, ⟨7, [6]⟩, ⟨8, [7]⟩, ⟨9, []⟩])]

def rminusN : Spec := fun args hp K => match args, hp with
  | [.arr32 8 x, .arr32 8 y], [] => ∃ a b, (x = Num32.lim a ∧ y = Num32.lim b ∧ b ≤ a ∧ a < B4) ∧ K (.arr32 8 (Num32.lim (a - b))) []
  | _, _ => False
theorem rminusN_s : SoundC prog 68 rminusN := by
  refine weaken rminus_s fun args hp K h => ?_
  unfold rminusN at h
  split at h
  · obtain ⟨a, b, ⟨rfl, rfl, hab, ha⟩, h⟩ := h
    unfold rminusS
    refine pre_i ⟨Num32.lim_len _, Num32.lim_len _⟩ ?_
    rw [minus_of (Num32.lim_len _) (Num32.lim_len _), Num32.val_lim ha, Num32.val_lim (by omega), show (a + (B4 - b)) % B4 = a - b by
      rw [show a + (B4 - b) = a - b + B4 by omega, Nat.add_mod_right, Nat.mod_eq_of_lt (by omega)]]
    exact h
  · exact h.elim
def rlessN : Spec := fun args hp K => match args, hp with
  | [.arr32 8 x, .arr32 8 y], [] => ∃ a b, (x = Num32.lim a ∧ y = Num32.lim b ∧ a < B4 ∧ b < B4) ∧ K (.bool (decide (a < b))) []
  | _, _ => False
theorem rlessN_s : SoundC prog 66 rlessN := by
  refine weaken rless_s fun args hp K h => ?_
  unfold rlessN at h
  split at h
  · obtain ⟨a, b, ⟨rfl, rfl, ha, hb⟩, h⟩ := h
    unfold rlessS
    refine pre_i ⟨Num32.lim_len _, Num32.lim_len _⟩ ?_
    rw [Num32.val_lim ha, Num32.val_lim hb]
    exact h
  · exact h.elim
def rmodN : Spec := fun args hp K => match args, hp with
  | [.int w], [] => Pre (w = 2) (K (.arr32 8 (Num32.lim (md 2))) [])
  | _, _ => False
theorem mlimX : Num32.mlim 2 = Num32.lim (md 2) := Num32.lim_of (Num32.mlim_len 2) (Num32.mlim_val (by decide))
theorem rmodN_s : SoundC prog 67 rmodN := by
  refine weaken rmod_s fun args hp K h => ?_
  unfold rmodN at h
  split at h
  · obtain ⟨e, h'⟩ := pre_e h
    subst e
    clear h
    have h := h'
    unfold rmodS
    show K (.arr32 8 (Num32.mlim 2)) []
    rw [mlimX]
    exact h
  · exact h.elim
theorem beB_none {V : Nat} (h : V < B4) : beB 32 V = List.replicate 32 0 ↔ V = 0 := by
  have e : beB 32 0 = List.replicate 32 0 := by decide +kernel
  constructor
  · intro he; rw [← e] at he
    exact beB_inj h (by unfold B4; decide) he
  · rintro rfl; exact e
theorem rShared_s : SoundC prog 34 SharedS := by
  refine sound_f tys_ok (fnok_cons get_s (fnok_cons rturned_s (fnok_cons rlessN_s (fnok_cons rmodN_s (fnok_cons rminusN_s (fnok_cons put_s (fnok_cons rladder_s (fnok_cons rintoN_s fnok_nil)))))))) rfl func34 rfl call34 (D := pl34) ?_ ?_
  · intro args hp K h
    unfold SharedS at h
    split at h
    · exact Nat.le_of_ble_eq_true rfl
    · exact h.elim
  · intro args hp K h
    unfold SharedS at h
    split at h
    · rename_i k u
      obtain ⟨ht, hn⟩ := cond_e h
      by_cases hk : k.length = 32
      · by_cases hu : u.length = 32
        · have ht := ht (by rw [decide_eq_true_eq]; exact ⟨hk, hu⟩)
          have hkr : k.reverse.length = 32 := by rw [List.length_reverse, hk]
          have hur : u.reverse.length = 32 := by rw [List.length_reverse, hu]
          have hub : beV u.reverse < B4 := beV_lt 32 _ hur
          have hkb : beV k.reverse < B4 := beV_lt 32 _ hkr
          have hll := Num32.lim_len (beV u.reverse)
          have hlk := Num32.lim_len (beV k.reverse)
          have hlk2 : ((Num32.lim (beV k.reverse)).set 0 ((Num32.lim (beV k.reverse)).getD 0 0 &&& ~~~ (UInt32.ofNat 7))).length = 8 := by rw [List.length_set]; exact hlk
          have htl := topV_lt (beV u.reverse)
          have hmd : md 2 = mX := by unfold md; rfl
          have hmB := md2_lt
          have hmp := md2_pos
          have htB : topV (beV u.reverse) < B4 := by unfold B4; unfold mX at htl; omega
          repeat ((conv => whnf); first | (refine pre_i ?hc ?_; case hc => first | exact (show planOK _ _ _ = true from by kernel_rfl) | assumption | omega | (unfold fits; omega) | decide +kernel | (constructor <;> first | assumption | omega) | (simp only [off_addO, tysz, off, offE] <;> omega) | (simp only [lens, off_addO, off, offE] <;> omega) | (simp only [off_addO, tysz, lens, off, offE] <;> omega) | (constructor <;> first | assumption | (simp only [off_addO, tysz, lens, off, offE] <;> omega))) | (refine cond_t ?hc ?_; case hc => first | rfl | assumption | (rw [decide_eq_true_eq]; omega) | (rw [decide_eq_false_iff_not]; omega) | (simp <;> omega)) | (refine cond_f ?hc ?_; case hc => first | rfl | assumption | (rw [decide_eq_true_eq]; omega) | (rw [decide_eq_false_iff_not]; omega) | (simp <;> omega)) | refine same_i ?_)
          conv => whnf
          have eX : (Num32.lim (beV u.reverse)).set (off (addO [] (Int.toNat 7) ty70.sz)) ((Num32.lim (beV u.reverse)).getD (off (addO [] (Int.toNat 7) ty70.sz)) 0 &&& UInt32.ofNat 2147483647) = Num32.lim (topV (beV u.reverse)) := top32 hub
          have eE : ((Num32.lim (beV k.reverse)).set (off (addO [] (Int.toNat 0) ty70.sz)) ((Num32.lim (beV k.reverse)).getD (off (addO [] (Int.toNat 0) ty70.sz)) 0 &&& ~~~ (UInt32.ofNat 7))).set (off (addO [] (Int.toNat 7) ty70.sz)) (((Num32.lim (beV k.reverse)).set (off (addO [] (Int.toNat 0) ty70.sz)) ((Num32.lim (beV k.reverse)).getD (off (addO [] (Int.toNat 0) ty70.sz)) 0 &&& ~~~ (UInt32.ofNat 7))).getD (off (addO [] (Int.toNat 7) ty70.sz)) 0 &&& UInt32.ofNat 2147483647 ||| UInt32.ofNat 1073741824) = Num32.lim (clampV (beV k.reverse)) := clamp32 hkb
          have hC := clampV_lt (beV k.reverse)
          have hC2 : clampV (beV k.reverse) % 2 = 0 := by have := clampV_even (beV k.reverse); omega
          rw [eX, eE]
          have hsV : ∀ a, a = topV (beV u.reverse) % md 2 → ladM (clampV (beV k.reverse)) (toM (md 2) a) = sharedV k u := fun a ha => by rw [ha]; unfold sharedV; rfl
          have hV : sharedV k u < md 2 := by unfold sharedV; exact ladM_lt _ _
          obtain ⟨h0, h1⟩ := cond_e ht
          clear ht hn eX eE
          generalize topV (beV u.reverse) = T at *
          generalize clampV (beV k.reverse) = C at *
          generalize sharedV k u = V at *
          have vV : Num32.val (Num32.lim V) = V := Num32.val_lim (by omega)
          have lV := Num32.lim_len V
          have hz := beB_none (V := V) (by omega)
          have lB : (beB 32 V).length ≤ 140737488355328 := by rw [beB_len]; decide
          refine ⟨T, md 2, ⟨rfl, rfl, htB, hmB⟩, ?_⟩
          by_cases hTm : T < md 2
          · have hd0 : (!decide (T < md 2)) = false := by rw [decide_eq_true hTm]; rfl
            have hdt : decide (T < md 2) = true := decide_eq_true hTm
            repeat ((conv => whnf); first | (refine pre_i ?hc ?_; case hc => first | exact (show planOK _ _ _ = true from by kernel_rfl) | assumption | omega | (unfold fits; omega) | decide +kernel | (constructor <;> first | assumption | omega) | (simp only [off_addO, tysz, off, offE] <;> omega) | (simp only [lens, off_addO, off, offE] <;> omega) | (simp only [off_addO, tysz, lens, off, offE] <;> omega) | (constructor <;> first | assumption | (simp only [off_addO, tysz, lens, off, offE] <;> omega))) | (refine cond_t ?hc ?_; case hc => first | rfl | assumption | (rw [decide_eq_true_eq]; omega) | (rw [decide_eq_false_iff_not]; omega) | (simp <;> omega) | exact hd0 | (rw [hd0]; rfl) | exact hdt | (rw [hdt]; rfl)) | (refine cond_f ?hc ?_; case hc => first | rfl | assumption | (rw [decide_eq_true_eq]; omega) | (rw [decide_eq_false_iff_not]; omega) | (simp <;> omega) | exact hd0 | (rw [hd0]; rfl) | exact hdt | (rw [hdt]; rfl)) | refine same_i ?_)
            conv => whnf
            refine ⟨_, ⟨rfl, rfl, hTm⟩, ?_⟩
            repeat ((conv => whnf); first | (refine pre_i ?hc ?_; case hc => first | exact (show planOK _ _ _ = true from by kernel_rfl) | assumption | omega | (unfold fits; omega) | decide +kernel | (constructor <;> first | assumption | omega) | (simp only [off_addO, tysz, off, offE] <;> omega) | (simp only [lens, off_addO, off, offE] <;> omega) | (simp only [off_addO, tysz, lens, off, offE] <;> omega) | (constructor <;> first | assumption | (simp only [off_addO, tysz, lens, off, offE] <;> omega))) | (refine cond_t ?hc ?_; case hc => first | rfl | assumption | (rw [decide_eq_true_eq]; omega) | (rw [decide_eq_false_iff_not]; omega) | (simp <;> omega)) | (refine cond_f ?hc ?_; case hc => first | rfl | assumption | (rw [decide_eq_true_eq]; omega) | (rw [decide_eq_false_iff_not]; omega) | (simp <;> omega)) | refine same_i ?_)
            conv => whnf
            refine ⟨_, _, ⟨rfl, rfl, hC, hC2, toM2_lt _⟩, ?_⟩
            rw [hsV T (by rw [Nat.mod_eq_of_lt hTm])]
            by_cases hz0 : V = 0
            · have h0 := h0 (decide_eq_true hz0)
              have hd : decide (beB 32 (Num32.val (Num32.lim V)) = List.replicate 32 0) = true := decide_eq_true (by rw [vV]; exact hz.2 hz0)
              repeat ((conv => whnf); first | (refine pre_i ?hc ?_; case hc => first | exact (show planOK _ _ _ = true from by kernel_rfl) | assumption | omega | (unfold fits; omega) | decide +kernel | (constructor <;> first | assumption | omega) | (simp only [off_addO, tysz, off, offE] <;> omega) | (simp only [lens, off_addO, off, offE] <;> omega) | (simp only [off_addO, tysz, lens, off, offE] <;> omega) | (constructor <;> first | assumption | (simp only [off_addO, tysz, lens, off, offE] <;> omega))) | (refine cond_t ?hc ?_; case hc => first | rfl | assumption | (rw [decide_eq_true_eq]; omega) | (rw [decide_eq_false_iff_not]; omega) | (simp <;> omega) | exact hd | (rw [hd]; rfl)) | (refine cond_f ?hc ?_; case hc => first | rfl | assumption | (rw [decide_eq_true_eq]; omega) | (rw [decide_eq_false_iff_not]; omega) | (simp <;> omega) | exact hd | (rw [hd]; rfl)) | refine same_i ?_)
              conv => whnf
              refine final_h (hp' := []) [] h0 ?_
              repeat ((conv => whnf); first | (refine pre_i ?hc ?_; case hc => first | exact (show planOK _ _ _ = true from by kernel_rfl) | assumption | omega | (unfold fits; omega) | decide +kernel | (constructor <;> first | assumption | omega) | (simp only [off_addO, tysz, off, offE] <;> omega) | (simp only [lens, off_addO, off, offE] <;> omega) | (simp only [off_addO, tysz, lens, off, offE] <;> omega) | (constructor <;> first | assumption | (simp only [off_addO, tysz, lens, off, offE] <;> omega))) | (refine cond_t ?hc ?_; case hc => first | rfl | assumption | (rw [decide_eq_true_eq]; omega) | (rw [decide_eq_false_iff_not]; omega) | (simp <;> omega)) | (refine cond_f ?hc ?_; case hc => first | rfl | assumption | (rw [decide_eq_true_eq]; omega) | (rw [decide_eq_false_iff_not]; omega) | (simp <;> omega)) | refine same_i ?_)
              exact trivial
            · have h1 := h1 (decide_eq_false hz0)
              have hd : decide (beB 32 (Num32.val (Num32.lim V)) = List.replicate 32 0) = false := decide_eq_false (by rw [vV]; exact fun hh => hz0 (hz.1 hh))
              have lB2 : (beB 32 (Num32.val (Num32.lim V))).length ≤ 140737488355328 := by rw [vV]; exact lB
              repeat ((conv => whnf); first | (refine pre_i ?hc ?_; case hc => first | exact (show planOK _ _ _ = true from by kernel_rfl) | assumption | omega | (unfold fits; omega) | decide +kernel | (constructor <;> first | assumption | omega) | (simp only [off_addO, tysz, off, offE] <;> omega) | (simp only [lens, off_addO, off, offE] <;> omega) | (simp only [off_addO, tysz, lens, off, offE] <;> omega) | (constructor <;> first | assumption | (simp only [off_addO, tysz, lens, off, offE] <;> omega))) | (refine cond_t ?hc ?_; case hc => first | rfl | assumption | (rw [decide_eq_true_eq]; omega) | (rw [decide_eq_false_iff_not]; omega) | (simp <;> omega) | exact hd | (rw [hd]; rfl)) | (refine cond_f ?hc ?_; case hc => first | rfl | assumption | (rw [decide_eq_true_eq]; omega) | (rw [decide_eq_false_iff_not]; omega) | (simp <;> omega) | exact hd | (rw [hd]; rfl)) | refine same_i ?_)
              conv => whnf
              rw [vV]
              refine final_h (hp' := []) [] h1 ?_
              repeat ((conv => whnf); first | (refine pre_i ?hc ?_; case hc => first | exact (show planOK _ _ _ = true from by kernel_rfl) | assumption | omega | (unfold fits; omega) | decide +kernel | (constructor <;> first | assumption | omega) | (simp only [off_addO, tysz, off, offE] <;> omega) | (simp only [lens, off_addO, off, offE] <;> omega) | (simp only [off_addO, tysz, lens, off, offE] <;> omega) | (constructor <;> first | assumption | (simp only [off_addO, tysz, lens, off, offE] <;> omega))) | (refine cond_t ?hc ?_; case hc => first | rfl | assumption | (rw [decide_eq_true_eq]; omega) | (rw [decide_eq_false_iff_not]; omega) | (simp <;> omega)) | (refine cond_f ?hc ?_; case hc => first | rfl | assumption | (rw [decide_eq_true_eq]; omega) | (rw [decide_eq_false_iff_not]; omega) | (simp <;> omega)) | refine same_i ?_)
              exact trivial
          · have hdt : decide (T < md 2) = false := decide_eq_false hTm
            repeat ((conv => whnf); first | (refine pre_i ?hc ?_; case hc => first | exact (show planOK _ _ _ = true from by kernel_rfl) | assumption | omega | (unfold fits; omega) | decide +kernel | (constructor <;> first | assumption | omega) | (simp only [off_addO, tysz, off, offE] <;> omega) | (simp only [lens, off_addO, off, offE] <;> omega) | (simp only [off_addO, tysz, lens, off, offE] <;> omega) | (constructor <;> first | assumption | (simp only [off_addO, tysz, lens, off, offE] <;> omega))) | (refine cond_t ?hc ?_; case hc => first | rfl | assumption | (rw [decide_eq_true_eq]; omega) | (rw [decide_eq_false_iff_not]; omega) | (simp <;> omega) | exact hdt | (rw [hdt]; rfl)) | (refine cond_f ?hc ?_; case hc => first | rfl | assumption | (rw [decide_eq_true_eq]; omega) | (rw [decide_eq_false_iff_not]; omega) | (simp <;> omega) | exact hdt | (rw [hdt]; rfl)) | refine same_i ?_)
            conv => whnf
            refine ⟨_, _, ⟨rfl, rfl, by omega, htB⟩, ?_⟩
            repeat ((conv => whnf); first | (refine pre_i ?hc ?_; case hc => first | exact (show planOK _ _ _ = true from by kernel_rfl) | assumption | omega | (unfold fits; omega) | decide +kernel | (constructor <;> first | assumption | omega) | (simp only [off_addO, tysz, off, offE] <;> omega) | (simp only [lens, off_addO, off, offE] <;> omega) | (simp only [off_addO, tysz, lens, off, offE] <;> omega) | (constructor <;> first | assumption | (simp only [off_addO, tysz, lens, off, offE] <;> omega))) | (refine cond_t ?hc ?_; case hc => first | rfl | assumption | (rw [decide_eq_true_eq]; omega) | (rw [decide_eq_false_iff_not]; omega) | (simp <;> omega)) | (refine cond_f ?hc ?_; case hc => first | rfl | assumption | (rw [decide_eq_true_eq]; omega) | (rw [decide_eq_false_iff_not]; omega) | (simp <;> omega)) | refine same_i ?_)
            conv => whnf
            refine ⟨_, ⟨rfl, rfl, by omega⟩, ?_⟩
            repeat ((conv => whnf); first | (refine pre_i ?hc ?_; case hc => first | exact (show planOK _ _ _ = true from by kernel_rfl) | assumption | omega | (unfold fits; omega) | decide +kernel | (constructor <;> first | assumption | omega) | (simp only [off_addO, tysz, off, offE] <;> omega) | (simp only [lens, off_addO, off, offE] <;> omega) | (simp only [off_addO, tysz, lens, off, offE] <;> omega) | (constructor <;> first | assumption | (simp only [off_addO, tysz, lens, off, offE] <;> omega))) | (refine cond_t ?hc ?_; case hc => first | rfl | assumption | (rw [decide_eq_true_eq]; omega) | (rw [decide_eq_false_iff_not]; omega) | (simp <;> omega)) | (refine cond_f ?hc ?_; case hc => first | rfl | assumption | (rw [decide_eq_true_eq]; omega) | (rw [decide_eq_false_iff_not]; omega) | (simp <;> omega)) | refine same_i ?_)
            conv => whnf
            refine ⟨_, _, ⟨rfl, rfl, hC, hC2, toM2_lt _⟩, ?_⟩
            rw [hsV (T - md 2) (by rw [Nat.mod_eq_sub_mod (by omega), Nat.mod_eq_of_lt (by omega)])]
            by_cases hz0 : V = 0
            · have h0 := h0 (decide_eq_true hz0)
              have hd : decide (beB 32 (Num32.val (Num32.lim V)) = List.replicate 32 0) = true := decide_eq_true (by rw [vV]; exact hz.2 hz0)
              repeat ((conv => whnf); first | (refine pre_i ?hc ?_; case hc => first | exact (show planOK _ _ _ = true from by kernel_rfl) | assumption | omega | (unfold fits; omega) | decide +kernel | (constructor <;> first | assumption | omega) | (simp only [off_addO, tysz, off, offE] <;> omega) | (simp only [lens, off_addO, off, offE] <;> omega) | (simp only [off_addO, tysz, lens, off, offE] <;> omega) | (constructor <;> first | assumption | (simp only [off_addO, tysz, lens, off, offE] <;> omega))) | (refine cond_t ?hc ?_; case hc => first | rfl | assumption | (rw [decide_eq_true_eq]; omega) | (rw [decide_eq_false_iff_not]; omega) | (simp <;> omega) | exact hd | (rw [hd]; rfl)) | (refine cond_f ?hc ?_; case hc => first | rfl | assumption | (rw [decide_eq_true_eq]; omega) | (rw [decide_eq_false_iff_not]; omega) | (simp <;> omega) | exact hd | (rw [hd]; rfl)) | refine same_i ?_)
              conv => whnf
              refine final_h (hp' := []) [] h0 ?_
              repeat ((conv => whnf); first | (refine pre_i ?hc ?_; case hc => first | exact (show planOK _ _ _ = true from by kernel_rfl) | assumption | omega | (unfold fits; omega) | decide +kernel | (constructor <;> first | assumption | omega) | (simp only [off_addO, tysz, off, offE] <;> omega) | (simp only [lens, off_addO, off, offE] <;> omega) | (simp only [off_addO, tysz, lens, off, offE] <;> omega) | (constructor <;> first | assumption | (simp only [off_addO, tysz, lens, off, offE] <;> omega))) | (refine cond_t ?hc ?_; case hc => first | rfl | assumption | (rw [decide_eq_true_eq]; omega) | (rw [decide_eq_false_iff_not]; omega) | (simp <;> omega)) | (refine cond_f ?hc ?_; case hc => first | rfl | assumption | (rw [decide_eq_true_eq]; omega) | (rw [decide_eq_false_iff_not]; omega) | (simp <;> omega)) | refine same_i ?_)
              exact trivial
            · have h1 := h1 (decide_eq_false hz0)
              have hd : decide (beB 32 (Num32.val (Num32.lim V)) = List.replicate 32 0) = false := decide_eq_false (by rw [vV]; exact fun hh => hz0 (hz.1 hh))
              have lB2 : (beB 32 (Num32.val (Num32.lim V))).length ≤ 140737488355328 := by rw [vV]; exact lB
              repeat ((conv => whnf); first | (refine pre_i ?hc ?_; case hc => first | exact (show planOK _ _ _ = true from by kernel_rfl) | assumption | omega | (unfold fits; omega) | decide +kernel | (constructor <;> first | assumption | omega) | (simp only [off_addO, tysz, off, offE] <;> omega) | (simp only [lens, off_addO, off, offE] <;> omega) | (simp only [off_addO, tysz, lens, off, offE] <;> omega) | (constructor <;> first | assumption | (simp only [off_addO, tysz, lens, off, offE] <;> omega))) | (refine cond_t ?hc ?_; case hc => first | rfl | assumption | (rw [decide_eq_true_eq]; omega) | (rw [decide_eq_false_iff_not]; omega) | (simp <;> omega) | exact hd | (rw [hd]; rfl)) | (refine cond_f ?hc ?_; case hc => first | rfl | assumption | (rw [decide_eq_true_eq]; omega) | (rw [decide_eq_false_iff_not]; omega) | (simp <;> omega) | exact hd | (rw [hd]; rfl)) | refine same_i ?_)
              conv => whnf
              rw [vV]
              refine final_h (hp' := []) [] h1 ?_
              repeat ((conv => whnf); first | (refine pre_i ?hc ?_; case hc => first | exact (show planOK _ _ _ = true from by kernel_rfl) | assumption | omega | (unfold fits; omega) | decide +kernel | (constructor <;> first | assumption | omega) | (simp only [off_addO, tysz, off, offE] <;> omega) | (simp only [lens, off_addO, off, offE] <;> omega) | (simp only [off_addO, tysz, lens, off, offE] <;> omega) | (constructor <;> first | assumption | (simp only [off_addO, tysz, lens, off, offE] <;> omega))) | (refine cond_t ?hc ?_; case hc => first | rfl | assumption | (rw [decide_eq_true_eq]; omega) | (rw [decide_eq_false_iff_not]; omega) | (simp <;> omega)) | (refine cond_f ?hc ?_; case hc => first | rfl | assumption | (rw [decide_eq_true_eq]; omega) | (rw [decide_eq_false_iff_not]; omega) | (simp <;> omega)) | refine same_i ?_)
              exact trivial
        · have hn := hn (by rw [decide_eq_false_iff_not]; exact fun hh => hu hh.2)
          repeat ((conv => whnf); first | (refine pre_i ?hc ?_; case hc => first | exact (show planOK _ _ _ = true from by kernel_rfl) | assumption | omega | (unfold fits; omega) | decide +kernel | (constructor <;> first | assumption | omega) | (simp only [off_addO, tysz, off, offE] <;> omega) | (simp only [lens, off_addO, off, offE] <;> omega) | (simp only [off_addO, tysz, lens, off, offE] <;> omega) | (constructor <;> first | assumption | (simp only [off_addO, tysz, lens, off, offE] <;> omega))) | (refine cond_t ?hc ?_; case hc => first | rfl | assumption | (rw [decide_eq_true_eq]; omega) | (rw [decide_eq_false_iff_not]; omega) | (simp <;> omega)) | (refine cond_f ?hc ?_; case hc => first | rfl | assumption | (rw [decide_eq_true_eq]; omega) | (rw [decide_eq_false_iff_not]; omega) | (simp <;> omega)) | refine same_i ?_)
          conv => whnf
          refine final_h (hp' := []) [] hn ?_
          repeat ((conv => whnf); first | (refine pre_i ?hc ?_; case hc => first | exact (show planOK _ _ _ = true from by kernel_rfl) | assumption | omega | (unfold fits; omega) | decide +kernel | (constructor <;> first | assumption | omega) | (simp only [off_addO, tysz, off, offE] <;> omega) | (simp only [lens, off_addO, off, offE] <;> omega) | (simp only [off_addO, tysz, lens, off, offE] <;> omega) | (constructor <;> first | assumption | (simp only [off_addO, tysz, lens, off, offE] <;> omega))) | (refine cond_t ?hc ?_; case hc => first | rfl | assumption | (rw [decide_eq_true_eq]; omega) | (rw [decide_eq_false_iff_not]; omega) | (simp <;> omega)) | (refine cond_f ?hc ?_; case hc => first | rfl | assumption | (rw [decide_eq_true_eq]; omega) | (rw [decide_eq_false_iff_not]; omega) | (simp <;> omega)) | refine same_i ?_)
          exact trivial
      · have hn := hn (by rw [decide_eq_false_iff_not]; exact fun hh => hk hh.1)
        repeat ((conv => whnf); first | (refine pre_i ?hc ?_; case hc => first | exact (show planOK _ _ _ = true from by kernel_rfl) | assumption | omega | (unfold fits; omega) | decide +kernel | (constructor <;> first | assumption | omega) | (simp only [off_addO, tysz, off, offE] <;> omega) | (simp only [lens, off_addO, off, offE] <;> omega) | (simp only [off_addO, tysz, lens, off, offE] <;> omega) | (constructor <;> first | assumption | (simp only [off_addO, tysz, lens, off, offE] <;> omega))) | (refine cond_t ?hc ?_; case hc => first | rfl | assumption | (rw [decide_eq_true_eq]; omega) | (rw [decide_eq_false_iff_not]; omega) | (simp <;> omega)) | (refine cond_f ?hc ?_; case hc => first | rfl | assumption | (rw [decide_eq_true_eq]; omega) | (rw [decide_eq_false_iff_not]; omega) | (simp <;> omega)) | refine same_i ?_)
        conv => whnf
        refine final_h (hp' := []) [] hn ?_
        repeat ((conv => whnf); first | (refine pre_i ?hc ?_; case hc => first | exact (show planOK _ _ _ = true from by kernel_rfl) | assumption | omega | (unfold fits; omega) | decide +kernel | (constructor <;> first | assumption | omega) | (simp only [off_addO, tysz, off, offE] <;> omega) | (simp only [lens, off_addO, off, offE] <;> omega) | (simp only [off_addO, tysz, lens, off, offE] <;> omega) | (constructor <;> first | assumption | (simp only [off_addO, tysz, lens, off, offE] <;> omega))) | (refine cond_t ?hc ?_; case hc => first | rfl | assumption | (rw [decide_eq_true_eq]; omega) | (rw [decide_eq_false_iff_not]; omega) | (simp <;> omega)) | (refine cond_f ?hc ?_; case hc => first | rfl | assumption | (rw [decide_eq_true_eq]; omega) | (rw [decide_eq_false_iff_not]; omega) | (simp <;> omega)) | refine same_i ?_)
        exact trivial
    · exact h.elim
def v0 : Nat := 52573937849532372069814888178136277301931757964231753054399601207743438775599
def v0B : List UInt8 := [47, 229, 125, 163, 71, 205, 98, 67, 21, 40, 218, 172, 95, 187, 41, 7, 48, 255, 246, 132, 175, 196, 207, 194, 237, 144, 153, 95, 88, 203, 59, 116]
theorem v0_B : (beB 32 v0).reverse = v0B := by decide +kernel
theorem shared9 : sharedV (List.replicate 32 0) nineB = v0 := by
  unfold sharedV
  have e1 : clampV (beV (List.replicate 32 0).reverse) = 28948022309329048855892746252171976963317496166410141009864396001978282409984 := by decide +kernel
  have e2 : topV (beV nineB.reverse) % md 2 = 9 := by decide +kernel
  rw [e1, e2, base_value]; rfl
theorem shared0 : sharedV (List.replicate 32 0) (List.replicate 32 0) = 0 := by
  unfold sharedV
  have e2 : topV (beV (List.replicate 32 0).reverse) % md 2 = 0 := by decide +kernel
  rw [e2, small0]
def awakeXS : Spec := fun args hp K => match args, hp with
  | [], [] => K (.bool true) []
  | _, _ => False
theorem awakeX_s : SoundC prog 37 awakeXS := by
  refine sound_f tys_ok (fnok_cons Public_s (fnok_cons Shared_s (fnok_cons nine_s (fnok_cons num_s fnok_nil)))) rfl func37 rfl call37 (D := pl37) ?_ ?_
  · intro args hp K h
    unfold awakeXS at h
    split at h
    · exact Nat.le_of_ble_eq_true rfl
    · exact h.elim
  · intro args hp K h
    unfold awakeXS at h
    split at h
    · have hd1 : decide (sharedV (List.replicate 32 0) nineB = 0) = false := by rw [shared9]; decide +kernel
      have hd2 : decide (sharedV (List.replicate 32 0) (List.replicate 32 0) = 0) = true := by rw [shared0]; rfl
      have hd3 : decide ((List.replicate 32 (0 : UInt8)).length = 32 ∧ (List.replicate 32 (0 : UInt8)).length = 32) = true := rfl
      have hd4 : decide ((List.replicate 32 (0 : UInt8)).length = 32 ∧ nineB.length = 32) = true := rfl
      have er : List.take (Int.toNat 32) (List.drop (off []) (List.replicate (Int.toNat 32) (0 : UInt8))) = List.replicate 32 0 := rfl
      repeat ((conv => whnf); first | (refine pre_i ?hc ?_; case hc => first | exact (show planOK _ _ _ = true from by kernel_rfl) | assumption | omega | (unfold fits; omega) | decide +kernel | (constructor <;> first | assumption | omega) | (simp only [off_addO, tysz, off, offE] <;> omega) | (simp only [lens, off_addO, off, offE] <;> omega) | (simp only [off_addO, tysz, lens, off, offE] <;> omega) | (constructor <;> first | assumption | (simp only [off_addO, tysz, lens, off, offE] <;> omega))) | (refine cond_t ?hc ?_; case hc => first | rfl | assumption | (rw [decide_eq_true_eq]; omega) | (rw [decide_eq_false_iff_not]; omega) | (simp <;> omega)) | (refine cond_f ?hc ?_; case hc => first | rfl | assumption | (rw [decide_eq_true_eq]; omega) | (rw [decide_eq_false_iff_not]; omega) | (simp <;> omega)) | refine same_i ?_)
      conv => whnf
      rw [er]
      rw [shared9, v0_B]
      repeat ((conv => whnf); first | (refine pre_i ?hc ?_; case hc => first | exact (show planOK _ _ _ = true from by kernel_rfl) | assumption | omega | (unfold fits; omega) | decide +kernel | (constructor <;> first | assumption | omega) | (simp only [off_addO, tysz, off, offE] <;> omega) | (simp only [lens, off_addO, off, offE] <;> omega) | (simp only [off_addO, tysz, lens, off, offE] <;> omega) | (constructor <;> first | assumption | (simp only [off_addO, tysz, lens, off, offE] <;> omega))) | (refine cond_t ?hc ?_; case hc => first | rfl | assumption | (rw [decide_eq_true_eq]; omega) | (rw [decide_eq_false_iff_not]; omega) | (simp <;> omega) | (decide +kernel)) | (refine cond_f ?hc ?_; case hc => first | rfl | assumption | (rw [decide_eq_true_eq]; omega) | (rw [decide_eq_false_iff_not]; omega) | (simp <;> omega) | (decide +kernel)) | refine same_i ?_)
      conv => whnf
      refine final_h (hp' := []) [] h ?_
      repeat ((conv => whnf); first | (refine pre_i ?hc ?_; case hc => first | exact (show planOK _ _ _ = true from by kernel_rfl) | assumption | omega | (unfold fits; omega) | decide +kernel | (constructor <;> first | assumption | omega) | (simp only [off_addO, tysz, off, offE] <;> omega) | (simp only [lens, off_addO, off, offE] <;> omega) | (simp only [off_addO, tysz, lens, off, offE] <;> omega) | (constructor <;> first | assumption | (simp only [off_addO, tysz, lens, off, offE] <;> omega))) | (refine cond_t ?hc ?_; case hc => first | rfl | assumption | (rw [decide_eq_true_eq]; omega) | (rw [decide_eq_false_iff_not]; omega) | (simp <;> omega)) | (refine cond_f ?hc ?_; case hc => first | rfl | assumption | (rw [decide_eq_true_eq]; omega) | (rw [decide_eq_false_iff_not]; omega) | (simp <;> omega)) | refine same_i ?_)
      exact trivial
    · exact h.elim
end Go.Sym.N

namespace Go.Sym.N
open Go Go.Proofs.Try Go.Sym.Num
open Go.Sym.X
set_option maxRecDepth 100000
attribute [local irreducible] md beB beV mo toM clampV topV ladM sharedV nineB

/-- the orders of the drawn regions of halberdlaw10.Xcurves -/
def pl10 : List (Nat × List PStep) := []

def lawG (nt : Nat) (ty : List (Nat × TyI)) (fs : List (Nat × Spec)) (w : World) (rs : List Row) : Ctx := { nt := nt, ty := ty, fn := fs, E := fun w' => Ext (fun _ => False) w w', ext := rowsExt rs }
def lawFnX : List (Nat × Spec) := [(33, SharedS), (34, SharedS), (35, PublicS), (36, nineS), (37, awakeXS), (15, numS)]
theorem lawFnX_ok : ∀ f S, look lawFnX f = some S → SoundC prog f S := fnok_cons Shared_s (fnok_cons rShared_s (fnok_cons Public_s (fnok_cons nine_s (fnok_cons awakeX_s (fnok_cons num_s fnok_nil)))))
theorem nineB_len : nineB.length = 32 := by unfold nineB; rfl
theorem xcurves_vc (w : World) (x y : List UInt8) :
    fnVC (lawG f10.ntmps tys lawFnX w []) pl10 (codeOf f10) f10.results.toList [.str x, .str y] [] (fun r _ => r = .bool true) := by
  have ln := nineB_len
  by_cases hx : x.length = 32
  · have d1 : decide (x.length = 32) = true := decide_eq_true hx
    have d3 : decide (x.length = 32 ∧ nineB.length = 32) = true := decide_eq_true ⟨hx, ln⟩
    by_cases hy : y.length = 32
    · have d2 : decide (x.length = 32 ∧ y.length = 32) = true := decide_eq_true ⟨hx, hy⟩
      generalize e1 : decide (sharedV x y = 0) = c1
      generalize e2 : decide (sharedV x nineB = 0) = c2
      cases c1 <;> cases c2
      all_goals
        repeat ((conv => whnf); first | (refine pre_i ?hc ?_; case hc => first | exact (show planOK _ _ _ = true from by kernel_rfl) | assumption | omega | (unfold fits; omega) | decide +kernel | (constructor <;> first | assumption | omega) | (simp only [off_addO, tysz, off, offE] <;> omega) | (simp only [lens, off_addO, off, offE] <;> omega) | (simp only [off_addO, tysz, lens, off, offE] <;> omega) | (constructor <;> first | assumption | (simp only [off_addO, tysz, lens, off, offE] <;> omega))) | (refine cond_t ?hc ?_; case hc => first | rfl | assumption | (rw [decide_eq_true_eq]; omega) | (rw [decide_eq_false_iff_not]; omega) | (simp <;> omega) | exact d1 | exact d2 | exact d3 | exact e1 | exact e2) | (refine cond_f ?hc ?_; case hc => first | rfl | assumption | (rw [decide_eq_true_eq]; omega) | (rw [decide_eq_false_iff_not]; omega) | (simp <;> omega) | exact d1 | exact d2 | exact d3 | exact e1 | exact e2) | refine same_i ?_)
        conv => whnf
        refine final_h (hp' := []) [] rfl ?_
        repeat ((conv => whnf); first | (refine pre_i ?hc ?_; case hc => first | exact (show planOK _ _ _ = true from by kernel_rfl) | assumption | omega | (unfold fits; omega) | decide +kernel | (constructor <;> first | assumption | omega) | (simp only [off_addO, tysz, off, offE] <;> omega) | (simp only [lens, off_addO, off, offE] <;> omega) | (simp only [off_addO, tysz, lens, off, offE] <;> omega) | (constructor <;> first | assumption | (simp only [off_addO, tysz, lens, off, offE] <;> omega))) | (refine cond_t ?hc ?_; case hc => first | rfl | assumption | (rw [decide_eq_true_eq]; omega) | (rw [decide_eq_false_iff_not]; omega) | (simp <;> omega)) | (refine cond_f ?hc ?_; case hc => first | rfl | assumption | (rw [decide_eq_true_eq]; omega) | (rw [decide_eq_false_iff_not]; omega) | (simp <;> omega)) | refine same_i ?_)
        exact trivial
    · have d2 : decide (x.length = 32 ∧ y.length = 32) = false := decide_eq_false (fun h => hy h.2)
      generalize e2 : decide (sharedV x nineB = 0) = c2
      cases c2
      all_goals
        repeat ((conv => whnf); first | (refine pre_i ?hc ?_; case hc => first | exact (show planOK _ _ _ = true from by kernel_rfl) | assumption | omega | (unfold fits; omega) | decide +kernel | (constructor <;> first | assumption | omega) | (simp only [off_addO, tysz, off, offE] <;> omega) | (simp only [lens, off_addO, off, offE] <;> omega) | (simp only [off_addO, tysz, lens, off, offE] <;> omega) | (constructor <;> first | assumption | (simp only [off_addO, tysz, lens, off, offE] <;> omega))) | (refine cond_t ?hc ?_; case hc => first | rfl | assumption | (rw [decide_eq_true_eq]; omega) | (rw [decide_eq_false_iff_not]; omega) | (simp <;> omega) | exact d1 | exact d2 | exact d3 | exact e2) | (refine cond_f ?hc ?_; case hc => first | rfl | assumption | (rw [decide_eq_true_eq]; omega) | (rw [decide_eq_false_iff_not]; omega) | (simp <;> omega) | exact d1 | exact d2 | exact d3 | exact e2) | refine same_i ?_)
        conv => whnf
        refine final_h (hp' := []) [] rfl ?_
        repeat ((conv => whnf); first | (refine pre_i ?hc ?_; case hc => first | exact (show planOK _ _ _ = true from by kernel_rfl) | assumption | omega | (unfold fits; omega) | decide +kernel | (constructor <;> first | assumption | omega) | (simp only [off_addO, tysz, off, offE] <;> omega) | (simp only [lens, off_addO, off, offE] <;> omega) | (simp only [off_addO, tysz, lens, off, offE] <;> omega) | (constructor <;> first | assumption | (simp only [off_addO, tysz, lens, off, offE] <;> omega))) | (refine cond_t ?hc ?_; case hc => first | rfl | assumption | (rw [decide_eq_true_eq]; omega) | (rw [decide_eq_false_iff_not]; omega) | (simp <;> omega)) | (refine cond_f ?hc ?_; case hc => first | rfl | assumption | (rw [decide_eq_true_eq]; omega) | (rw [decide_eq_false_iff_not]; omega) | (simp <;> omega)) | refine same_i ?_)
        exact trivial
  · have d1 : decide (x.length = 32) = false := decide_eq_false hx
    have d2 : decide (x.length = 32 ∧ y.length = 32) = false := decide_eq_false (fun h => hx h.1)
    have d3 : decide (x.length = 32 ∧ nineB.length = 32) = false := decide_eq_false (fun h => hx h.1)
    repeat ((conv => whnf); first | (refine pre_i ?hc ?_; case hc => first | exact (show planOK _ _ _ = true from by kernel_rfl) | assumption | omega | (unfold fits; omega) | decide +kernel | (constructor <;> first | assumption | omega) | (simp only [off_addO, tysz, off, offE] <;> omega) | (simp only [lens, off_addO, off, offE] <;> omega) | (simp only [off_addO, tysz, lens, off, offE] <;> omega) | (constructor <;> first | assumption | (simp only [off_addO, tysz, lens, off, offE] <;> omega))) | (refine cond_t ?hc ?_; case hc => first | rfl | assumption | (rw [decide_eq_true_eq]; omega) | (rw [decide_eq_false_iff_not]; omega) | (simp <;> omega) | exact d1 | exact d2 | exact d3) | (refine cond_f ?hc ?_; case hc => first | rfl | assumption | (rw [decide_eq_true_eq]; omega) | (rw [decide_eq_false_iff_not]; omega) | (simp <;> omega) | exact d1 | exact d2 | exact d3) | refine same_i ?_)
    conv => whnf
    refine final_h (hp' := []) [] rfl ?_
    repeat ((conv => whnf); first | (refine pre_i ?hc ?_; case hc => first | exact (show planOK _ _ _ = true from by kernel_rfl) | assumption | omega | (unfold fits; omega) | decide +kernel | (constructor <;> first | assumption | omega) | (simp only [off_addO, tysz, off, offE] <;> omega) | (simp only [lens, off_addO, off, offE] <;> omega) | (simp only [off_addO, tysz, lens, off, offE] <;> omega) | (constructor <;> first | assumption | (simp only [off_addO, tysz, lens, off, offE] <;> omega))) | (refine cond_t ?hc ?_; case hc => first | rfl | assumption | (rw [decide_eq_true_eq]; omega) | (rw [decide_eq_false_iff_not]; omega) | (simp <;> omega)) | (refine cond_f ?hc ?_; case hc => first | rfl | assumption | (rw [decide_eq_true_eq]; omega) | (rw [decide_eq_false_iff_not]; omega) | (simp <;> omega)) | refine same_i ?_)
    exact trivial
theorem xcurves_end (w : World) (x : List UInt8) (_ : x.length ≤ 140737488351232) (y : List UInt8) (_ : y.length ≤ 140737488351232) :
    fnVC (lawG f10.ntmps tys lawFnX w []) pl10 (codeOf f10) f10.results.toList [.str x, .str y] [] (fun r _ => r = .bool true) := xcurves_vc w x y
end Go.Sym.N

namespace Go.Sym.N
open Go Go.Proofs.Try Go.Sym.Num
set_option maxRecDepth 100000

theorem ibits_and {a m : Int} (h0 : 0 ≤ m) (h1 : m < 9223372036854775808) : 0 ≤ ibits .and a m ∧ ibits .and a m ≤ m := by
  unfold ibits
  dsimp only
  have hle : (BitVec.ofInt 64 a &&& BitVec.ofInt 64 m).toNat ≤ (BitVec.ofInt 64 m).toNat := by
    rw [BitVec.toNat_and]; exact Nat.and_le_right
  have hm : ((BitVec.ofInt 64 m).toNat : Int) = m := by
    rw [BitVec.toNat_ofInt]
    have : (2 ^ 64 : Nat) = 18446744073709551616 := by decide
    rw [this]
    omega
  rw [wrap_i64 _ (by unfold fits; omega)]
  omega
theorem ibits_255 {a : Int} (h : 0 ≤ a) : ibits .and a 255 = a % 256 := by
  have hb := ibits_and (a := a) (m := 255) (by decide) (by decide)
  unfold ibits at hb ⊢
  dsimp only at hb ⊢
  have hle : (BitVec.ofInt 64 a &&& BitVec.ofInt 64 255).toNat = (BitVec.ofInt 64 a).toNat % 256 := by
    rw [BitVec.toNat_and]; exact Nat.and_two_pow_sub_one_eq_mod _ 8
  rw [hle, wrap_i64 _ (by unfold fits; omega), BitVec.toNat_ofInt]
  have : (2 ^ 64 : Nat) = 18446744073709551616 := by decide
  rw [this]
  omega

/-- eight bytes, written from the end on -/
def fillR (f : Nat → UInt8) : Nat → List UInt8
  | 0 => List.replicate 32 0
  | i + 1 => (fillR f i).set ((31 : Int) - (i : Int)).toNat (f i)
theorem fillR_len (f : Nat → UInt8) : ∀ i, (fillR f i).length = 32
  | 0 => rfl
  | i + 1 => by simp only [fillR, List.length_set]; exact fillR_len f i
theorem fillR_eight (f : Nat → UInt8) : fillR f 8 = List.replicate 24 0 ++ [f 7, f 6, f 5, f 4, f 3, f 2, f 1, f 0] := rfl
def wby (x : Int) (i : Nat) : UInt8 := UInt8.ofInt (ibits .and (x / 2 ^ (8 * (i : Int)).toNat) 255)
theorem beB_zero : ∀ k, beB k 0 = List.replicate k 0
  | 0 => rfl
  | k + 1 => by rw [beB, Nat.zero_div, beB_zero k, List.replicate_succ']; rfl
theorem wby_eq {x : Int} (h : 0 ≤ x) (i : Nat) : wby x i = UInt8.ofNat (x.toNat / 256 ^ i) := by
  obtain ⟨n, rfl⟩ := Int.eq_ofNat_of_zero_le h
  unfold wby
  have e : (8 * (i : Int)).toNat = 8 * i := by omega
  have e2 : ((n : Int) / 2 ^ (8 * i)) = ((n / 256 ^ i : Nat) : Int) := by
    have e4 : (2 : Int) ^ (8 * i) = ((2 ^ (8 * i) : Nat) : Int) := by simp
    rw [e4, Nat.pow_mul, show (2 ^ 8 : Nat) = 256 by decide]
    rfl
  rw [e, e2, ibits_255 (Int.natCast_nonneg _), Int.toNat_natCast]
  generalize n / 256 ^ i = v
  apply UInt8.toNat_inj.1
  have : ((v : Int) % 256) = ((v % 256 : Nat) : Int) := by omega
  rw [this, UInt8.toNat_ofNat']
  have h8 := ofInt_8 ((v % 256 : Nat) : Int)
  have : (2 ^ 8 : Nat) = 256 := by decide
  rw [this]; omega
theorem word_val {x : Int} (h : 0 ≤ x) (h1 : x < 9223372036854775808) : fillR (wby x) 8 = beB 32 x.toNat := by
  have p8 : (256 ^ 8 : Nat) = 18446744073709551616 := by decide
  rw [fillR_eight, show (32 : Nat) = 24 + 8 from rfl, beB_add, p8, Nat.div_eq_of_lt (by omega), beB_zero]
  congr 1
  simp only [wby_eq h, beB, List.nil_append, List.cons_append, Nat.div_div_eq_div_mul]
  simp


def wordS : Spec := fun args hp K => match args, hp with
  | [.int x], [] => Pre (0 ≤ x ∧ x < 9223372036854775808) (K (.str (beB 32 x.toNat)) [])
  | _, _ => False
theorem word_s : SoundC prog 32 wordS := by
  refine sound_f tys_ok fnok_nil rfl func32 rfl call32 (D := pl32) ?_ ?_
  · intro args hp K h
    unfold wordS at h
    split at h
    · exact Nat.le_of_ble_eq_true rfl
    · exact h.elim
  · intro args hp K h
    unfold wordS at h
    split at h
    · rename_i x
      obtain ⟨⟨h0, h1⟩, h⟩ := pre_e h
      repeat ((conv => whnf); first | (refine pre_i ?hc ?_; case hc => first | exact (show planOK _ _ _ = true from by kernel_rfl) | assumption | omega | (unfold fits; omega) | decide +kernel | (constructor <;> first | assumption | omega) | (simp only [off_addO, tysz, off, offE] <;> omega) | (simp only [lens, off_addO, off, offE] <;> omega) | (simp only [off_addO, tysz, lens, off, offE] <;> omega) | (constructor <;> first | assumption | (simp only [off_addO, tysz, lens, off, offE] <;> omega))) | (refine cond_t ?hc ?_; case hc => first | rfl | assumption | (rw [decide_eq_true_eq]; omega) | (rw [decide_eq_false_iff_not]; omega) | (simp <;> omega)) | (refine cond_f ?hc ?_; case hc => first | rfl | assumption | (rw [decide_eq_true_eq]; omega) | (rw [decide_eq_false_iff_not]; omega) | (simp <;> omega)) | refine same_i ?_)
      conv => whnf
      refine loop_h (Ix 8) (fun q => ⟨[(0, .int x), (3, .sl 0 0 0 [] 32 32), (4, .int q.i)], [.mk 5 [.arr8 32 (fillR (wby x) q.i)]]⟩)
        (fun q => 8 - q.i) ⟨0, Nat.zero_le _⟩ [0] ?_ ?_
      · repeat ((conv => whnf); first | (refine pre_i ?hc ?_; case hc => first | exact (show planOK _ _ _ = true from by kernel_rfl) | assumption | omega | (unfold fits; omega) | decide +kernel | (constructor <;> first | assumption | omega) | (simp only [off_addO, tysz, off, offE] <;> omega) | (simp only [lens, off_addO, off, offE] <;> omega) | (simp only [off_addO, tysz, lens, off, offE] <;> omega) | (constructor <;> first | assumption | (simp only [off_addO, tysz, lens, off, offE] <;> omega))) | (refine cond_t ?hc ?_; case hc => first | rfl | assumption | (rw [decide_eq_true_eq]; omega) | (rw [decide_eq_false_iff_not]; omega) | (simp <;> omega)) | (refine cond_f ?hc ?_; case hc => first | rfl | assumption | (rw [decide_eq_true_eq]; omega) | (rw [decide_eq_false_iff_not]; omega) | (simp <;> omega)) | refine same_i ?_)
        exact trivial
      · intro q
        have hi := q.hi
        have hl := fillR_len (wby x) q.i
        by_cases h4 : q.i < 8
        · repeat ((conv => whnf); first | (refine pre_i ?hc ?_; case hc => first | exact (show planOK _ _ _ = true from by kernel_rfl) | assumption | omega | (unfold fits; omega) | decide +kernel | (constructor <;> first | assumption | omega) | (simp only [off_addO, tysz, off, offE] <;> omega) | (simp only [lens, off_addO, off, offE] <;> omega) | (simp only [off_addO, tysz, lens, off, offE] <;> omega) | (constructor <;> first | assumption | (simp only [off_addO, tysz, lens, off, offE] <;> omega))) | (refine cond_t ?hc ?_; case hc => first | rfl | assumption | (rw [decide_eq_true_eq]; omega) | (rw [decide_eq_false_iff_not]; omega) | (simp <;> omega)) | (refine cond_f ?hc ?_; case hc => first | rfl | assumption | (rw [decide_eq_true_eq]; omega) | (rw [decide_eq_false_iff_not]; omega) | (simp <;> omega)) | refine same_i ?_)
          conv => whnf
          refine ⟨⟨q.i + 1, h4⟩, [0], ?_, ?_⟩
          · show 8 - (q.i + 1) < 8 - q.i
            omega
          · repeat ((conv => whnf); first | (refine pre_i ?hc ?_; case hc => first | exact (show planOK _ _ _ = true from by kernel_rfl) | assumption | omega | (unfold fits; omega) | decide +kernel | (constructor <;> first | assumption | omega) | (simp only [off_addO, tysz, off, offE] <;> omega) | (simp only [lens, off_addO, off, offE] <;> omega) | (simp only [off_addO, tysz, lens, off, offE] <;> omega) | (constructor <;> first | assumption | (simp only [off_addO, tysz, lens, off, offE] <;> omega))) | (refine cond_t ?hc ?_; case hc => first | rfl | assumption | (rw [decide_eq_true_eq]; omega) | (rw [decide_eq_false_iff_not]; omega) | (simp <;> omega)) | (refine cond_f ?hc ?_; case hc => first | rfl | assumption | (rw [decide_eq_true_eq]; omega) | (rw [decide_eq_false_iff_not]; omega) | (simp <;> omega)) | refine same_i ?_)
            exact trivial
        · have e4 : q.i = 8 := by omega
          have eb : List.take 32 (List.drop (off []) (fillR (wby x) q.i)) = beB 32 x.toNat := by
            rw [e4, word_val h0 h1]
            exact List.take_of_length_le (Nat.le_of_eq (beB_len 32 _))
          repeat ((conv => whnf); first | (refine pre_i ?hc ?_; case hc => first | exact (show planOK _ _ _ = true from by kernel_rfl) | assumption | omega | (unfold fits; omega) | decide +kernel | (constructor <;> first | assumption | omega) | (simp only [off_addO, tysz, off, offE] <;> omega) | (simp only [lens, off_addO, off, offE] <;> omega) | (simp only [off_addO, tysz, lens, off, offE] <;> omega) | (constructor <;> first | assumption | (simp only [off_addO, tysz, lens, off, offE] <;> omega))) | (refine cond_t ?hc ?_; case hc => first | rfl | assumption | (rw [decide_eq_true_eq]; omega) | (rw [decide_eq_false_iff_not]; omega) | (simp <;> omega)) | (refine cond_f ?hc ?_; case hc => first | rfl | assumption | (rw [decide_eq_true_eq]; omega) | (rw [decide_eq_false_iff_not]; omega) | (simp <;> omega)) | refine same_i ?_)
          conv => whnf
          rw [eb]
          refine final_h (hp' := []) [] h ?_
          repeat ((conv => whnf); first | (refine pre_i ?hc ?_; case hc => first | exact (show planOK _ _ _ = true from by kernel_rfl) | assumption | omega | (unfold fits; omega) | decide +kernel | (constructor <;> first | assumption | omega) | (simp only [off_addO, tysz, off, offE] <;> omega) | (simp only [lens, off_addO, off, offE] <;> omega) | (simp only [off_addO, tysz, lens, off, offE] <;> omega) | (constructor <;> first | assumption | (simp only [off_addO, tysz, lens, off, offE] <;> omega))) | (refine cond_t ?hc ?_; case hc => first | rfl | assumption | (rw [decide_eq_true_eq]; omega) | (rw [decide_eq_false_iff_not]; omega) | (simp <;> omega)) | (refine cond_f ?hc ?_; case hc => first | rfl | assumption | (rw [decide_eq_true_eq]; omega) | (rw [decide_eq_false_iff_not]; omega) | (simp <;> omega)) | refine same_i ?_)
          exact trivial
    · exact h.elim

/-- some number below the modulus -/
def reducedS : Spec := fun args hp K => match args, hp with
  | [.int w, .str s], [] => Pre (0 ≤ w ∧ w ≤ 2) (AllVC fun v : Nat => v < md w → K (.str (beB 32 v)) [])
  | _, _ => False
/-- bytes from the end on -/
def fillE (f : Nat → UInt8) : Nat → List UInt8
  | 0 => List.replicate 32 0
  | i + 1 => (fillE f i).set ((31 : Int) - (i : Int)).toNat (f i)
theorem fillE_len (f : Nat → UInt8) : ∀ i, (fillE f i).length = 32
  | 0 => rfl
  | i + 1 => by simp only [fillE, List.length_set]; exact fillE_len f i
theorem beV_cons : ∀ (n : Nat) (b : UInt8) (t : List UInt8), t.length = n → beV (b :: t) = b.toNat * 256 ^ n + beV t := fun n b t h => by
  have := beV_app n t [b] h
  simp only [List.singleton_append] at this
  rw [this]; simp [beV]
theorem small_top {s : List UInt8} (h : s.length = 32) {w : Int} (hw : 0 ≤ w ∧ w ≤ 2) : beV (s.set 0 0) < md w := by
  cases s with
  | nil => cases h
  | cons b t =>
    have ht : t.length = 31 := by simpa using h
    have hl := beV_lt 31 t ht
    rw [List.set_cons_zero, beV_cons 31 0 t ht]
    have : (256 : Nat) ^ 31 < md w := by rcases w3 hw with rfl | rfl | rfl <;> decide +kernel
    have z : (0 : UInt8).toNat = 0 := rfl
    rw [z]; omega
theorem reduced_s : SoundC prog 31 reducedS := by
  refine sound_f tys_ok (fnok_cons number_s fnok_nil) rfl func31 rfl call31 (D := pl31) ?_ ?_
  · intro args hp K h
    unfold reducedS at h
    split at h
    · exact Nat.le_of_ble_eq_true rfl
    · exact h.elim
  · intro args hp K h
    unfold reducedS at h
    split at h
    · rename_i w s
      obtain ⟨hw, h⟩ := pre_e h
      have h := all_e h
      repeat ((conv => whnf); first | (refine pre_i ?hc ?_; case hc => first | exact (show planOK _ _ _ = true from by kernel_rfl) | assumption | omega | (unfold fits; omega) | decide +kernel | (constructor <;> first | assumption | omega) | (simp only [off_addO, tysz, off, offE] <;> omega) | (simp only [lens, off_addO, off, offE] <;> omega) | (simp only [off_addO, tysz, lens, off, offE] <;> omega) | (constructor <;> first | assumption | (simp only [off_addO, tysz, lens, off, offE] <;> omega))) | (refine cond_t ?hc ?_; case hc => first | rfl | assumption | (rw [decide_eq_true_eq]; omega) | (rw [decide_eq_false_iff_not]; omega) | (simp <;> omega)) | (refine cond_f ?hc ?_; case hc => first | rfl | assumption | (rw [decide_eq_true_eq]; omega) | (rw [decide_eq_false_iff_not]; omega) | (simp <;> omega)) | refine same_i ?_)
      conv => whnf
      refine loop_h (Ix 32) (fun q => ⟨[(0, .int w), (1, .str s), (5, .sl 0 0 0 [] 32 32), (6, .int q.i)], [.mk 5 [.arr8 32 (fillE (fun i => s.getD i 0) q.i)]]⟩)
        (fun q => 32 - q.i) ⟨0, Nat.zero_le _⟩ [0] ?_ ?_
      · repeat ((conv => whnf); first | (refine pre_i ?hc ?_; case hc => first | exact (show planOK _ _ _ = true from by kernel_rfl) | assumption | omega | (unfold fits; omega) | decide +kernel | (constructor <;> first | assumption | omega) | (simp only [off_addO, tysz, off, offE] <;> omega) | (simp only [lens, off_addO, off, offE] <;> omega) | (simp only [off_addO, tysz, lens, off, offE] <;> omega) | (constructor <;> first | assumption | (simp only [off_addO, tysz, lens, off, offE] <;> omega))) | (refine cond_t ?hc ?_; case hc => first | rfl | assumption | (rw [decide_eq_true_eq]; omega) | (rw [decide_eq_false_iff_not]; omega) | (simp <;> omega)) | (refine cond_f ?hc ?_; case hc => first | rfl | assumption | (rw [decide_eq_true_eq]; omega) | (rw [decide_eq_false_iff_not]; omega) | (simp <;> omega)) | refine same_i ?_)
        exact trivial
      · intro q
        have hi := q.hi
        have hl := fillE_len (fun i => s.getD i 0) q.i
        have hI : ((q.i : Int)).toNat = q.i := Int.toNat_natCast _
        by_cases h4 : q.i < 32 ∧ q.i < s.length
        · obtain ⟨h4, h5⟩ := h4
          repeat ((conv => whnf); first | (refine pre_i ?hc ?_; case hc => first | exact (show planOK _ _ _ = true from by kernel_rfl) | assumption | omega | (unfold fits; omega) | decide +kernel | (constructor <;> first | assumption | omega) | (simp only [off_addO, tysz, off, offE] <;> omega) | (simp only [lens, off_addO, off, offE] <;> omega) | (simp only [off_addO, tysz, lens, off, offE] <;> omega) | (constructor <;> first | assumption | (simp only [off_addO, tysz, lens, off, offE] <;> omega))) | (refine cond_t ?hc ?_; case hc => first | rfl | assumption | (rw [decide_eq_true_eq]; omega) | (rw [decide_eq_false_iff_not]; omega) | (simp <;> omega)) | (refine cond_f ?hc ?_; case hc => first | rfl | assumption | (rw [decide_eq_true_eq]; omega) | (rw [decide_eq_false_iff_not]; omega) | (simp <;> omega)) | refine same_i ?_)
          conv => whnf
          refine ⟨⟨q.i + 1, h4⟩, [0], ?_, ?_⟩
          · show 32 - (q.i + 1) < 32 - q.i
            omega
          · repeat ((conv => whnf); first | (refine pre_i ?hc ?_; case hc => first | exact (show planOK _ _ _ = true from by kernel_rfl) | assumption | omega | (unfold fits; omega) | decide +kernel | (constructor <;> first | assumption | omega) | (simp only [off_addO, tysz, off, offE] <;> omega) | (simp only [lens, off_addO, off, offE] <;> omega) | (simp only [off_addO, tysz, lens, off, offE] <;> omega) | (constructor <;> first | assumption | (simp only [off_addO, tysz, lens, off, offE] <;> omega))) | (refine cond_t ?hc ?_; case hc => first | rfl | assumption | (rw [decide_eq_true_eq]; omega) | (rw [decide_eq_false_iff_not]; omega) | (simp <;> omega)) | (refine cond_f ?hc ?_; case hc => first | rfl | assumption | (rw [decide_eq_true_eq]; omega) | (rw [decide_eq_false_iff_not]; omega) | (simp <;> omega)) | refine same_i ?_)
            exact trivial
        · obtain ⟨B, hB⟩ : ∃ B, B = (fillE (fun i => s.getD i 0) q.i).set 0 ((fillE (fun i => s.getD i 0) q.i).getD 0 0 &&& UInt8.ofNat 127) := ⟨_, rfl⟩
          have hBl : B.length = 32 := by rw [hB, List.length_set]; exact hl
          have eB2 : (fillE (fun i => s.getD i 0) q.i).set (off (addO [] (Int.toNat 0) ty5.sz)) ((fillE (fun i => s.getD i 0) q.i).getD (off (addO [] (Int.toNat 0) ty5.sz)) 0 &&& UInt8.ofNat 127) = B := hB.symm
          have eB3 : List.take 32 (List.drop (off []) B) = B := List.take_of_length_le (Nat.le_of_eq hBl)
          have hC : (B.set 0 0).length = 32 := by rw [List.length_set]; exact hBl
          have eC : List.take 32 (List.drop (off []) (B.set 0 0)) = B.set 0 0 := List.take_of_length_le (Nat.le_of_eq hC)
          by_cases h6 : q.i < 32
          all_goals
            repeat ((conv => whnf); first | (refine pre_i ?hc ?_; case hc => first | exact (show planOK _ _ _ = true from by kernel_rfl) | assumption | omega | (unfold fits; omega) | decide +kernel | (constructor <;> first | assumption | omega) | (simp only [off_addO, tysz, off, offE] <;> omega) | (simp only [lens, off_addO, off, offE] <;> omega) | (simp only [off_addO, tysz, lens, off, offE] <;> omega) | (constructor <;> first | assumption | (simp only [off_addO, tysz, lens, off, offE] <;> omega))) | (refine cond_t ?hc ?_; case hc => first | rfl | assumption | (rw [decide_eq_true_eq]; omega) | (rw [decide_eq_false_iff_not]; omega) | (simp <;> omega)) | (refine cond_f ?hc ?_; case hc => first | rfl | assumption | (rw [decide_eq_true_eq]; omega) | (rw [decide_eq_false_iff_not]; omega) | (simp <;> omega)) | refine same_i ?_)
            conv => whnf
            rw [eB2, eB3]
            refine cond_t (by rw [decide_eq_true_eq]; exact ⟨hw, hBl⟩) ?_
            by_cases hlt : beV B < md w
            · have h := h (beV B) hlt
              rw [beB_beV 32 B hBl] at h
              repeat ((conv => whnf); first | (refine pre_i ?hc ?_; case hc => first | exact (show planOK _ _ _ = true from by kernel_rfl) | assumption | omega | (unfold fits; omega) | decide +kernel | (constructor <;> first | assumption | omega) | (simp only [off_addO, tysz, off, offE] <;> omega) | (simp only [lens, off_addO, off, offE] <;> omega) | (simp only [off_addO, tysz, lens, off, offE] <;> omega) | (constructor <;> first | assumption | (simp only [off_addO, tysz, lens, off, offE] <;> omega))) | (refine cond_t ?hc ?_; case hc => first | rfl | assumption | (rw [decide_eq_true_eq]; omega) | (rw [decide_eq_false_iff_not]; omega) | (simp <;> omega)) | (refine cond_f ?hc ?_; case hc => first | rfl | assumption | (rw [decide_eq_true_eq]; omega) | (rw [decide_eq_false_iff_not]; omega) | (simp <;> omega)) | refine same_i ?_)
              conv => whnf
              refine final_h (hp' := []) [] h ?_
              repeat ((conv => whnf); first | (refine pre_i ?hc ?_; case hc => first | exact (show planOK _ _ _ = true from by kernel_rfl) | assumption | omega | (unfold fits; omega) | decide +kernel | (constructor <;> first | assumption | omega) | (simp only [off_addO, tysz, off, offE] <;> omega) | (simp only [lens, off_addO, off, offE] <;> omega) | (simp only [off_addO, tysz, lens, off, offE] <;> omega) | (constructor <;> first | assumption | (simp only [off_addO, tysz, lens, off, offE] <;> omega))) | (refine cond_t ?hc ?_; case hc => first | rfl | assumption | (rw [decide_eq_true_eq]; omega) | (rw [decide_eq_false_iff_not]; omega) | (simp <;> omega)) | (refine cond_f ?hc ?_; case hc => first | rfl | assumption | (rw [decide_eq_true_eq]; omega) | (rw [decide_eq_false_iff_not]; omega) | (simp <;> omega)) | refine same_i ?_)
              conv => whnf
              refine same_q (by rw [eB3]; rfl) ?_
              exact trivial
            · have h := h (beV (B.set 0 0)) (small_top hBl hw)
              rw [beB_beV 32 (B.set 0 0) hC] at h
              repeat ((conv => whnf); first | (refine pre_i ?hc ?_; case hc => first | exact (show planOK _ _ _ = true from by kernel_rfl) | assumption | omega | (unfold fits; omega) | decide +kernel | (constructor <;> first | assumption | omega) | (simp only [off_addO, tysz, off, offE] <;> omega) | (simp only [lens, off_addO, off, offE] <;> omega) | (simp only [off_addO, tysz, lens, off, offE] <;> omega) | (constructor <;> first | assumption | (simp only [off_addO, tysz, lens, off, offE] <;> omega))) | (refine cond_t ?hc ?_; case hc => first | rfl | assumption | (rw [decide_eq_true_eq]; omega) | (rw [decide_eq_false_iff_not]; omega) | (simp <;> omega)) | (refine cond_f ?hc ?_; case hc => first | rfl | assumption | (rw [decide_eq_true_eq]; omega) | (rw [decide_eq_false_iff_not]; omega) | (simp <;> omega)) | refine same_i ?_)
              conv => whnf
              refine final_h (hp' := []) [] h ?_
              repeat ((conv => whnf); first | (refine pre_i ?hc ?_; case hc => first | exact (show planOK _ _ _ = true from by kernel_rfl) | assumption | omega | (unfold fits; omega) | decide +kernel | (constructor <;> first | assumption | omega) | (simp only [off_addO, tysz, off, offE] <;> omega) | (simp only [lens, off_addO, off, offE] <;> omega) | (simp only [off_addO, tysz, lens, off, offE] <;> omega) | (constructor <;> first | assumption | (simp only [off_addO, tysz, lens, off, offE] <;> omega))) | (refine cond_t ?hc ?_; case hc => first | rfl | assumption | (rw [decide_eq_true_eq]; omega) | (rw [decide_eq_false_iff_not]; omega) | (simp <;> omega)) | (refine cond_f ?hc ?_; case hc => first | rfl | assumption | (rw [decide_eq_true_eq]; omega) | (rw [decide_eq_false_iff_not]; omega) | (simp <;> omega)) | refine same_i ?_)
              conv => whnf
              refine same_q (by rw [← eC]; rfl) ?_
              exact trivial
    · exact h.elim
end Go.Sym.N

namespace Go.Sym.N
open Go Go.Proofs.Try Go.Sym.Num
open Go.Sym.X
set_option maxRecDepth 100000
attribute [local irreducible] md beB beV mo toM clampV topV ladM sharedV nineB

/-- the orders of the drawn regions of halberdlaw10.XcurveTop -/
def pl12 : List (Nat × List PStep) := [(3, [⟨0, []⟩, ⟨1, [0]⟩, ⟨2, [1]⟩, ⟨3, []⟩]), (25, [⟨0, []⟩, ⟨1, []⟩, ⟨2, []⟩, ⟨3, [0, 1, 2]⟩, ⟨4, [0, 1, 2]⟩, ⟨5, []⟩, ⟨6, []⟩, ⟨7, []⟩, ⟨8, [7]⟩, ⟨9, [8]⟩, ⟨10, []⟩])]
/-- the orders of the drawn regions of halberdlaw10.XcurveReduced -/
def pl13 : List (Nat × List PStep) := [(3, [⟨0, []⟩, ⟨1, [0]⟩, ⟨2, [0, 1]⟩, ⟨3, [1, 2]⟩, ⟨4, [2]⟩, ⟨5, []⟩])]

/-- a text's bytes over noughts -/
def cpSt (s : List UInt8) : Nat → List UInt8
  | 0 => List.replicate 32 0
  | i + 1 => if i < s.length then (cpSt s i).set i (s.getD i 0) else cpSt s i
theorem cpSt_len (s : List UInt8) : ∀ i, (cpSt s i).length = 32
  | 0 => List.length_replicate
  | i + 1 => by
    simp only [cpSt]
    split
    · rw [List.length_set]; exact cpSt_len s i
    · exact cpSt_len s i
theorem cpSt_t {s : List UInt8} {i : Nat} (h : i < s.length) : cpSt s (i + 1) = (cpSt s i).set i (s.getD i 0) := by simp only [cpSt]; rw [if_pos h]
theorem cpSt_f {s : List UInt8} {i : Nat} (h : ¬ i < s.length) : cpSt s (i + 1) = cpSt s i := by simp only [cpSt]; rw [if_neg h]
theorem cpSt_zero (s : List UInt8) : cpSt s 0 = List.replicate 32 0 := rfl
/-- the bytes 255, one after the other -/
def ffSt : Nat → List UInt8
  | 0 => List.replicate 32 0
  | i + 1 => (ffSt i).set i (UInt8.ofNat 255)
theorem ffSt_len : ∀ i, (ffSt i).length = 32
  | 0 => List.length_replicate
  | i + 1 => by simp only [ffSt, List.length_set]; exact ffSt_len i
theorem ffSt_all : ffSt 32 = List.replicate 32 255 := by decide +kernel
/-- a point's highest bit does not count -/
theorem beV_last {b : List UInt8} (h : b.length = 32) (t : UInt8) : beV (b.set 31 t).reverse = t.toNat * 256 ^ 31 + beV (b.take 31).reverse := by
  obtain ⟨m, x, rfl⟩ := snoc_of b (by omega)
  have hm : m.length = 31 := by simpa using h
  rw [List.set_append_right _ _ (by omega), hm, List.take_left' hm]
  show beV (m ++ [t]).reverse = _
  rw [List.reverse_append, List.reverse_cons, List.reverse_nil, List.nil_append, List.singleton_append, X.beV_cons, List.length_reverse, hm]
theorem xor128 (x : UInt8) : (x ^^^ UInt8.ofNat 128).toNat % 128 = x.toNat % 128 := by
  have h := x.toNat_lt
  have k : ∀ n, n < 256 → (n ^^^ 128) % 128 = n % 128 := by decide +kernel
  rw [UInt8.toNat_xor, show (UInt8.ofNat 128).toNat = 128 by decide]
  exact k _ (by simpa using h)
theorem top_bit {b : List UInt8} (h : b.length = 32) : topV (beV (b.set 31 (b.getD 31 0 ^^^ UInt8.ofNat 128)).reverse) = topV (beV b.reverse) := by
  have e : b.set 31 (b.getD 31 0) = b := by
    apply List.ext_getElem?
    intro j
    rw [List.getElem?_set]
    by_cases hj : 31 = j
    · subst hj
      rw [if_pos rfl, if_pos (by omega), List.getD_eq_getElem?_getD, List.getElem?_eq_getElem (by omega)]; rfl
    · rw [if_neg hj]
  have h1 := beV_last h (b.getD 31 0)
  rw [e] at h1
  rw [beV_last h, h1]
  have hx := xor128 (b.getD 31 0)
  have hl := beV_lt 31 (b.take 31).reverse (by rw [List.length_reverse, List.length_take, h]; rfl)
  have e1 : (256 ^ 31 : Nat) = 452312848583266388373324160190187140051835877600158453279131187530910662656 := by decide
  rw [e1] at hl
  rw [e1]
  unfold topV
  omega
theorem shared_top {a b : List UInt8} (h : b.length = 32) : sharedV a (b.set 31 (b.getD 31 0 ^^^ UInt8.ofNat 128)) = sharedV a b := by
  unfold sharedV
  rw [top_bit h]
theorem shared_small {a b : List UInt8} (h : topV (beV b.reverse) % md 2 = 0 ∨ topV (beV b.reverse) % md 2 = 1 ∨ topV (beV b.reverse) % md 2 = md 2 - 1) : sharedV a b = 0 := by
  unfold sharedV
  rcases h with h | h | h <;> rw [h]
  · exact small0 _
  · exact small1 _
  · exact smallM _
theorem small_z (a : List UInt8) {n : Nat} (h : n = 0 ∨ n = 1) : sharedV a ((List.replicate 32 0).set 0 (UInt8.ofNat n)) = 0 := by
  refine shared_small ?_
  rcases h with rfl | rfl
  · left; decide +kernel
  · right; left; decide +kernel
theorem small_prime (a : List UInt8) {n : Nat} (h : n = 236 ∨ n = 237) : sharedV a (((List.replicate 32 255).set 31 (UInt8.ofNat 127)).set 0 (UInt8.ofNat n)) = 0 := by
  refine shared_small ?_
  rcases h with rfl | rfl
  · right; right; decide +kernel
  · left; decide +kernel
theorem xcurveTop_vc (w : World) (x y : List UInt8) (z : Int) :
    fnVC (lawG f12.ntmps tys lawFnX w []) pl12 (codeOf f12) f12.results.toList [.str x, .str y, .int z] [] (fun r _ => r = .bool true) := by
  repeat ((conv => whnf); first | (refine pre_i ?hc ?_; case hc => first | exact (show planOK _ _ _ = true from by kernel_rfl) | assumption | omega | (unfold fits; omega) | decide +kernel | (constructor <;> first | assumption | omega) | (simp only [off_addO, tysz, off, offE] <;> omega) | (simp only [lens, off_addO, off, offE] <;> omega) | (simp only [off_addO, tysz, lens, off, offE] <;> omega) | (constructor <;> first | assumption | (simp only [off_addO, tysz, lens, off, offE] <;> omega))) | (refine cond_t ?hc ?_; case hc => first | rfl | assumption | (rw [decide_eq_true_eq]; omega) | (rw [decide_eq_false_iff_not]; omega) | (simp <;> omega)) | (refine cond_f ?hc ?_; case hc => first | rfl | assumption | (rw [decide_eq_true_eq]; omega) | (rw [decide_eq_false_iff_not]; omega) | (simp <;> omega)) | refine same_i ?_)
  conv => whnf
  refine loop_h (Ix 32) (fun q => ⟨[(0, .str x), (1, .str y), (2, .int z), (7, .sl 0 0 0 [] 32 32), (8, .sl 1 0 0 [] 32 32), (9, .int q.i)],
    [.mk 5 [.arr8 32 (cpSt x q.i)], .mk 5 [.arr8 32 (cpSt y q.i)]]⟩)
    (fun q => 32 - q.i) ⟨0, Nat.zero_le _⟩ [0, 1] ?_ ?_
  · repeat ((conv => whnf); first | (refine pre_i ?hc ?_; case hc => first | exact (show planOK _ _ _ = true from by kernel_rfl) | assumption | omega | (unfold fits; omega) | decide +kernel | (constructor <;> first | assumption | omega) | (simp only [off_addO, tysz, off, offE] <;> omega) | (simp only [lens, off_addO, off, offE] <;> omega) | (simp only [off_addO, tysz, lens, off, offE] <;> omega) | (constructor <;> first | assumption | (simp only [off_addO, tysz, lens, off, offE] <;> omega))) | (refine cond_t ?hc ?_; case hc => first | rfl | assumption | (rw [decide_eq_true_eq]; omega) | (rw [decide_eq_false_iff_not]; omega) | (simp <;> omega)) | (refine cond_f ?hc ?_; case hc => first | rfl | assumption | (rw [decide_eq_true_eq]; omega) | (rw [decide_eq_false_iff_not]; omega) | (simp <;> omega)) | refine same_i ?_)
    exact trivial
  · intro q
    have hi := q.hi
    have hlx := cpSt_len x q.i
    have hly := cpSt_len y q.i
    have hI : ((q.i : Int)).toNat = q.i := Int.toNat_natCast _
    by_cases h4 : q.i < 32
    · by_cases h1 : q.i < x.length
      · by_cases h2 : q.i < y.length
        · repeat ((conv => whnf); first | (refine pre_i ?hc ?_; case hc => first | exact (show planOK _ _ _ = true from by kernel_rfl) | assumption | omega | (unfold fits; omega) | decide +kernel | (constructor <;> first | assumption | omega) | (simp only [off_addO, tysz, off, offE] <;> omega) | (simp only [lens, off_addO, off, offE] <;> omega) | (simp only [off_addO, tysz, lens, off, offE] <;> omega) | (constructor <;> first | assumption | (simp only [off_addO, tysz, lens, off, offE] <;> omega))) | (refine cond_t ?hc ?_; case hc => first | rfl | assumption | (rw [decide_eq_true_eq]; omega) | (rw [decide_eq_false_iff_not]; omega) | (simp <;> omega)) | (refine cond_f ?hc ?_; case hc => first | rfl | assumption | (rw [decide_eq_true_eq]; omega) | (rw [decide_eq_false_iff_not]; omega) | (simp <;> omega)) | refine same_i ?_)
          conv => whnf
          refine ⟨⟨q.i + 1, h4⟩, [0, 1], ?_, ?_⟩
          · show 32 - (q.i + 1) < 32 - q.i
            omega
          · repeat ((conv => whnf); first | (refine pre_i ?hc ?_; case hc => first | exact (show planOK _ _ _ = true from by kernel_rfl) | assumption | omega | (unfold fits; omega) | decide +kernel | (constructor <;> first | assumption | omega) | (simp only [off_addO, tysz, off, offE] <;> omega) | (simp only [lens, off_addO, off, offE] <;> omega) | (simp only [off_addO, tysz, lens, off, offE] <;> omega) | (constructor <;> first | assumption | (simp only [off_addO, tysz, lens, off, offE] <;> omega))) | (refine cond_t ?hc ?_; case hc => first | rfl | assumption | (rw [decide_eq_true_eq]; omega) | (rw [decide_eq_false_iff_not]; omega) | (simp <;> omega)) | (refine cond_f ?hc ?_; case hc => first | rfl | assumption | (rw [decide_eq_true_eq]; omega) | (rw [decide_eq_false_iff_not]; omega) | (simp <;> omega)) | refine same_i ?_)
            conv => whnf
            refine same_q (by rw [cpSt_t h1]; rfl) ?_
            repeat ((conv => whnf); first | (refine pre_i ?hc ?_; case hc => first | exact (show planOK _ _ _ = true from by kernel_rfl) | assumption | omega | (unfold fits; omega) | decide +kernel | (constructor <;> first | assumption | omega) | (simp only [off_addO, tysz, off, offE] <;> omega) | (simp only [lens, off_addO, off, offE] <;> omega) | (simp only [off_addO, tysz, lens, off, offE] <;> omega) | (constructor <;> first | assumption | (simp only [off_addO, tysz, lens, off, offE] <;> omega))) | (refine cond_t ?hc ?_; case hc => first | rfl | assumption | (rw [decide_eq_true_eq]; omega) | (rw [decide_eq_false_iff_not]; omega) | (simp <;> omega)) | (refine cond_f ?hc ?_; case hc => first | rfl | assumption | (rw [decide_eq_true_eq]; omega) | (rw [decide_eq_false_iff_not]; omega) | (simp <;> omega)) | refine same_i ?_)
            conv => whnf
            refine same_q (by rw [cpSt_t h2]; rfl) ?_
            repeat ((conv => whnf); first | (refine pre_i ?hc ?_; case hc => first | exact (show planOK _ _ _ = true from by kernel_rfl) | assumption | omega | (unfold fits; omega) | decide +kernel | (constructor <;> first | assumption | omega) | (simp only [off_addO, tysz, off, offE] <;> omega) | (simp only [lens, off_addO, off, offE] <;> omega) | (simp only [off_addO, tysz, lens, off, offE] <;> omega) | (constructor <;> first | assumption | (simp only [off_addO, tysz, lens, off, offE] <;> omega))) | (refine cond_t ?hc ?_; case hc => first | rfl | assumption | (rw [decide_eq_true_eq]; omega) | (rw [decide_eq_false_iff_not]; omega) | (simp <;> omega)) | (refine cond_f ?hc ?_; case hc => first | rfl | assumption | (rw [decide_eq_true_eq]; omega) | (rw [decide_eq_false_iff_not]; omega) | (simp <;> omega)) | refine same_i ?_)
            exact trivial
        · repeat ((conv => whnf); first | (refine pre_i ?hc ?_; case hc => first | exact (show planOK _ _ _ = true from by kernel_rfl) | assumption | omega | (unfold fits; omega) | decide +kernel | (constructor <;> first | assumption | omega) | (simp only [off_addO, tysz, off, offE] <;> omega) | (simp only [lens, off_addO, off, offE] <;> omega) | (simp only [off_addO, tysz, lens, off, offE] <;> omega) | (constructor <;> first | assumption | (simp only [off_addO, tysz, lens, off, offE] <;> omega))) | (refine cond_t ?hc ?_; case hc => first | rfl | assumption | (rw [decide_eq_true_eq]; omega) | (rw [decide_eq_false_iff_not]; omega) | (simp <;> omega)) | (refine cond_f ?hc ?_; case hc => first | rfl | assumption | (rw [decide_eq_true_eq]; omega) | (rw [decide_eq_false_iff_not]; omega) | (simp <;> omega)) | refine same_i ?_)
          conv => whnf
          refine ⟨⟨q.i + 1, h4⟩, [0, 1], ?_, ?_⟩
          · show 32 - (q.i + 1) < 32 - q.i
            omega
          · repeat ((conv => whnf); first | (refine pre_i ?hc ?_; case hc => first | exact (show planOK _ _ _ = true from by kernel_rfl) | assumption | omega | (unfold fits; omega) | decide +kernel | (constructor <;> first | assumption | omega) | (simp only [off_addO, tysz, off, offE] <;> omega) | (simp only [lens, off_addO, off, offE] <;> omega) | (simp only [off_addO, tysz, lens, off, offE] <;> omega) | (constructor <;> first | assumption | (simp only [off_addO, tysz, lens, off, offE] <;> omega))) | (refine cond_t ?hc ?_; case hc => first | rfl | assumption | (rw [decide_eq_true_eq]; omega) | (rw [decide_eq_false_iff_not]; omega) | (simp <;> omega)) | (refine cond_f ?hc ?_; case hc => first | rfl | assumption | (rw [decide_eq_true_eq]; omega) | (rw [decide_eq_false_iff_not]; omega) | (simp <;> omega)) | refine same_i ?_)
            conv => whnf
            refine same_q (by rw [cpSt_t h1]; rfl) ?_
            repeat ((conv => whnf); first | (refine pre_i ?hc ?_; case hc => first | exact (show planOK _ _ _ = true from by kernel_rfl) | assumption | omega | (unfold fits; omega) | decide +kernel | (constructor <;> first | assumption | omega) | (simp only [off_addO, tysz, off, offE] <;> omega) | (simp only [lens, off_addO, off, offE] <;> omega) | (simp only [off_addO, tysz, lens, off, offE] <;> omega) | (constructor <;> first | assumption | (simp only [off_addO, tysz, lens, off, offE] <;> omega))) | (refine cond_t ?hc ?_; case hc => first | rfl | assumption | (rw [decide_eq_true_eq]; omega) | (rw [decide_eq_false_iff_not]; omega) | (simp <;> omega)) | (refine cond_f ?hc ?_; case hc => first | rfl | assumption | (rw [decide_eq_true_eq]; omega) | (rw [decide_eq_false_iff_not]; omega) | (simp <;> omega)) | refine same_i ?_)
            conv => whnf
            refine same_q (by rw [cpSt_f h2]; rfl) ?_
            repeat ((conv => whnf); first | (refine pre_i ?hc ?_; case hc => first | exact (show planOK _ _ _ = true from by kernel_rfl) | assumption | omega | (unfold fits; omega) | decide +kernel | (constructor <;> first | assumption | omega) | (simp only [off_addO, tysz, off, offE] <;> omega) | (simp only [lens, off_addO, off, offE] <;> omega) | (simp only [off_addO, tysz, lens, off, offE] <;> omega) | (constructor <;> first | assumption | (simp only [off_addO, tysz, lens, off, offE] <;> omega))) | (refine cond_t ?hc ?_; case hc => first | rfl | assumption | (rw [decide_eq_true_eq]; omega) | (rw [decide_eq_false_iff_not]; omega) | (simp <;> omega)) | (refine cond_f ?hc ?_; case hc => first | rfl | assumption | (rw [decide_eq_true_eq]; omega) | (rw [decide_eq_false_iff_not]; omega) | (simp <;> omega)) | refine same_i ?_)
            exact trivial
      · by_cases h2 : q.i < y.length
        · repeat ((conv => whnf); first | (refine pre_i ?hc ?_; case hc => first | exact (show planOK _ _ _ = true from by kernel_rfl) | assumption | omega | (unfold fits; omega) | decide +kernel | (constructor <;> first | assumption | omega) | (simp only [off_addO, tysz, off, offE] <;> omega) | (simp only [lens, off_addO, off, offE] <;> omega) | (simp only [off_addO, tysz, lens, off, offE] <;> omega) | (constructor <;> first | assumption | (simp only [off_addO, tysz, lens, off, offE] <;> omega))) | (refine cond_t ?hc ?_; case hc => first | rfl | assumption | (rw [decide_eq_true_eq]; omega) | (rw [decide_eq_false_iff_not]; omega) | (simp <;> omega)) | (refine cond_f ?hc ?_; case hc => first | rfl | assumption | (rw [decide_eq_true_eq]; omega) | (rw [decide_eq_false_iff_not]; omega) | (simp <;> omega)) | refine same_i ?_)
          conv => whnf
          refine ⟨⟨q.i + 1, h4⟩, [0, 1], ?_, ?_⟩
          · show 32 - (q.i + 1) < 32 - q.i
            omega
          · repeat ((conv => whnf); first | (refine pre_i ?hc ?_; case hc => first | exact (show planOK _ _ _ = true from by kernel_rfl) | assumption | omega | (unfold fits; omega) | decide +kernel | (constructor <;> first | assumption | omega) | (simp only [off_addO, tysz, off, offE] <;> omega) | (simp only [lens, off_addO, off, offE] <;> omega) | (simp only [off_addO, tysz, lens, off, offE] <;> omega) | (constructor <;> first | assumption | (simp only [off_addO, tysz, lens, off, offE] <;> omega))) | (refine cond_t ?hc ?_; case hc => first | rfl | assumption | (rw [decide_eq_true_eq]; omega) | (rw [decide_eq_false_iff_not]; omega) | (simp <;> omega)) | (refine cond_f ?hc ?_; case hc => first | rfl | assumption | (rw [decide_eq_true_eq]; omega) | (rw [decide_eq_false_iff_not]; omega) | (simp <;> omega)) | refine same_i ?_)
            conv => whnf
            refine same_q (by rw [cpSt_f h1]; rfl) ?_
            repeat ((conv => whnf); first | (refine pre_i ?hc ?_; case hc => first | exact (show planOK _ _ _ = true from by kernel_rfl) | assumption | omega | (unfold fits; omega) | decide +kernel | (constructor <;> first | assumption | omega) | (simp only [off_addO, tysz, off, offE] <;> omega) | (simp only [lens, off_addO, off, offE] <;> omega) | (simp only [off_addO, tysz, lens, off, offE] <;> omega) | (constructor <;> first | assumption | (simp only [off_addO, tysz, lens, off, offE] <;> omega))) | (refine cond_t ?hc ?_; case hc => first | rfl | assumption | (rw [decide_eq_true_eq]; omega) | (rw [decide_eq_false_iff_not]; omega) | (simp <;> omega)) | (refine cond_f ?hc ?_; case hc => first | rfl | assumption | (rw [decide_eq_true_eq]; omega) | (rw [decide_eq_false_iff_not]; omega) | (simp <;> omega)) | refine same_i ?_)
            conv => whnf
            refine same_q (by rw [cpSt_t h2]; rfl) ?_
            repeat ((conv => whnf); first | (refine pre_i ?hc ?_; case hc => first | exact (show planOK _ _ _ = true from by kernel_rfl) | assumption | omega | (unfold fits; omega) | decide +kernel | (constructor <;> first | assumption | omega) | (simp only [off_addO, tysz, off, offE] <;> omega) | (simp only [lens, off_addO, off, offE] <;> omega) | (simp only [off_addO, tysz, lens, off, offE] <;> omega) | (constructor <;> first | assumption | (simp only [off_addO, tysz, lens, off, offE] <;> omega))) | (refine cond_t ?hc ?_; case hc => first | rfl | assumption | (rw [decide_eq_true_eq]; omega) | (rw [decide_eq_false_iff_not]; omega) | (simp <;> omega)) | (refine cond_f ?hc ?_; case hc => first | rfl | assumption | (rw [decide_eq_true_eq]; omega) | (rw [decide_eq_false_iff_not]; omega) | (simp <;> omega)) | refine same_i ?_)
            exact trivial
        · repeat ((conv => whnf); first | (refine pre_i ?hc ?_; case hc => first | exact (show planOK _ _ _ = true from by kernel_rfl) | assumption | omega | (unfold fits; omega) | decide +kernel | (constructor <;> first | assumption | omega) | (simp only [off_addO, tysz, off, offE] <;> omega) | (simp only [lens, off_addO, off, offE] <;> omega) | (simp only [off_addO, tysz, lens, off, offE] <;> omega) | (constructor <;> first | assumption | (simp only [off_addO, tysz, lens, off, offE] <;> omega))) | (refine cond_t ?hc ?_; case hc => first | rfl | assumption | (rw [decide_eq_true_eq]; omega) | (rw [decide_eq_false_iff_not]; omega) | (simp <;> omega)) | (refine cond_f ?hc ?_; case hc => first | rfl | assumption | (rw [decide_eq_true_eq]; omega) | (rw [decide_eq_false_iff_not]; omega) | (simp <;> omega)) | refine same_i ?_)
          conv => whnf
          refine ⟨⟨q.i + 1, h4⟩, [0, 1], ?_, ?_⟩
          · show 32 - (q.i + 1) < 32 - q.i
            omega
          · repeat ((conv => whnf); first | (refine pre_i ?hc ?_; case hc => first | exact (show planOK _ _ _ = true from by kernel_rfl) | assumption | omega | (unfold fits; omega) | decide +kernel | (constructor <;> first | assumption | omega) | (simp only [off_addO, tysz, off, offE] <;> omega) | (simp only [lens, off_addO, off, offE] <;> omega) | (simp only [off_addO, tysz, lens, off, offE] <;> omega) | (constructor <;> first | assumption | (simp only [off_addO, tysz, lens, off, offE] <;> omega))) | (refine cond_t ?hc ?_; case hc => first | rfl | assumption | (rw [decide_eq_true_eq]; omega) | (rw [decide_eq_false_iff_not]; omega) | (simp <;> omega)) | (refine cond_f ?hc ?_; case hc => first | rfl | assumption | (rw [decide_eq_true_eq]; omega) | (rw [decide_eq_false_iff_not]; omega) | (simp <;> omega)) | refine same_i ?_)
            conv => whnf
            refine same_q (by rw [cpSt_f h1]; rfl) ?_
            repeat ((conv => whnf); first | (refine pre_i ?hc ?_; case hc => first | exact (show planOK _ _ _ = true from by kernel_rfl) | assumption | omega | (unfold fits; omega) | decide +kernel | (constructor <;> first | assumption | omega) | (simp only [off_addO, tysz, off, offE] <;> omega) | (simp only [lens, off_addO, off, offE] <;> omega) | (simp only [off_addO, tysz, lens, off, offE] <;> omega) | (constructor <;> first | assumption | (simp only [off_addO, tysz, lens, off, offE] <;> omega))) | (refine cond_t ?hc ?_; case hc => first | rfl | assumption | (rw [decide_eq_true_eq]; omega) | (rw [decide_eq_false_iff_not]; omega) | (simp <;> omega)) | (refine cond_f ?hc ?_; case hc => first | rfl | assumption | (rw [decide_eq_true_eq]; omega) | (rw [decide_eq_false_iff_not]; omega) | (simp <;> omega)) | refine same_i ?_)
            conv => whnf
            refine same_q (by rw [cpSt_f h2]; rfl) ?_
            repeat ((conv => whnf); first | (refine pre_i ?hc ?_; case hc => first | exact (show planOK _ _ _ = true from by kernel_rfl) | assumption | omega | (unfold fits; omega) | decide +kernel | (constructor <;> first | assumption | omega) | (simp only [off_addO, tysz, off, offE] <;> omega) | (simp only [lens, off_addO, off, offE] <;> omega) | (simp only [off_addO, tysz, lens, off, offE] <;> omega) | (constructor <;> first | assumption | (simp only [off_addO, tysz, lens, off, offE] <;> omega))) | (refine cond_t ?hc ?_; case hc => first | rfl | assumption | (rw [decide_eq_true_eq]; omega) | (rw [decide_eq_false_iff_not]; omega) | (simp <;> omega)) | (refine cond_f ?hc ?_; case hc => first | rfl | assumption | (rw [decide_eq_true_eq]; omega) | (rw [decide_eq_false_iff_not]; omega) | (simp <;> omega)) | refine same_i ?_)
            exact trivial
    · have e4 : q.i = 32 := by omega
      rw [e4] at hlx hly
      have ta : List.take 32 (List.drop (off []) (cpSt x 32)) = cpSt x 32 := List.take_of_length_le (Nat.le_of_eq hlx)
      have tb : List.take 32 (List.drop (off []) (cpSt y 32)) = cpSt y 32 := List.take_of_length_le (Nat.le_of_eq hly)
      rw [e4]
      generalize cpSt x 32 = A at *
      generalize cpSt y 32 = B at *
      repeat ((conv => whnf); first | (refine pre_i ?hc ?_; case hc => first | exact (show planOK _ _ _ = true from by kernel_rfl) | assumption | omega | (unfold fits; omega) | decide +kernel | (constructor <;> first | assumption | omega) | (simp only [off_addO, tysz, off, offE] <;> omega) | (simp only [lens, off_addO, off, offE] <;> omega) | (simp only [off_addO, tysz, lens, off, offE] <;> omega) | (constructor <;> first | assumption | (simp only [off_addO, tysz, lens, off, offE] <;> omega))) | (refine cond_t ?hc ?_; case hc => first | rfl | assumption | (rw [decide_eq_true_eq]; omega) | (rw [decide_eq_false_iff_not]; omega) | (simp <;> omega)) | (refine cond_f ?hc ?_; case hc => first | rfl | assumption | (rw [decide_eq_true_eq]; omega) | (rw [decide_eq_false_iff_not]; omega) | (simp <;> omega)) | refine same_i ?_)
      conv => whnf
      rw [ta, tb]
      have d1 : decide (A.length = 32 ∧ B.length = 32) = true := decide_eq_true ⟨hlx, hly⟩
      obtain ⟨B', hB'⟩ : ∃ B', B' = B.set 31 (B.getD 31 0 ^^^ UInt8.ofNat 128) := ⟨_, rfl⟩
      have hlB : B'.length = 32 := by rw [hB', List.length_set]; exact hly
      have tB : List.take 32 (List.drop (off []) (B.set (off (addO [] (Int.toNat 31) ty5.sz)) (B.getD (off (addO [] (Int.toNat 31) ty5.sz)) 0 ^^^ UInt8.ofNat 128))) = B' := by
        rw [hB']; exact List.take_of_length_le (by rw [List.length_drop, List.length_set]; exact Nat.le_trans (Nat.sub_le _ _) (Nat.le_of_eq hly))
      have d2 : decide (A.length = 32 ∧ B'.length = 32) = true := decide_eq_true ⟨hlx, hlB⟩
      obtain ⟨Z, hZ⟩ : ∃ Z, Z = (List.replicate 32 0).set 0 (UInt8.ofInt (ibits .and z 1)) := ⟨_, rfl⟩
      have hlZ : Z.length = 32 := by rw [hZ, List.length_set, List.length_replicate]
      have tZ : List.take (Int.toNat 32) (List.drop (off []) ((List.replicate (Int.toNat 32) 0).set (off (addO [] (Int.toNat 0) ty5.sz)) (UInt8.ofInt (ibits .and z 1)))) = Z := by
        rw [hZ]; exact List.take_of_length_le (by rw [List.length_drop, List.length_set, List.length_replicate]; decide)
      have d3 : decide (A.length = 32 ∧ Z.length = 32) = true := decide_eq_true ⟨hlx, hlZ⟩
      have h3 : decide (sharedV A Z = 0) = true := decide_eq_true (by
        have hb := ibits_and (a := z) (m := 1) (by decide) (by decide)
        rw [hZ]
        obtain e | e : ibits .and z 1 = 0 ∨ ibits .and z 1 = 1 := by omega
        · rw [e]; exact small_z A (.inl rfl)
        · rw [e]; exact small_z A (.inr rfl))
      obtain ⟨T, hT⟩ : ∃ T, T = ((List.replicate 32 255).set 31 (UInt8.ofNat 127)).set 0 (UInt8.ofInt (236 + ibits .and (z / 2 ^ (UInt64.ofNat 1).toNat) 1)) := ⟨_, rfl⟩
      have hlT : T.length = 32 := by rw [hT, List.length_set, List.length_set, List.length_replicate]
      have tT : List.take 32 (List.drop (off []) (((List.replicate 32 255).set (off (addO [] (Int.toNat 31) ty5.sz)) (UInt8.ofNat 127)).set (off (addO [] (Int.toNat 0) ty5.sz)) (UInt8.ofInt (236 + ibits .and (z / 2 ^ (UInt64.ofNat 1).toNat) 1)))) = T := by
        rw [hT]; exact List.take_of_length_le (by rw [List.length_drop, List.length_set, List.length_set, List.length_replicate]; decide)
      have d4 : decide (A.length = 32 ∧ T.length = 32) = true := decide_eq_true ⟨hlx, hlT⟩
      have hb2 := ibits_and (a := z / 2 ^ (UInt64.ofNat 1).toNat) (m := 1) (by decide) (by decide)
      have h4' : decide (sharedV A T = 0) = true := decide_eq_true (by
        rw [hT]
        obtain e | e : ibits .and (z / 2 ^ (UInt64.ofNat 1).toNat) 1 = 0 ∨ ibits .and (z / 2 ^ (UInt64.ofNat 1).toNat) 1 = 1 := by omega
        · rw [e]; exact small_prime A (.inl rfl)
        · rw [e]; exact small_prime A (.inr rfl))
      have d6 : decide ((beB 32 (sharedV A B)).reverse = (beB 32 (sharedV A B')).reverse) = true := decide_eq_true (by rw [hB', shared_top hly])
      have d7 : decide (((beB 32 (sharedV A B)).reverse.length : Int) = 32) = true := decide_eq_true (by rw [List.length_reverse, beB_len]; rfl)
      generalize hV : decide (sharedV A B = 0) = c
      have hV2 : decide (sharedV A B' = 0) = c := by rw [hB', shared_top hly]; exact hV
      have t31 : (List.take (Int.toNat 31) (List.drop (off []) A)).length = 31 := by rw [List.length_take, List.length_drop, hlx]; rfl
      have d5 : decide ((List.take (Int.toNat 31) (List.drop (off []) A)).length = 32 ∧ B'.length = 32) = false := decide_eq_false (fun h => by rw [t31] at h; omega)
      cases c
      · repeat ((conv => whnf); first | (refine pre_i ?hc ?_; case hc => first | exact (show planOK _ _ _ = true from by kernel_rfl) | assumption | omega | (unfold fits; omega) | decide +kernel | (constructor <;> first | assumption | omega) | (simp only [off_addO, tysz, off, offE] <;> omega) | (simp only [lens, off_addO, off, offE] <;> omega) | (simp only [off_addO, tysz, lens, off, offE] <;> omega) | (constructor <;> first | assumption | (simp only [off_addO, tysz, lens, off, offE] <;> omega))) | (refine cond_t ?hc ?_; case hc => first | rfl | assumption | (rw [decide_eq_true_eq]; omega) | (rw [decide_eq_false_iff_not]; omega) | (simp <;> omega) | exact d1 | exact hV) | (refine cond_f ?hc ?_; case hc => first | rfl | assumption | (rw [decide_eq_true_eq]; omega) | (rw [decide_eq_false_iff_not]; omega) | (simp <;> omega) | exact d1 | exact hV) | refine same_i ?_)
        conv => whnf
        rw [ta, tB]
        repeat ((conv => whnf); first | (refine pre_i ?hc ?_; case hc => first | exact (show planOK _ _ _ = true from by kernel_rfl) | assumption | omega | (unfold fits; omega) | decide +kernel | (constructor <;> first | assumption | omega) | (simp only [off_addO, tysz, off, offE] <;> omega) | (simp only [lens, off_addO, off, offE] <;> omega) | (simp only [off_addO, tysz, lens, off, offE] <;> omega) | (constructor <;> first | assumption | (simp only [off_addO, tysz, lens, off, offE] <;> omega))) | (refine cond_t ?hc ?_; case hc => first | rfl | assumption | (rw [decide_eq_true_eq]; omega) | (rw [decide_eq_false_iff_not]; omega) | (simp <;> omega) | exact d2 | exact hV2) | (refine cond_f ?hc ?_; case hc => first | rfl | assumption | (rw [decide_eq_true_eq]; omega) | (rw [decide_eq_false_iff_not]; omega) | (simp <;> omega) | exact d2 | exact hV2) | refine same_i ?_)
        conv => whnf
        rw [ta, tZ]
        repeat ((conv => whnf); first | (refine pre_i ?hc ?_; case hc => first | exact (show planOK _ _ _ = true from by kernel_rfl) | assumption | omega | (unfold fits; omega) | decide +kernel | (constructor <;> first | assumption | omega) | (simp only [off_addO, tysz, off, offE] <;> omega) | (simp only [lens, off_addO, off, offE] <;> omega) | (simp only [off_addO, tysz, lens, off, offE] <;> omega) | (constructor <;> first | assumption | (simp only [off_addO, tysz, lens, off, offE] <;> omega))) | (refine cond_t ?hc ?_; case hc => first | rfl | assumption | (rw [decide_eq_true_eq]; omega) | (rw [decide_eq_false_iff_not]; omega) | (simp <;> omega) | exact d3 | exact h3) | (refine cond_f ?hc ?_; case hc => first | rfl | assumption | (rw [decide_eq_true_eq]; omega) | (rw [decide_eq_false_iff_not]; omega) | (simp <;> omega) | exact d3 | exact h3) | refine same_i ?_)
        conv => whnf
        refine loop_h (Ix 32) (fun q => ⟨[(0, .str x), (1, .str y), (2, .int z), (7, .sl 0 0 0 [] 32 32), (8, .sl 1 0 0 [] 32 32), (10, .str (beB 32 (sharedV A B)).reverse), (11, .int 0), (12, .str (beB 32 (sharedV A B')).reverse), (13, .int 0), (16, .int 1001), (17, .sl 3 0 0 [] 32 32), (18, .int q.i)],
          [.mk 5 [.arr8 32 A], .mk 5 [.arr8 32 B'], .mk 5 [.arr8 32 Z], .mk 5 [.arr8 32 (ffSt q.i)]]⟩)
          (fun q => 32 - q.i) ⟨0, Nat.zero_le _⟩ [0, 1, 2, 3] ?_ ?_
        · repeat ((conv => whnf); first | (refine pre_i ?hc ?_; case hc => first | exact (show planOK _ _ _ = true from by kernel_rfl) | assumption | omega | (unfold fits; omega) | decide +kernel | (constructor <;> first | assumption | omega) | (simp only [off_addO, tysz, off, offE] <;> omega) | (simp only [lens, off_addO, off, offE] <;> omega) | (simp only [off_addO, tysz, lens, off, offE] <;> omega) | (constructor <;> first | assumption | (simp only [off_addO, tysz, lens, off, offE] <;> omega))) | (refine cond_t ?hc ?_; case hc => first | rfl | assumption | (rw [decide_eq_true_eq]; omega) | (rw [decide_eq_false_iff_not]; omega) | (simp <;> omega)) | (refine cond_f ?hc ?_; case hc => first | rfl | assumption | (rw [decide_eq_true_eq]; omega) | (rw [decide_eq_false_iff_not]; omega) | (simp <;> omega)) | refine same_i ?_)
          conv => whnf
          refine same_q (by rw [hB']; rfl) ?_
          repeat ((conv => whnf); first | (refine pre_i ?hc ?_; case hc => first | exact (show planOK _ _ _ = true from by kernel_rfl) | assumption | omega | (unfold fits; omega) | decide +kernel | (constructor <;> first | assumption | omega) | (simp only [off_addO, tysz, off, offE] <;> omega) | (simp only [lens, off_addO, off, offE] <;> omega) | (simp only [off_addO, tysz, lens, off, offE] <;> omega) | (constructor <;> first | assumption | (simp only [off_addO, tysz, lens, off, offE] <;> omega))) | (refine cond_t ?hc ?_; case hc => first | rfl | assumption | (rw [decide_eq_true_eq]; omega) | (rw [decide_eq_false_iff_not]; omega) | (simp <;> omega)) | (refine cond_f ?hc ?_; case hc => first | rfl | assumption | (rw [decide_eq_true_eq]; omega) | (rw [decide_eq_false_iff_not]; omega) | (simp <;> omega)) | refine same_i ?_)
          conv => whnf
          refine same_q (by rw [hZ]; rfl) ?_
          repeat ((conv => whnf); first | (refine pre_i ?hc ?_; case hc => first | exact (show planOK _ _ _ = true from by kernel_rfl) | assumption | omega | (unfold fits; omega) | decide +kernel | (constructor <;> first | assumption | omega) | (simp only [off_addO, tysz, off, offE] <;> omega) | (simp only [lens, off_addO, off, offE] <;> omega) | (simp only [off_addO, tysz, lens, off, offE] <;> omega) | (constructor <;> first | assumption | (simp only [off_addO, tysz, lens, off, offE] <;> omega))) | (refine cond_t ?hc ?_; case hc => first | rfl | assumption | (rw [decide_eq_true_eq]; omega) | (rw [decide_eq_false_iff_not]; omega) | (simp <;> omega)) | (refine cond_f ?hc ?_; case hc => first | rfl | assumption | (rw [decide_eq_true_eq]; omega) | (rw [decide_eq_false_iff_not]; omega) | (simp <;> omega)) | refine same_i ?_)
          exact trivial
        · intro q
          have hi := q.hi
          have hl := ffSt_len q.i
          have hI : ((q.i : Int)).toNat = q.i := Int.toNat_natCast _
          by_cases h4 : q.i < 32
          · repeat ((conv => whnf); first | (refine pre_i ?hc ?_; case hc => first | exact (show planOK _ _ _ = true from by kernel_rfl) | assumption | omega | (unfold fits; omega) | decide +kernel | (constructor <;> first | assumption | omega) | (simp only [off_addO, tysz, off, offE] <;> omega) | (simp only [lens, off_addO, off, offE] <;> omega) | (simp only [off_addO, tysz, lens, off, offE] <;> omega) | (constructor <;> first | assumption | (simp only [off_addO, tysz, lens, off, offE] <;> omega))) | (refine cond_t ?hc ?_; case hc => first | rfl | assumption | (rw [decide_eq_true_eq]; omega) | (rw [decide_eq_false_iff_not]; omega) | (simp <;> omega)) | (refine cond_f ?hc ?_; case hc => first | rfl | assumption | (rw [decide_eq_true_eq]; omega) | (rw [decide_eq_false_iff_not]; omega) | (simp <;> omega)) | refine same_i ?_)
            conv => whnf
            refine ⟨⟨q.i + 1, h4⟩, [0, 1, 2, 3], ?_, ?_⟩
            · show 32 - (q.i + 1) < 32 - q.i
              omega
            · repeat ((conv => whnf); first | (refine pre_i ?hc ?_; case hc => first | exact (show planOK _ _ _ = true from by kernel_rfl) | assumption | omega | (unfold fits; omega) | decide +kernel | (constructor <;> first | assumption | omega) | (simp only [off_addO, tysz, off, offE] <;> omega) | (simp only [lens, off_addO, off, offE] <;> omega) | (simp only [off_addO, tysz, lens, off, offE] <;> omega) | (constructor <;> first | assumption | (simp only [off_addO, tysz, lens, off, offE] <;> omega))) | (refine cond_t ?hc ?_; case hc => first | rfl | assumption | (rw [decide_eq_true_eq]; omega) | (rw [decide_eq_false_iff_not]; omega) | (simp <;> omega)) | (refine cond_f ?hc ?_; case hc => first | rfl | assumption | (rw [decide_eq_true_eq]; omega) | (rw [decide_eq_false_iff_not]; omega) | (simp <;> omega)) | refine same_i ?_)
              exact trivial
          · have e5 : q.i = 32 := by omega
            rw [e5, ffSt_all]
            repeat ((conv => whnf); first | (refine pre_i ?hc ?_; case hc => first | exact (show planOK _ _ _ = true from by kernel_rfl) | assumption | omega | (unfold fits; omega) | decide +kernel | (constructor <;> first | assumption | omega) | (simp only [off_addO, tysz, off, offE] <;> omega) | (simp only [lens, off_addO, off, offE] <;> omega) | (simp only [off_addO, tysz, lens, off, offE] <;> omega) | (constructor <;> first | assumption | (simp only [off_addO, tysz, lens, off, offE] <;> omega))) | (refine cond_t ?hc ?_; case hc => first | rfl | assumption | (rw [decide_eq_true_eq]; omega) | (rw [decide_eq_false_iff_not]; omega) | (simp <;> omega)) | (refine cond_f ?hc ?_; case hc => first | rfl | assumption | (rw [decide_eq_true_eq]; omega) | (rw [decide_eq_false_iff_not]; omega) | (simp <;> omega)) | refine same_i ?_)
            conv => whnf
            rw [ta, tT]
            repeat ((conv => whnf); first | (refine pre_i ?hc ?_; case hc => first | exact (show planOK _ _ _ = true from by kernel_rfl) | assumption | omega | (unfold fits; omega) | decide +kernel | (constructor <;> first | assumption | omega) | (simp only [off_addO, tysz, off, offE] <;> omega) | (simp only [lens, off_addO, off, offE] <;> omega) | (simp only [off_addO, tysz, lens, off, offE] <;> omega) | (constructor <;> first | assumption | (simp only [off_addO, tysz, lens, off, offE] <;> omega))) | (refine cond_t ?hc ?_; case hc => first | rfl | assumption | (rw [decide_eq_true_eq]; omega) | (rw [decide_eq_false_iff_not]; omega) | (simp <;> omega) | exact d4 | exact h4') | (refine cond_f ?hc ?_; case hc => first | rfl | assumption | (rw [decide_eq_true_eq]; omega) | (rw [decide_eq_false_iff_not]; omega) | (simp <;> omega) | exact d4 | exact h4') | refine same_i ?_)
            conv => whnf
            repeat ((conv => whnf); first | (refine pre_i ?hc ?_; case hc => first | exact (show planOK _ _ _ = true from by kernel_rfl) | assumption | omega | (unfold fits; omega) | decide +kernel | (constructor <;> first | assumption | omega) | (simp only [off_addO, tysz, off, offE] <;> omega) | (simp only [lens, off_addO, off, offE] <;> omega) | (simp only [off_addO, tysz, lens, off, offE] <;> omega) | (constructor <;> first | assumption | (simp only [off_addO, tysz, lens, off, offE] <;> omega))) | (refine cond_t ?hc ?_; case hc => first | rfl | assumption | (rw [decide_eq_true_eq]; omega) | (rw [decide_eq_false_iff_not]; omega) | (simp <;> omega) | exact d6 | (rw [d6]; rfl) | exact d7 | (rw [d7]; rfl)) | (refine cond_f ?hc ?_; case hc => first | rfl | assumption | (rw [decide_eq_true_eq]; omega) | (rw [decide_eq_false_iff_not]; omega) | (simp <;> omega) | exact d6 | (rw [d6]; rfl) | exact d7 | (rw [d7]; rfl)) | refine same_i ?_)
            conv => whnf
            refine final_h (hp' := []) [] rfl ?_
            repeat ((conv => whnf); first | (refine pre_i ?hc ?_; case hc => first | exact (show planOK _ _ _ = true from by kernel_rfl) | assumption | omega | (unfold fits; omega) | decide +kernel | (constructor <;> first | assumption | omega) | (simp only [off_addO, tysz, off, offE] <;> omega) | (simp only [lens, off_addO, off, offE] <;> omega) | (simp only [off_addO, tysz, lens, off, offE] <;> omega) | (constructor <;> first | assumption | (simp only [off_addO, tysz, lens, off, offE] <;> omega))) | (refine cond_t ?hc ?_; case hc => first | rfl | assumption | (rw [decide_eq_true_eq]; omega) | (rw [decide_eq_false_iff_not]; omega) | (simp <;> omega)) | (refine cond_f ?hc ?_; case hc => first | rfl | assumption | (rw [decide_eq_true_eq]; omega) | (rw [decide_eq_false_iff_not]; omega) | (simp <;> omega)) | refine same_i ?_)
            exact trivial
      · repeat ((conv => whnf); first | (refine pre_i ?hc ?_; case hc => first | exact (show planOK _ _ _ = true from by kernel_rfl) | assumption | omega | (unfold fits; omega) | decide +kernel | (constructor <;> first | assumption | omega) | (simp only [off_addO, tysz, off, offE] <;> omega) | (simp only [lens, off_addO, off, offE] <;> omega) | (simp only [off_addO, tysz, lens, off, offE] <;> omega) | (constructor <;> first | assumption | (simp only [off_addO, tysz, lens, off, offE] <;> omega))) | (refine cond_t ?hc ?_; case hc => first | rfl | assumption | (rw [decide_eq_true_eq]; omega) | (rw [decide_eq_false_iff_not]; omega) | (simp <;> omega) | exact d1 | exact hV) | (refine cond_f ?hc ?_; case hc => first | rfl | assumption | (rw [decide_eq_true_eq]; omega) | (rw [decide_eq_false_iff_not]; omega) | (simp <;> omega) | exact d1 | exact hV) | refine same_i ?_)
        conv => whnf
        rw [ta, tB]
        repeat ((conv => whnf); first | (refine pre_i ?hc ?_; case hc => first | exact (show planOK _ _ _ = true from by kernel_rfl) | assumption | omega | (unfold fits; omega) | decide +kernel | (constructor <;> first | assumption | omega) | (simp only [off_addO, tysz, off, offE] <;> omega) | (simp only [lens, off_addO, off, offE] <;> omega) | (simp only [off_addO, tysz, lens, off, offE] <;> omega) | (constructor <;> first | assumption | (simp only [off_addO, tysz, lens, off, offE] <;> omega))) | (refine cond_t ?hc ?_; case hc => first | rfl | assumption | (rw [decide_eq_true_eq]; omega) | (rw [decide_eq_false_iff_not]; omega) | (simp <;> omega) | exact d2 | exact hV2) | (refine cond_f ?hc ?_; case hc => first | rfl | assumption | (rw [decide_eq_true_eq]; omega) | (rw [decide_eq_false_iff_not]; omega) | (simp <;> omega) | exact d2 | exact hV2) | refine same_i ?_)
        conv => whnf
        rw [ta, tZ]
        repeat ((conv => whnf); first | (refine pre_i ?hc ?_; case hc => first | exact (show planOK _ _ _ = true from by kernel_rfl) | assumption | omega | (unfold fits; omega) | decide +kernel | (constructor <;> first | assumption | omega) | (simp only [off_addO, tysz, off, offE] <;> omega) | (simp only [lens, off_addO, off, offE] <;> omega) | (simp only [off_addO, tysz, lens, off, offE] <;> omega) | (constructor <;> first | assumption | (simp only [off_addO, tysz, lens, off, offE] <;> omega))) | (refine cond_t ?hc ?_; case hc => first | rfl | assumption | (rw [decide_eq_true_eq]; omega) | (rw [decide_eq_false_iff_not]; omega) | (simp <;> omega) | exact d3 | exact h3) | (refine cond_f ?hc ?_; case hc => first | rfl | assumption | (rw [decide_eq_true_eq]; omega) | (rw [decide_eq_false_iff_not]; omega) | (simp <;> omega) | exact d3 | exact h3) | refine same_i ?_)
        conv => whnf
        refine loop_h (Ix 32) (fun q => ⟨[(0, .str x), (1, .str y), (2, .int z), (7, .sl 0 0 0 [] 32 32), (8, .sl 1 0 0 [] 32 32), (10, .str []), (11, .int 1001), (12, .str []), (13, .int 1001), (16, .int 1001), (17, .sl 3 0 0 [] 32 32), (18, .int q.i)],
          [.mk 5 [.arr8 32 A], .mk 5 [.arr8 32 B'], .mk 5 [.arr8 32 Z], .mk 5 [.arr8 32 (ffSt q.i)]]⟩)
          (fun q => 32 - q.i) ⟨0, Nat.zero_le _⟩ [0, 1, 2, 3] ?_ ?_
        · repeat ((conv => whnf); first | (refine pre_i ?hc ?_; case hc => first | exact (show planOK _ _ _ = true from by kernel_rfl) | assumption | omega | (unfold fits; omega) | decide +kernel | (constructor <;> first | assumption | omega) | (simp only [off_addO, tysz, off, offE] <;> omega) | (simp only [lens, off_addO, off, offE] <;> omega) | (simp only [off_addO, tysz, lens, off, offE] <;> omega) | (constructor <;> first | assumption | (simp only [off_addO, tysz, lens, off, offE] <;> omega))) | (refine cond_t ?hc ?_; case hc => first | rfl | assumption | (rw [decide_eq_true_eq]; omega) | (rw [decide_eq_false_iff_not]; omega) | (simp <;> omega)) | (refine cond_f ?hc ?_; case hc => first | rfl | assumption | (rw [decide_eq_true_eq]; omega) | (rw [decide_eq_false_iff_not]; omega) | (simp <;> omega)) | refine same_i ?_)
          conv => whnf
          refine same_q (by rw [hB']; rfl) ?_
          repeat ((conv => whnf); first | (refine pre_i ?hc ?_; case hc => first | exact (show planOK _ _ _ = true from by kernel_rfl) | assumption | omega | (unfold fits; omega) | decide +kernel | (constructor <;> first | assumption | omega) | (simp only [off_addO, tysz, off, offE] <;> omega) | (simp only [lens, off_addO, off, offE] <;> omega) | (simp only [off_addO, tysz, lens, off, offE] <;> omega) | (constructor <;> first | assumption | (simp only [off_addO, tysz, lens, off, offE] <;> omega))) | (refine cond_t ?hc ?_; case hc => first | rfl | assumption | (rw [decide_eq_true_eq]; omega) | (rw [decide_eq_false_iff_not]; omega) | (simp <;> omega)) | (refine cond_f ?hc ?_; case hc => first | rfl | assumption | (rw [decide_eq_true_eq]; omega) | (rw [decide_eq_false_iff_not]; omega) | (simp <;> omega)) | refine same_i ?_)
          conv => whnf
          refine same_q (by rw [hZ]; rfl) ?_
          repeat ((conv => whnf); first | (refine pre_i ?hc ?_; case hc => first | exact (show planOK _ _ _ = true from by kernel_rfl) | assumption | omega | (unfold fits; omega) | decide +kernel | (constructor <;> first | assumption | omega) | (simp only [off_addO, tysz, off, offE] <;> omega) | (simp only [lens, off_addO, off, offE] <;> omega) | (simp only [off_addO, tysz, lens, off, offE] <;> omega) | (constructor <;> first | assumption | (simp only [off_addO, tysz, lens, off, offE] <;> omega))) | (refine cond_t ?hc ?_; case hc => first | rfl | assumption | (rw [decide_eq_true_eq]; omega) | (rw [decide_eq_false_iff_not]; omega) | (simp <;> omega)) | (refine cond_f ?hc ?_; case hc => first | rfl | assumption | (rw [decide_eq_true_eq]; omega) | (rw [decide_eq_false_iff_not]; omega) | (simp <;> omega)) | refine same_i ?_)
          exact trivial
        · intro q
          have hi := q.hi
          have hl := ffSt_len q.i
          have hI : ((q.i : Int)).toNat = q.i := Int.toNat_natCast _
          by_cases h4 : q.i < 32
          · repeat ((conv => whnf); first | (refine pre_i ?hc ?_; case hc => first | exact (show planOK _ _ _ = true from by kernel_rfl) | assumption | omega | (unfold fits; omega) | decide +kernel | (constructor <;> first | assumption | omega) | (simp only [off_addO, tysz, off, offE] <;> omega) | (simp only [lens, off_addO, off, offE] <;> omega) | (simp only [off_addO, tysz, lens, off, offE] <;> omega) | (constructor <;> first | assumption | (simp only [off_addO, tysz, lens, off, offE] <;> omega))) | (refine cond_t ?hc ?_; case hc => first | rfl | assumption | (rw [decide_eq_true_eq]; omega) | (rw [decide_eq_false_iff_not]; omega) | (simp <;> omega)) | (refine cond_f ?hc ?_; case hc => first | rfl | assumption | (rw [decide_eq_true_eq]; omega) | (rw [decide_eq_false_iff_not]; omega) | (simp <;> omega)) | refine same_i ?_)
            conv => whnf
            refine ⟨⟨q.i + 1, h4⟩, [0, 1, 2, 3], ?_, ?_⟩
            · show 32 - (q.i + 1) < 32 - q.i
              omega
            · repeat ((conv => whnf); first | (refine pre_i ?hc ?_; case hc => first | exact (show planOK _ _ _ = true from by kernel_rfl) | assumption | omega | (unfold fits; omega) | decide +kernel | (constructor <;> first | assumption | omega) | (simp only [off_addO, tysz, off, offE] <;> omega) | (simp only [lens, off_addO, off, offE] <;> omega) | (simp only [off_addO, tysz, lens, off, offE] <;> omega) | (constructor <;> first | assumption | (simp only [off_addO, tysz, lens, off, offE] <;> omega))) | (refine cond_t ?hc ?_; case hc => first | rfl | assumption | (rw [decide_eq_true_eq]; omega) | (rw [decide_eq_false_iff_not]; omega) | (simp <;> omega)) | (refine cond_f ?hc ?_; case hc => first | rfl | assumption | (rw [decide_eq_true_eq]; omega) | (rw [decide_eq_false_iff_not]; omega) | (simp <;> omega)) | refine same_i ?_)
              exact trivial
          · have e5 : q.i = 32 := by omega
            rw [e5, ffSt_all]
            repeat ((conv => whnf); first | (refine pre_i ?hc ?_; case hc => first | exact (show planOK _ _ _ = true from by kernel_rfl) | assumption | omega | (unfold fits; omega) | decide +kernel | (constructor <;> first | assumption | omega) | (simp only [off_addO, tysz, off, offE] <;> omega) | (simp only [lens, off_addO, off, offE] <;> omega) | (simp only [off_addO, tysz, lens, off, offE] <;> omega) | (constructor <;> first | assumption | (simp only [off_addO, tysz, lens, off, offE] <;> omega))) | (refine cond_t ?hc ?_; case hc => first | rfl | assumption | (rw [decide_eq_true_eq]; omega) | (rw [decide_eq_false_iff_not]; omega) | (simp <;> omega)) | (refine cond_f ?hc ?_; case hc => first | rfl | assumption | (rw [decide_eq_true_eq]; omega) | (rw [decide_eq_false_iff_not]; omega) | (simp <;> omega)) | refine same_i ?_)
            conv => whnf
            rw [ta, tT]
            repeat ((conv => whnf); first | (refine pre_i ?hc ?_; case hc => first | exact (show planOK _ _ _ = true from by kernel_rfl) | assumption | omega | (unfold fits; omega) | decide +kernel | (constructor <;> first | assumption | omega) | (simp only [off_addO, tysz, off, offE] <;> omega) | (simp only [lens, off_addO, off, offE] <;> omega) | (simp only [off_addO, tysz, lens, off, offE] <;> omega) | (constructor <;> first | assumption | (simp only [off_addO, tysz, lens, off, offE] <;> omega))) | (refine cond_t ?hc ?_; case hc => first | rfl | assumption | (rw [decide_eq_true_eq]; omega) | (rw [decide_eq_false_iff_not]; omega) | (simp <;> omega) | exact d4 | exact h4') | (refine cond_f ?hc ?_; case hc => first | rfl | assumption | (rw [decide_eq_true_eq]; omega) | (rw [decide_eq_false_iff_not]; omega) | (simp <;> omega) | exact d4 | exact h4') | refine same_i ?_)
            conv => whnf
            refine final_h (hp' := []) [] rfl ?_
            repeat ((conv => whnf); first | (refine pre_i ?hc ?_; case hc => first | exact (show planOK _ _ _ = true from by kernel_rfl) | assumption | omega | (unfold fits; omega) | decide +kernel | (constructor <;> first | assumption | omega) | (simp only [off_addO, tysz, off, offE] <;> omega) | (simp only [lens, off_addO, off, offE] <;> omega) | (simp only [off_addO, tysz, lens, off, offE] <;> omega) | (constructor <;> first | assumption | (simp only [off_addO, tysz, lens, off, offE] <;> omega))) | (refine cond_t ?hc ?_; case hc => first | rfl | assumption | (rw [decide_eq_true_eq]; omega) | (rw [decide_eq_false_iff_not]; omega) | (simp <;> omega)) | (refine cond_f ?hc ?_; case hc => first | rfl | assumption | (rw [decide_eq_true_eq]; omega) | (rw [decide_eq_false_iff_not]; omega) | (simp <;> omega)) | refine same_i ?_)
            exact trivial
theorem xcurveTop_end (w : World) (x : List UInt8) (_ : x.length ≤ 140737488351232) (y : List UInt8) (_ : y.length ≤ 140737488351232) (z : Int) (_ : -9223372036854775808 ≤ z ∧ z ≤ 9223372036854775807) :
    fnVC (lawG f12.ntmps tys lawFnX w []) pl12 (codeOf f12) f12.results.toList [.str x, .str y, .int z] [] (fun r _ => r = .bool true) := xcurveTop_vc w x y z
/-- a point and the one that is the prime more -/
theorem reduced_pt : ∀ n, n < 19 → topV (beV ((List.replicate 32 0).set 0 (UInt8.ofInt ((n : Nat) : Int))).reverse) % md 2 = topV (beV (((List.replicate 32 255).set 0 (UInt8.ofInt (237 + ((n : Nat) : Int)))).set 31 (UInt8.ofNat 127)).reverse) % md 2 := by decide +kernel
theorem xcurveReduced_vc (w : World) (x : List UInt8) (z : Int) :
    fnVC (lawG f13.ntmps tys lawFnX w []) pl13 (codeOf f13) f13.results.toList [.str x, .int z] [] (fun r _ => r = .bool true) := by
  repeat ((conv => whnf); first | (refine pre_i ?hc ?_; case hc => first | exact (show planOK _ _ _ = true from by kernel_rfl) | assumption | omega | (unfold fits; omega) | decide +kernel | (constructor <;> first | assumption | omega) | (simp only [off_addO, tysz, off, offE] <;> omega) | (simp only [lens, off_addO, off, offE] <;> omega) | (simp only [off_addO, tysz, lens, off, offE] <;> omega) | (constructor <;> first | assumption | (simp only [off_addO, tysz, lens, off, offE] <;> omega))) | (refine cond_t ?hc ?_; case hc => first | rfl | assumption | (rw [decide_eq_true_eq]; omega) | (rw [decide_eq_false_iff_not]; omega) | (simp <;> omega)) | (refine cond_f ?hc ?_; case hc => first | rfl | assumption | (rw [decide_eq_true_eq]; omega) | (rw [decide_eq_false_iff_not]; omega) | (simp <;> omega)) | refine same_i ?_)
  conv => whnf
  refine loop_h (Ix 32) (fun q => ⟨[(0, .str x), (1, .int z), (5, .sl 0 0 0 [] 32 32), (6, .sl 1 0 0 [] 32 32), (7, .sl 2 0 0 [] 32 32), (8, .int q.i)],
    [.mk 5 [.arr8 32 (cpSt x q.i)], .mk 5 [.arr8 32 (List.replicate 32 0)], .mk 5 [.arr8 32 (ffSt q.i)]]⟩)
    (fun q => 32 - q.i) ⟨0, Nat.zero_le _⟩ [0, 1, 2] ?_ ?_
  · repeat ((conv => whnf); first | (refine pre_i ?hc ?_; case hc => first | exact (show planOK _ _ _ = true from by kernel_rfl) | assumption | omega | (unfold fits; omega) | decide +kernel | (constructor <;> first | assumption | omega) | (simp only [off_addO, tysz, off, offE] <;> omega) | (simp only [lens, off_addO, off, offE] <;> omega) | (simp only [off_addO, tysz, lens, off, offE] <;> omega) | (constructor <;> first | assumption | (simp only [off_addO, tysz, lens, off, offE] <;> omega))) | (refine cond_t ?hc ?_; case hc => first | rfl | assumption | (rw [decide_eq_true_eq]; omega) | (rw [decide_eq_false_iff_not]; omega) | (simp <;> omega)) | (refine cond_f ?hc ?_; case hc => first | rfl | assumption | (rw [decide_eq_true_eq]; omega) | (rw [decide_eq_false_iff_not]; omega) | (simp <;> omega)) | refine same_i ?_)
    exact trivial
  · intro q
    have hi := q.hi
    have hlx := cpSt_len x q.i
    have hly := ffSt_len q.i
    have hI : ((q.i : Int)).toNat = q.i := Int.toNat_natCast _
    by_cases h4 : q.i < 32
    · by_cases h1 : q.i < x.length
      · repeat ((conv => whnf); first | (refine pre_i ?hc ?_; case hc => first | exact (show planOK _ _ _ = true from by kernel_rfl) | assumption | omega | (unfold fits; omega) | decide +kernel | (constructor <;> first | assumption | omega) | (simp only [off_addO, tysz, off, offE] <;> omega) | (simp only [lens, off_addO, off, offE] <;> omega) | (simp only [off_addO, tysz, lens, off, offE] <;> omega) | (constructor <;> first | assumption | (simp only [off_addO, tysz, lens, off, offE] <;> omega))) | (refine cond_t ?hc ?_; case hc => first | rfl | assumption | (rw [decide_eq_true_eq]; omega) | (rw [decide_eq_false_iff_not]; omega) | (simp <;> omega)) | (refine cond_f ?hc ?_; case hc => first | rfl | assumption | (rw [decide_eq_true_eq]; omega) | (rw [decide_eq_false_iff_not]; omega) | (simp <;> omega)) | refine same_i ?_)
        conv => whnf
        refine ⟨⟨q.i + 1, h4⟩, [0, 1, 2], ?_, ?_⟩
        · show 32 - (q.i + 1) < 32 - q.i
          omega
        · repeat ((conv => whnf); first | (refine pre_i ?hc ?_; case hc => first | exact (show planOK _ _ _ = true from by kernel_rfl) | assumption | omega | (unfold fits; omega) | decide +kernel | (constructor <;> first | assumption | omega) | (simp only [off_addO, tysz, off, offE] <;> omega) | (simp only [lens, off_addO, off, offE] <;> omega) | (simp only [off_addO, tysz, lens, off, offE] <;> omega) | (constructor <;> first | assumption | (simp only [off_addO, tysz, lens, off, offE] <;> omega))) | (refine cond_t ?hc ?_; case hc => first | rfl | assumption | (rw [decide_eq_true_eq]; omega) | (rw [decide_eq_false_iff_not]; omega) | (simp <;> omega)) | (refine cond_f ?hc ?_; case hc => first | rfl | assumption | (rw [decide_eq_true_eq]; omega) | (rw [decide_eq_false_iff_not]; omega) | (simp <;> omega)) | refine same_i ?_)
          conv => whnf
          refine same_q (by rw [cpSt_t h1]; rfl) ?_
          repeat ((conv => whnf); first | (refine pre_i ?hc ?_; case hc => first | exact (show planOK _ _ _ = true from by kernel_rfl) | assumption | omega | (unfold fits; omega) | decide +kernel | (constructor <;> first | assumption | omega) | (simp only [off_addO, tysz, off, offE] <;> omega) | (simp only [lens, off_addO, off, offE] <;> omega) | (simp only [off_addO, tysz, lens, off, offE] <;> omega) | (constructor <;> first | assumption | (simp only [off_addO, tysz, lens, off, offE] <;> omega))) | (refine cond_t ?hc ?_; case hc => first | rfl | assumption | (rw [decide_eq_true_eq]; omega) | (rw [decide_eq_false_iff_not]; omega) | (simp <;> omega)) | (refine cond_f ?hc ?_; case hc => first | rfl | assumption | (rw [decide_eq_true_eq]; omega) | (rw [decide_eq_false_iff_not]; omega) | (simp <;> omega)) | refine same_i ?_)
          exact trivial
      · repeat ((conv => whnf); first | (refine pre_i ?hc ?_; case hc => first | exact (show planOK _ _ _ = true from by kernel_rfl) | assumption | omega | (unfold fits; omega) | decide +kernel | (constructor <;> first | assumption | omega) | (simp only [off_addO, tysz, off, offE] <;> omega) | (simp only [lens, off_addO, off, offE] <;> omega) | (simp only [off_addO, tysz, lens, off, offE] <;> omega) | (constructor <;> first | assumption | (simp only [off_addO, tysz, lens, off, offE] <;> omega))) | (refine cond_t ?hc ?_; case hc => first | rfl | assumption | (rw [decide_eq_true_eq]; omega) | (rw [decide_eq_false_iff_not]; omega) | (simp <;> omega)) | (refine cond_f ?hc ?_; case hc => first | rfl | assumption | (rw [decide_eq_true_eq]; omega) | (rw [decide_eq_false_iff_not]; omega) | (simp <;> omega)) | refine same_i ?_)
        conv => whnf
        refine ⟨⟨q.i + 1, h4⟩, [0, 1, 2], ?_, ?_⟩
        · show 32 - (q.i + 1) < 32 - q.i
          omega
        · repeat ((conv => whnf); first | (refine pre_i ?hc ?_; case hc => first | exact (show planOK _ _ _ = true from by kernel_rfl) | assumption | omega | (unfold fits; omega) | decide +kernel | (constructor <;> first | assumption | omega) | (simp only [off_addO, tysz, off, offE] <;> omega) | (simp only [lens, off_addO, off, offE] <;> omega) | (simp only [off_addO, tysz, lens, off, offE] <;> omega) | (constructor <;> first | assumption | (simp only [off_addO, tysz, lens, off, offE] <;> omega))) | (refine cond_t ?hc ?_; case hc => first | rfl | assumption | (rw [decide_eq_true_eq]; omega) | (rw [decide_eq_false_iff_not]; omega) | (simp <;> omega)) | (refine cond_f ?hc ?_; case hc => first | rfl | assumption | (rw [decide_eq_true_eq]; omega) | (rw [decide_eq_false_iff_not]; omega) | (simp <;> omega)) | refine same_i ?_)
          conv => whnf
          refine same_q (by rw [cpSt_f h1]; rfl) ?_
          repeat ((conv => whnf); first | (refine pre_i ?hc ?_; case hc => first | exact (show planOK _ _ _ = true from by kernel_rfl) | assumption | omega | (unfold fits; omega) | decide +kernel | (constructor <;> first | assumption | omega) | (simp only [off_addO, tysz, off, offE] <;> omega) | (simp only [lens, off_addO, off, offE] <;> omega) | (simp only [off_addO, tysz, lens, off, offE] <;> omega) | (constructor <;> first | assumption | (simp only [off_addO, tysz, lens, off, offE] <;> omega))) | (refine cond_t ?hc ?_; case hc => first | rfl | assumption | (rw [decide_eq_true_eq]; omega) | (rw [decide_eq_false_iff_not]; omega) | (simp <;> omega)) | (refine cond_f ?hc ?_; case hc => first | rfl | assumption | (rw [decide_eq_true_eq]; omega) | (rw [decide_eq_false_iff_not]; omega) | (simp <;> omega)) | refine same_i ?_)
          exact trivial
    · have e4 : q.i = 32 := by omega
      rw [e4] at hlx
      have ta : List.take 32 (List.drop (off []) (cpSt x 32)) = cpSt x 32 := List.take_of_length_le (Nat.le_of_eq hlx)
      rw [e4, ffSt_all]
      generalize cpSt x 32 = A at *
      have hN : (UInt64.ofInt z % UInt64.ofNat 19).toNat < 19 := by
        rw [UInt64.toNat_mod]; exact Nat.mod_lt _ (by decide)
      have hlt : (UInt64.ofInt z % UInt64.ofNat 19).toNat < 9223372036854775808 := by omega
      repeat ((conv => whnf); first | (refine pre_i ?hc ?_; case hc => first | exact (show planOK _ _ _ = true from by kernel_rfl) | assumption | omega | (unfold fits; omega) | decide +kernel | (constructor <;> first | assumption | omega) | (simp only [off_addO, tysz, off, offE] <;> omega) | (simp only [lens, off_addO, off, offE] <;> omega) | (simp only [off_addO, tysz, lens, off, offE] <;> omega) | (constructor <;> first | assumption | (simp only [off_addO, tysz, lens, off, offE] <;> omega))) | (refine cond_t ?hc ?_; case hc => first | rfl | assumption | (rw [decide_eq_true_eq]; omega) | (rw [decide_eq_false_iff_not]; omega) | (simp <;> omega)) | (refine cond_f ?hc ?_; case hc => first | rfl | assumption | (rw [decide_eq_true_eq]; omega) | (rw [decide_eq_false_iff_not]; omega) | (simp <;> omega)) | refine same_i ?_)
      conv => whnf
      generalize hn2 : (UInt64.ofInt z % UInt64.ofNat 19).toNat = N' at *
      obtain ⟨B, hB⟩ : ∃ B, B = (List.replicate 32 0).set 0 (UInt8.ofInt ((N' : Nat) : Int)) := ⟨_, rfl⟩
      obtain ⟨C, hC⟩ : ∃ C, C = ((List.replicate 32 255).set 0 (UInt8.ofInt (237 + ((N' : Nat) : Int)))).set 31 (UInt8.ofNat 127) := ⟨_, rfl⟩
      have hlB : B.length = 32 := by rw [hB, List.length_set, List.length_replicate]
      have hlC : C.length = 32 := by rw [hC, List.length_set, List.length_set, List.length_replicate]
      have tB : List.take 32 (List.drop (off []) ((List.replicate 32 0).set (off (addO [] (Int.toNat 0) ty5.sz)) (UInt8.ofInt ((N' : Nat) : Int)))) = B := by
        rw [hB]; exact List.take_of_length_le (by rw [List.length_drop, List.length_set, List.length_replicate]; decide)
      have tC : List.take 32 (List.drop (off []) (((List.replicate 32 255).set (off (addO [] (Int.toNat 0) ty5.sz)) (UInt8.ofInt (237 + ((N' : Nat) : Int)))).set (off (addO [] (Int.toNat 31) ty5.sz)) (UInt8.ofNat 127))) = C := by
        rw [hC]; exact List.take_of_length_le (by rw [List.length_drop, List.length_set, List.length_set, List.length_replicate]; decide)
      have hS : sharedV A C = sharedV A B := by
        unfold sharedV
        rw [hB, hC, reduced_pt N' hN]
      have d1 : decide (A.length = 32 ∧ B.length = 32) = true := decide_eq_true ⟨hlx, hlB⟩
      have d2 : decide (A.length = 32 ∧ C.length = 32) = true := decide_eq_true ⟨hlx, hlC⟩
      have d3 : decide ((A ++ [120]).length = 32) = false := decide_eq_false (fun h => by rw [List.length_append, hlx] at h; exact absurd h (by decide))
      have d6 : decide ((beB 32 (sharedV A B)).reverse = (beB 32 (sharedV A C)).reverse) = true := decide_eq_true (by rw [hS])
      generalize hV : decide (sharedV A B = 0) = c
      have hV2 : decide (sharedV A C = 0) = c := by rw [hS]; exact hV
      rw [ta, tB]
      cases c
      all_goals
        repeat ((conv => whnf); first | (refine pre_i ?hc ?_; case hc => first | exact (show planOK _ _ _ = true from by kernel_rfl) | assumption | omega | (unfold fits; omega) | decide +kernel | (constructor <;> first | assumption | omega) | (simp only [off_addO, tysz, off, offE] <;> omega) | (simp only [lens, off_addO, off, offE] <;> omega) | (simp only [off_addO, tysz, lens, off, offE] <;> omega) | (constructor <;> first | assumption | (simp only [off_addO, tysz, lens, off, offE] <;> omega))) | (refine cond_t ?hc ?_; case hc => first | rfl | assumption | (rw [decide_eq_true_eq]; omega) | (rw [decide_eq_false_iff_not]; omega) | (simp <;> omega) | exact d1 | exact hV) | (refine cond_f ?hc ?_; case hc => first | rfl | assumption | (rw [decide_eq_true_eq]; omega) | (rw [decide_eq_false_iff_not]; omega) | (simp <;> omega) | exact d1 | exact hV) | refine same_i ?_)
        conv => whnf
        rw [ta, tC]
        repeat ((conv => whnf); first | (refine pre_i ?hc ?_; case hc => first | exact (show planOK _ _ _ = true from by kernel_rfl) | assumption | omega | (unfold fits; omega) | decide +kernel | (constructor <;> first | assumption | omega) | (simp only [off_addO, tysz, off, offE] <;> omega) | (simp only [lens, off_addO, off, offE] <;> omega) | (simp only [off_addO, tysz, lens, off, offE] <;> omega) | (constructor <;> first | assumption | (simp only [off_addO, tysz, lens, off, offE] <;> omega))) | (refine cond_t ?hc ?_; case hc => first | rfl | assumption | (rw [decide_eq_true_eq]; omega) | (rw [decide_eq_false_iff_not]; omega) | (simp <;> omega) | exact d2 | exact hV2) | (refine cond_f ?hc ?_; case hc => first | rfl | assumption | (rw [decide_eq_true_eq]; omega) | (rw [decide_eq_false_iff_not]; omega) | (simp <;> omega) | exact d2 | exact hV2) | refine same_i ?_)
        conv => whnf
        rw [ta]
        repeat ((conv => whnf); first | (refine pre_i ?hc ?_; case hc => first | exact (show planOK _ _ _ = true from by kernel_rfl) | assumption | omega | (unfold fits; omega) | decide +kernel | (constructor <;> first | assumption | omega) | (simp only [off_addO, tysz, off, offE] <;> omega) | (simp only [lens, off_addO, off, offE] <;> omega) | (simp only [off_addO, tysz, lens, off, offE] <;> omega) | (constructor <;> first | assumption | (simp only [off_addO, tysz, lens, off, offE] <;> omega))) | (refine cond_t ?hc ?_; case hc => first | rfl | assumption | (rw [decide_eq_true_eq]; omega) | (rw [decide_eq_false_iff_not]; omega) | (simp <;> omega) | exact d3 | exact d6 | (rw [d6]; rfl)) | (refine cond_f ?hc ?_; case hc => first | rfl | assumption | (rw [decide_eq_true_eq]; omega) | (rw [decide_eq_false_iff_not]; omega) | (simp <;> omega) | exact d3 | exact d6 | (rw [d6]; rfl)) | refine same_i ?_)
        conv => whnf
        refine final_h (hp' := []) [] rfl ?_
        repeat ((conv => whnf); first | (refine pre_i ?hc ?_; case hc => first | exact (show planOK _ _ _ = true from by kernel_rfl) | assumption | omega | (unfold fits; omega) | decide +kernel | (constructor <;> first | assumption | omega) | (simp only [off_addO, tysz, off, offE] <;> omega) | (simp only [lens, off_addO, off, offE] <;> omega) | (simp only [off_addO, tysz, lens, off, offE] <;> omega) | (constructor <;> first | assumption | (simp only [off_addO, tysz, lens, off, offE] <;> omega))) | (refine cond_t ?hc ?_; case hc => first | rfl | assumption | (rw [decide_eq_true_eq]; omega) | (rw [decide_eq_false_iff_not]; omega) | (simp <;> omega)) | (refine cond_f ?hc ?_; case hc => first | rfl | assumption | (rw [decide_eq_true_eq]; omega) | (rw [decide_eq_false_iff_not]; omega) | (simp <;> omega)) | refine same_i ?_)
        exact trivial
theorem xcurveReduced_end (w : World) (x : List UInt8) (_ : x.length ≤ 140737488351232) (z : Int) (_ : -9223372036854775808 ≤ z ∧ z ≤ 9223372036854775807) :
    fnVC (lawG f13.ntmps tys lawFnX w []) pl13 (codeOf f13) f13.results.toList [.str x, .int z] [] (fun r _ => r = .bool true) := xcurveReduced_vc w x z
end Go.Sym.N
