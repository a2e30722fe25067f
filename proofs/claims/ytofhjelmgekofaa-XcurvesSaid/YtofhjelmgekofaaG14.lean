/-
  Contracts of functions of the program, each said of symbolic values, and plain laws; no condition beyond each statement's own.
-/
import Derived.Test.YtofhjelmgekofaaG13
import Derived.Test.YtofhjelmgekofaaG12
set_option linter.unusedSimpArgs false
set_option linter.unusedVariables false
/-
  The ladder run at numbers: an evaluator whose state is forced, and one value. Plain laws. No program in sight; no condition beyond each lemma's own.
-/
namespace Go.Sym.X
open Go.Sym.Num

def fo (n : Nat) (k : Nat → Bool) : Bool := Nat.rec (k 0) (fun i _ => k (i + 1)) n
theorem fo_eq (n : Nat) (k : Nat → Bool) : fo n k = k n := by cases n <;> rfl
def stepK (m ri x1 y x2 z2 x3 z3 : Nat) (k : Nat → Nat → Nat → Nat → Bool) : Bool :=
  fo ((x2 + z2) % m) fun a => fo ((x2 + (m - z2)) % m) fun b => fo (a * a * ri % m) fun aa => fo (b * b * ri % m) fun bb => fo ((aa + (m - bb)) % m) fun e =>
  fo ((x3 + (m - z3)) % m * a * ri % m) fun da => fo ((x3 + z3) % m * b * ri % m) fun cb => fo ((da + cb) % m) fun s => fo ((da + (m - cb)) % m) fun t =>
  fo (aa * bb * ri % m) fun p => fo (e * ((aa + y * e * ri % m) % m) * ri % m) fun q => fo (s * s * ri % m) fun r => fo (x1 * (t * t * ri % m) * ri % m) fun u => k p q r u
theorem stepK_eq (m x1 y : Nat) (q : Q4) (k : Nat → Nat → Nat → Nat → Bool) :
    stepK m (riOf m) x1 y q.x2 q.z2 q.x3 q.z3 k = k (stepQ m x1 y q).x2 (stepQ m x1 y q).z2 (stepQ m x1 y q).x3 (stepQ m x1 y q).z3 := by
  unfold stepK
  simp only [fo_eq]
  rfl
def runK (m ri x1 y e : Nat) : Nat → Nat → Nat → Nat → Nat → (Nat → Nat → Nat → Nat → Bool) → Bool
  | 0, x2, z2, x3, z3, k => k x2 z2 x3 z3
  | n + 1, x2, z2, x3, z3, k => bif e / 2 ^ (n + 1) % 2 == e / 2 ^ n % 2 then stepK m ri x1 y x2 z2 x3 z3 (fun a b c d => runK m ri x1 y e n a b c d k) else stepK m ri x1 y x3 z3 x2 z2 (fun a b c d => runK m ri x1 y e n a b c d k)
theorem runK_eq (m x1 y e : Nat) (k : Nat → Nat → Nat → Nat → Bool) : ∀ n, n ≤ 255 →
    runK m (riOf m) x1 y e n (ladQ m x1 y e (255 - n)).x2 (ladQ m x1 y e (255 - n)).z2 (ladQ m x1 y e (255 - n)).x3 (ladQ m x1 y e (255 - n)).z3 k =
    k (ladQ m x1 y e 255).x2 (ladQ m x1 y e 255).z2 (ladQ m x1 y e 255).x3 (ladQ m x1 y e 255).z3
  | 0, _ => rfl
  | n + 1, h => by
    have ih := runK_eq m x1 y e k n (by omega)
    have e1 : 255 - n = (255 - (n + 1)) + 1 := by omega
    have e2 : 255 - (255 - (n + 1)) = n + 1 := by omega
    have e3 : 254 - (255 - (n + 1)) = n := by omega
    rw [e1] at ih
    simp only [runK]
    by_cases hb : e / 2 ^ (n + 1) % 2 = e / 2 ^ n % 2
    · have hq := ladQ_same (m := m) (x1 := x1) (y := y) (e := e) (j := 255 - (n + 1)) (by rw [e2, e3]; exact hb)
      rw [hq] at ih
      rw [beq_iff_eq.2 hb, cond_true, stepK_eq]
      exact ih
    · have hq := ladQ_turn (m := m) (x1 := x1) (y := y) (e := e) (j := 255 - (n + 1)) (by rw [e2, e3]; exact hb)
      rw [hq] at ih
      rw [beq_eq_false_iff_ne.2 hb, cond_false]
      have := stepK_eq m x1 y (ladQ m x1 y e (255 - (n + 1))).turn (fun a b c d => runK m (riOf m) x1 y e n a b c d k)
      exact this.trans ih
theorem lad_run {m x1 y e : Nat} {k : Nat → Nat → Nat → Nat → Bool} (h : runK m (riOf m) x1 y e 255 (B4 % m) 0 x1 (B4 % m) k = true) :
    k (ladQ m x1 y e 255).x2 (ladQ m x1 y e 255).z2 (ladQ m x1 y e 255).x3 (ladQ m x1 y e 255).z3 = true := by
  rw [← runK_eq m x1 y e k 255 (Nat.le_refl _)]
  exact h
/-- the inverse by a power of small numbers -/
theorem invL_run {z : Nat} (hz : z < md 2) : invL (md 2) z (md 2 - 2) 256 = toM (md 2) (Pr.pm (md 2) (z * riOf (md 2) % md 2) 256 (md 2 - 2)) := by
  have h2 := md_gt (w := 2) (by decide)
  have hlt := md_lt (w := 2) (by decide)
  have hri := md_ri (w := 2) (by decide)
  have hz2 : toM (md 2) (z * riOf (md 2) % md 2) = z := by
    rw [toM_mod]
    unfold toM
    rw [Nat.mul_assoc, Nat.mul_comm (riOf _), Nat.mul_mod, hri, Nat.mul_one, Nat.mod_mod, Nat.mod_eq_of_lt hz]
  have h := invL_pow hri (z * riOf (md 2) % md 2) (e := md 2 - 2) (by omega) 256 (Nat.le_refl _)
  rw [hz2, Nat.sub_self, Nat.pow_zero, Nat.div_one] at h
  rw [h, Pr.pm_eq _ _ _ _ (by unfold B4 at hlt; have : (2 : Nat) ^ 256 = 115792089237316195423570985008687907853269984665640564039457584007913129639936 := by decide
                              omega), toM_mod]
theorem ladM_run {e x1 N : Nat} (hx : x1 < md 2) (h : runK (md 2) (riOf (md 2)) x1 (toM (md 2) 121665) e 255 (B4 % md 2) 0 x1 (B4 % md 2)
    (fun x z _ _ => mo (md 2) (mo (md 2) x (toM (md 2) (Pr.pm (md 2) (z * riOf (md 2) % md 2) 256 (md 2 - 2)))) 1 == N) = true) : ladM e x1 = N := by
  have h := beq_iff_eq.1 (lad_run h)
  unfold ladM
  rw [invL_run (ladQ_ok (by decide) hx _ _ 255).2.1]
  exact h
/-- the least key's public number -/
theorem base_value : ladM 28948022309329048855892746252171976963317496166410141009864396001978282409984 (toM (md 2) 9) = 52573937849532372069814888178136277301931757964231753054399601207743438775599 := by
  refine ladM_run (toM_lt (by decide) _) ?_
  decide +kernel
end Go.Sym.X

namespace Go.Sym.N
open Go Go.Proofs.Try Go.Sym.Num
open Go.Sym.X
open Go.Sym.Num32 (minusSt minusSt_len minus_of)
set_option maxRecDepth 100000
attribute [local irreducible] Num32.lim Num32.val Num32.mlim md beB beV mont riOf mo toM invL clampV topV ladM fa fs ladQ bitn sharedV minusSt

/-- the orders of the drawn regions of halberdref9.Shared -/
def pl34 : List (Nat × List PStep) := [(8, [⟨0, []⟩, ⟨1, [0]⟩, ⟨2, []⟩, ⟨3, []⟩]), (9, [⟨0, []⟩, ⟨1, [0]⟩, ⟨2, []⟩, ⟨3, []⟩]), (10, [⟨0, []⟩, ⟨1, [0]⟩, ⟨2, [0]⟩, ⟨3, []⟩, ⟨4, []⟩, ⟨5, []⟩])]
/-- the orders of the drawn regions of halberdlaw10.awake -/
def pl37 : List (Nat × List PStep) := [(2, [⟨0, []⟩, ⟨1, []⟩, ⟨2, [0, 1]⟩, ⟨3, []⟩, ⟨4, []⟩, ⟨5, []⟩, ⟨6, [5]⟩, ⟨7, [6]⟩, ⟨8, []⟩]), (3, [⟨0, []⟩, ⟨1, []⟩, ⟨2, [0, 1]⟩, ⟨3, [0, 1]⟩, ⟨4, []⟩, ⟨5, []⟩, ⟨6, []⟩, ⟨7, [6]⟩, ⟨8, [7]⟩, ⟨9, []⟩])]

def rminusN : Spec := fun args hp K => match args, hp with
  | [.arr32 8 x, .arr32 8 y], [] => ∃ a b, (x = Num32.lim a ∧ y = Num32.lim b ∧ b ≤ a ∧ a < B4) ∧ K (.arr32 8 (Num32.lim (a - b))) []
  | _, _ => False
theorem rminusN_s : SoundC prog 68 rminusN := by
  refine weaken rminus_s fun args hp K h => ?_
  unfold rminusN at h
  split at h
  · obtain ⟨a, b, ⟨rfl, rfl, hab, ha⟩, h⟩ := h
    unfold rminusS
    refine pre_i ⟨Num32.lim_len _, Num32.lim_len _⟩ ?_
    rw [minus_of (Num32.lim_len _) (Num32.lim_len _), Num32.val_lim ha, Num32.val_lim (by omega), show (a + (B4 - b)) % B4 = a - b by
      rw [show a + (B4 - b) = a - b + B4 by omega, Nat.add_mod_right, Nat.mod_eq_of_lt (by omega)]]
    exact h
  · exact h.elim
def rlessN : Spec := fun args hp K => match args, hp with
  | [.arr32 8 x, .arr32 8 y], [] => ∃ a b, (x = Num32.lim a ∧ y = Num32.lim b ∧ a < B4 ∧ b < B4) ∧ K (.bool (decide (a < b))) []
  | _, _ => False
theorem rlessN_s : SoundC prog 66 rlessN := by
  refine weaken rless_s fun args hp K h => ?_
  unfold rlessN at h
  split at h
  · obtain ⟨a, b, ⟨rfl, rfl, ha, hb⟩, h⟩ := h
    unfold rlessS
    refine pre_i ⟨Num32.lim_len _, Num32.lim_len _⟩ ?_
    rw [Num32.val_lim ha, Num32.val_lim hb]
    exact h
  · exact h.elim
def rmodN : Spec := fun args hp K => match args, hp with
  | [.int w], [] => Pre (w = 2) (K (.arr32 8 (Num32.lim (md 2))) [])
  | _, _ => False
theorem mlimX : Num32.mlim 2 = Num32.lim (md 2) := Num32.lim_of (Num32.mlim_len 2) (Num32.mlim_val (by decide))
theorem rmodN_s : SoundC prog 67 rmodN := by
  refine weaken rmod_s fun args hp K h => ?_
  unfold rmodN at h
  split at h
  · obtain ⟨e, h'⟩ := pre_e h
    subst e
    clear h
    have h := h'
    unfold rmodS
    show K (.arr32 8 (Num32.mlim 2)) []
    rw [mlimX]
    exact h
  · exact h.elim
theorem beB_none {V : Nat} (h : V < B4) : beB 32 V = List.replicate 32 0 ↔ V = 0 := by
  have e : beB 32 0 = List.replicate 32 0 := by decide +kernel
  constructor
  · intro he; rw [← e] at he
    exact beB_inj h (by unfold B4; decide) he
  · rintro rfl; exact e
theorem rShared_s : SoundC prog 34 SharedS := by
  refine sound_f tys_ok (fnok_cons get_s (fnok_cons rturned_s (fnok_cons rlessN_s (fnok_cons rmodN_s (fnok_cons rminusN_s (fnok_cons put_s (fnok_cons rladder_s (fnok_cons rintoN_s fnok_nil)))))))) rfl func34 rfl call34 (D := pl34) ?_ ?_
  · intro args hp K h
    unfold SharedS at h
    split at h
    · exact Nat.le_of_ble_eq_true rfl
    · exact h.elim
  · intro args hp K h
    unfold SharedS at h
    split at h
    · rename_i k u
      obtain ⟨ht, hn⟩ := cond_e h
      by_cases hk : k.length = 32
      · by_cases hu : u.length = 32
        · have ht := ht (by rw [decide_eq_true_eq]; exact ⟨hk, hu⟩)
          have hkr : k.reverse.length = 32 := by rw [List.length_reverse, hk]
          have hur : u.reverse.length = 32 := by rw [List.length_reverse, hu]
          have hub : beV u.reverse < B4 := beV_lt 32 _ hur
          have hkb : beV k.reverse < B4 := beV_lt 32 _ hkr
          have hll := Num32.lim_len (beV u.reverse)
          have hlk := Num32.lim_len (beV k.reverse)
          have hlk2 : ((Num32.lim (beV k.reverse)).set 0 ((Num32.lim (beV k.reverse)).getD 0 0 &&& ~~~ (UInt32.ofNat 7))).length = 8 := by rw [List.length_set]; exact hlk
          have htl := topV_lt (beV u.reverse)
          have hmd : md 2 = mX := by unfold md; rfl
          have hmB := md2_lt
          have hmp := md2_pos
          have htB : topV (beV u.reverse) < B4 := by unfold B4; unfold mX at htl; omega
          repeat ((conv => whnf); first | (refine pre_i ?hc ?_; case hc => first | exact (show planOK _ _ _ = true from by kernel_rfl) | assumption | omega | (unfold fits; omega) | decide +kernel | (constructor <;> first | assumption | omega) | (simp only [off_addO, tysz, off, offE] <;> omega) | (simp only [lens, off_addO, off, offE] <;> omega) | (simp only [off_addO, tysz, lens, off, offE] <;> omega) | (constructor <;> first | assumption | (simp only [off_addO, tysz, lens, off, offE] <;> omega))) | (refine cond_t ?hc ?_; case hc => first | rfl | assumption | (rw [decide_eq_true_eq]; omega) | (rw [decide_eq_false_iff_not]; omega) | (simp <;> omega)) | (refine cond_f ?hc ?_; case hc => first | rfl | assumption | (rw [decide_eq_true_eq]; omega) | (rw [decide_eq_false_iff_not]; omega) | (simp <;> omega)) | refine same_i ?_)
          conv => whnf
          have eX : (Num32.lim (beV u.reverse)).set (off (addO [] (Int.toNat 7) ty70.sz)) ((Num32.lim (beV u.reverse)).getD (off (addO [] (Int.toNat 7) ty70.sz)) 0 &&& UInt32.ofNat 2147483647) = Num32.lim (topV (beV u.reverse)) := top32 hub
          have eE : ((Num32.lim (beV k.reverse)).set (off (addO [] (Int.toNat 0) ty70.sz)) ((Num32.lim (beV k.reverse)).getD (off (addO [] (Int.toNat 0) ty70.sz)) 0 &&& ~~~ (UInt32.ofNat 7))).set (off (addO [] (Int.toNat 7) ty70.sz)) (((Num32.lim (beV k.reverse)).set (off (addO [] (Int.toNat 0) ty70.sz)) ((Num32.lim (beV k.reverse)).getD (off (addO [] (Int.toNat 0) ty70.sz)) 0 &&& ~~~ (UInt32.ofNat 7))).getD (off (addO [] (Int.toNat 7) ty70.sz)) 0 &&& UInt32.ofNat 2147483647 ||| UInt32.ofNat 1073741824) = Num32.lim (clampV (beV k.reverse)) := clamp32 hkb
          have hC := clampV_lt (beV k.reverse)
          have hC2 : clampV (beV k.reverse) % 2 = 0 := by have := clampV_even (beV k.reverse); omega
          rw [eX, eE]
          have hsV : ∀ a, a = topV (beV u.reverse) % md 2 → ladM (clampV (beV k.reverse)) (toM (md 2) a) = sharedV k u := fun a ha => by rw [ha]; unfold sharedV; rfl
          have hV : sharedV k u < md 2 := by unfold sharedV; exact ladM_lt _ _
          obtain ⟨h0, h1⟩ := cond_e ht
          clear ht hn eX eE
          generalize topV (beV u.reverse) = T at *
          generalize clampV (beV k.reverse) = C at *
          generalize sharedV k u = V at *
          have vV : Num32.val (Num32.lim V) = V := Num32.val_lim (by omega)
          have lV := Num32.lim_len V
          have hz := beB_none (V := V) (by omega)
          have lB : (beB 32 V).length ≤ 140737488355328 := by rw [beB_len]; decide
          refine ⟨T, md 2, ⟨rfl, rfl, htB, hmB⟩, ?_⟩
          by_cases hTm : T < md 2
          · have hd0 : (!decide (T < md 2)) = false := by rw [decide_eq_true hTm]; rfl
            have hdt : decide (T < md 2) = true := decide_eq_true hTm
            repeat ((conv => whnf); first | (refine pre_i ?hc ?_; case hc => first | exact (show planOK _ _ _ = true from by kernel_rfl) | assumption | omega | (unfold fits; omega) | decide +kernel | (constructor <;> first | assumption | omega) | (simp only [off_addO, tysz, off, offE] <;> omega) | (simp only [lens, off_addO, off, offE] <;> omega) | (simp only [off_addO, tysz, lens, off, offE] <;> omega) | (constructor <;> first | assumption | (simp only [off_addO, tysz, lens, off, offE] <;> omega))) | (refine cond_t ?hc ?_; case hc => first | rfl | assumption | (rw [decide_eq_true_eq]; omega) | (rw [decide_eq_false_iff_not]; omega) | (simp <;> omega) | exact hd0 | (rw [hd0]; rfl) | exact hdt | (rw [hdt]; rfl)) | (refine cond_f ?hc ?_; case hc => first | rfl | assumption | (rw [decide_eq_true_eq]; omega) | (rw [decide_eq_false_iff_not]; omega) | (simp <;> omega) | exact hd0 | (rw [hd0]; rfl) | exact hdt | (rw [hdt]; rfl)) | refine same_i ?_)
            conv => whnf
            refine ⟨_, ⟨rfl, rfl, hTm⟩, ?_⟩
            repeat ((conv => whnf); first | (refine pre_i ?hc ?_; case hc => first | exact (show planOK _ _ _ = true from by kernel_rfl) | assumption | omega | (unfold fits; omega) | decide +kernel | (constructor <;> first | assumption | omega) | (simp only [off_addO, tysz, off, offE] <;> omega) | (simp only [lens, off_addO, off, offE] <;> omega) | (simp only [off_addO, tysz, lens, off, offE] <;> omega) | (constructor <;> first | assumption | (simp only [off_addO, tysz, lens, off, offE] <;> omega))) | (refine cond_t ?hc ?_; case hc => first | rfl | assumption | (rw [decide_eq_true_eq]; omega) | (rw [decide_eq_false_iff_not]; omega) | (simp <;> omega)) | (refine cond_f ?hc ?_; case hc => first | rfl | assumption | (rw [decide_eq_true_eq]; omega) | (rw [decide_eq_false_iff_not]; omega) | (simp <;> omega)) | refine same_i ?_)
            conv => whnf
            refine ⟨_, _, ⟨rfl, rfl, hC, hC2, toM2_lt _⟩, ?_⟩
            rw [hsV T (by rw [Nat.mod_eq_of_lt hTm])]
            by_cases hz0 : V = 0
            · have h0 := h0 (decide_eq_true hz0)
              have hd : decide (beB 32 (Num32.val (Num32.lim V)) = List.replicate 32 0) = true := decide_eq_true (by rw [vV]; exact hz.2 hz0)
              repeat ((conv => whnf); first | (refine pre_i ?hc ?_; case hc => first | exact (show planOK _ _ _ = true from by kernel_rfl) | assumption | omega | (unfold fits; omega) | decide +kernel | (constructor <;> first | assumption | omega) | (simp only [off_addO, tysz, off, offE] <;> omega) | (simp only [lens, off_addO, off, offE] <;> omega) | (simp only [off_addO, tysz, lens, off, offE] <;> omega) | (constructor <;> first | assumption | (simp only [off_addO, tysz, lens, off, offE] <;> omega))) | (refine cond_t ?hc ?_; case hc => first | rfl | assumption | (rw [decide_eq_true_eq]; omega) | (rw [decide_eq_false_iff_not]; omega) | (simp <;> omega) | exact hd | (rw [hd]; rfl)) | (refine cond_f ?hc ?_; case hc => first | rfl | assumption | (rw [decide_eq_true_eq]; omega) | (rw [decide_eq_false_iff_not]; omega) | (simp <;> omega) | exact hd | (rw [hd]; rfl)) | refine same_i ?_)
              conv => whnf
              refine final_h (hp' := []) [] h0 ?_
              repeat ((conv => whnf); first | (refine pre_i ?hc ?_; case hc => first | exact (show planOK _ _ _ = true from by kernel_rfl) | assumption | omega | (unfold fits; omega) | decide +kernel | (constructor <;> first | assumption | omega) | (simp only [off_addO, tysz, off, offE] <;> omega) | (simp only [lens, off_addO, off, offE] <;> omega) | (simp only [off_addO, tysz, lens, off, offE] <;> omega) | (constructor <;> first | assumption | (simp only [off_addO, tysz, lens, off, offE] <;> omega))) | (refine cond_t ?hc ?_; case hc => first | rfl | assumption | (rw [decide_eq_true_eq]; omega) | (rw [decide_eq_false_iff_not]; omega) | (simp <;> omega)) | (refine cond_f ?hc ?_; case hc => first | rfl | assumption | (rw [decide_eq_true_eq]; omega) | (rw [decide_eq_false_iff_not]; omega) | (simp <;> omega)) | refine same_i ?_)
              exact trivial
            · have h1 := h1 (decide_eq_false hz0)
              have hd : decide (beB 32 (Num32.val (Num32.lim V)) = List.replicate 32 0) = false := decide_eq_false (by rw [vV]; exact fun hh => hz0 (hz.1 hh))
              have lB2 : (beB 32 (Num32.val (Num32.lim V))).length ≤ 140737488355328 := by rw [vV]; exact lB
              repeat ((conv => whnf); first | (refine pre_i ?hc ?_; case hc => first | exact (show planOK _ _ _ = true from by kernel_rfl) | assumption | omega | (unfold fits; omega) | decide +kernel | (constructor <;> first | assumption | omega) | (simp only [off_addO, tysz, off, offE] <;> omega) | (simp only [lens, off_addO, off, offE] <;> omega) | (simp only [off_addO, tysz, lens, off, offE] <;> omega) | (constructor <;> first | assumption | (simp only [off_addO, tysz, lens, off, offE] <;> omega))) | (refine cond_t ?hc ?_; case hc => first | rfl | assumption | (rw [decide_eq_true_eq]; omega) | (rw [decide_eq_false_iff_not]; omega) | (simp <;> omega) | exact hd | (rw [hd]; rfl)) | (refine cond_f ?hc ?_; case hc => first | rfl | assumption | (rw [decide_eq_true_eq]; omega) | (rw [decide_eq_false_iff_not]; omega) | (simp <;> omega) | exact hd | (rw [hd]; rfl)) | refine same_i ?_)
              conv => whnf
              rw [vV]
              refine final_h (hp' := []) [] h1 ?_
              repeat ((conv => whnf); first | (refine pre_i ?hc ?_; case hc => first | exact (show planOK _ _ _ = true from by kernel_rfl) | assumption | omega | (unfold fits; omega) | decide +kernel | (constructor <;> first | assumption | omega) | (simp only [off_addO, tysz, off, offE] <;> omega) | (simp only [lens, off_addO, off, offE] <;> omega) | (simp only [off_addO, tysz, lens, off, offE] <;> omega) | (constructor <;> first | assumption | (simp only [off_addO, tysz, lens, off, offE] <;> omega))) | (refine cond_t ?hc ?_; case hc => first | rfl | assumption | (rw [decide_eq_true_eq]; omega) | (rw [decide_eq_false_iff_not]; omega) | (simp <;> omega)) | (refine cond_f ?hc ?_; case hc => first | rfl | assumption | (rw [decide_eq_true_eq]; omega) | (rw [decide_eq_false_iff_not]; omega) | (simp <;> omega)) | refine same_i ?_)
              exact trivial
          · have hdt : decide (T < md 2) = false := decide_eq_false hTm
            repeat ((conv => whnf); first | (refine pre_i ?hc ?_; case hc => first | exact (show planOK _ _ _ = true from by kernel_rfl) | assumption | omega | (unfold fits; omega) | decide +kernel | (constructor <;> first | assumption | omega) | (simp only [off_addO, tysz, off, offE] <;> omega) | (simp only [lens, off_addO, off, offE] <;> omega) | (simp only [off_addO, tysz, lens, off, offE] <;> omega) | (constructor <;> first | assumption | (simp only [off_addO, tysz, lens, off, offE] <;> omega))) | (refine cond_t ?hc ?_; case hc => first | rfl | assumption | (rw [decide_eq_true_eq]; omega) | (rw [decide_eq_false_iff_not]; omega) | (simp <;> omega) | exact hdt | (rw [hdt]; rfl)) | (refine cond_f ?hc ?_; case hc => first | rfl | assumption | (rw [decide_eq_true_eq]; omega) | (rw [decide_eq_false_iff_not]; omega) | (simp <;> omega) | exact hdt | (rw [hdt]; rfl)) | refine same_i ?_)
            conv => whnf
            refine ⟨_, _, ⟨rfl, rfl, by omega, htB⟩, ?_⟩
            repeat ((conv => whnf); first | (refine pre_i ?hc ?_; case hc => first | exact (show planOK _ _ _ = true from by kernel_rfl) | assumption | omega | (unfold fits; omega) | decide +kernel | (constructor <;> first | assumption | omega) | (simp only [off_addO, tysz, off, offE] <;> omega) | (simp only [lens, off_addO, off, offE] <;> omega) | (simp only [off_addO, tysz, lens, off, offE] <;> omega) | (constructor <;> first | assumption | (simp only [off_addO, tysz, lens, off, offE] <;> omega))) | (refine cond_t ?hc ?_; case hc => first | rfl | assumption | (rw [decide_eq_true_eq]; omega) | (rw [decide_eq_false_iff_not]; omega) | (simp <;> omega)) | (refine cond_f ?hc ?_; case hc => first | rfl | assumption | (rw [decide_eq_true_eq]; omega) | (rw [decide_eq_false_iff_not]; omega) | (simp <;> omega)) | refine same_i ?_)
            conv => whnf
            refine ⟨_, ⟨rfl, rfl, by omega⟩, ?_⟩
            repeat ((conv => whnf); first | (refine pre_i ?hc ?_; case hc => first | exact (show planOK _ _ _ = true from by kernel_rfl) | assumption | omega | (unfold fits; omega) | decide +kernel | (constructor <;> first | assumption | omega) | (simp only [off_addO, tysz, off, offE] <;> omega) | (simp only [lens, off_addO, off, offE] <;> omega) | (simp only [off_addO, tysz, lens, off, offE] <;> omega) | (constructor <;> first | assumption | (simp only [off_addO, tysz, lens, off, offE] <;> omega))) | (refine cond_t ?hc ?_; case hc => first | rfl | assumption | (rw [decide_eq_true_eq]; omega) | (rw [decide_eq_false_iff_not]; omega) | (simp <;> omega)) | (refine cond_f ?hc ?_; case hc => first | rfl | assumption | (rw [decide_eq_true_eq]; omega) | (rw [decide_eq_false_iff_not]; omega) | (simp <;> omega)) | refine same_i ?_)
            conv => whnf
            refine ⟨_, _, ⟨rfl, rfl, hC, hC2, toM2_lt _⟩, ?_⟩
            rw [hsV (T - md 2) (by rw [Nat.mod_eq_sub_mod (by omega), Nat.mod_eq_of_lt (by omega)])]
            by_cases hz0 : V = 0
            · have h0 := h0 (decide_eq_true hz0)
              have hd : decide (beB 32 (Num32.val (Num32.lim V)) = List.replicate 32 0) = true := decide_eq_true (by rw [vV]; exact hz.2 hz0)
              repeat ((conv => whnf); first | (refine pre_i ?hc ?_; case hc => first | exact (show planOK _ _ _ = true from by kernel_rfl) | assumption | omega | (unfold fits; omega) | decide +kernel | (constructor <;> first | assumption | omega) | (simp only [off_addO, tysz, off, offE] <;> omega) | (simp only [lens, off_addO, off, offE] <;> omega) | (simp only [off_addO, tysz, lens, off, offE] <;> omega) | (constructor <;> first | assumption | (simp only [off_addO, tysz, lens, off, offE] <;> omega))) | (refine cond_t ?hc ?_; case hc => first | rfl | assumption | (rw [decide_eq_true_eq]; omega) | (rw [decide_eq_false_iff_not]; omega) | (simp <;> omega) | exact hd | (rw [hd]; rfl)) | (refine cond_f ?hc ?_; case hc => first | rfl | assumption | (rw [decide_eq_true_eq]; omega) | (rw [decide_eq_false_iff_not]; omega) | (simp <;> omega) | exact hd | (rw [hd]; rfl)) | refine same_i ?_)
              conv => whnf
              refine final_h (hp' := []) [] h0 ?_
              repeat ((conv => whnf); first | (refine pre_i ?hc ?_; case hc => first | exact (show planOK _ _ _ = true from by kernel_rfl) | assumption | omega | (unfold fits; omega) | decide +kernel | (constructor <;> first | assumption | omega) | (simp only [off_addO, tysz, off, offE] <;> omega) | (simp only [lens, off_addO, off, offE] <;> omega) | (simp only [off_addO, tysz, lens, off, offE] <;> omega) | (constructor <;> first | assumption | (simp only [off_addO, tysz, lens, off, offE] <;> omega))) | (refine cond_t ?hc ?_; case hc => first | rfl | assumption | (rw [decide_eq_true_eq]; omega) | (rw [decide_eq_false_iff_not]; omega) | (simp <;> omega)) | (refine cond_f ?hc ?_; case hc => first | rfl | assumption | (rw [decide_eq_true_eq]; omega) | (rw [decide_eq_false_iff_not]; omega) | (simp <;> omega)) | refine same_i ?_)
              exact trivial
            · have h1 := h1 (decide_eq_false hz0)
              have hd : decide (beB 32 (Num32.val (Num32.lim V)) = List.replicate 32 0) = false := decide_eq_false (by rw [vV]; exact fun hh => hz0 (hz.1 hh))
              have lB2 : (beB 32 (Num32.val (Num32.lim V))).length ≤ 140737488355328 := by rw [vV]; exact lB
              repeat ((conv => whnf); first | (refine pre_i ?hc ?_; case hc => first | exact (show planOK _ _ _ = true from by kernel_rfl) | assumption | omega | (unfold fits; omega) | decide +kernel | (constructor <;> first | assumption | omega) | (simp only [off_addO, tysz, off, offE] <;> omega) | (simp only [lens, off_addO, off, offE] <;> omega) | (simp only [off_addO, tysz, lens, off, offE] <;> omega) | (constructor <;> first | assumption | (simp only [off_addO, tysz, lens, off, offE] <;> omega))) | (refine cond_t ?hc ?_; case hc => first | rfl | assumption | (rw [decide_eq_true_eq]; omega) | (rw [decide_eq_false_iff_not]; omega) | (simp <;> omega) | exact hd | (rw [hd]; rfl)) | (refine cond_f ?hc ?_; case hc => first | rfl | assumption | (rw [decide_eq_true_eq]; omega) | (rw [decide_eq_false_iff_not]; omega) | (simp <;> omega) | exact hd | (rw [hd]; rfl)) | refine same_i ?_)
              conv => whnf
              rw [vV]
              refine final_h (hp' := []) [] h1 ?_
              repeat ((conv => whnf); first | (refine pre_i ?hc ?_; case hc => first | exact (show planOK _ _ _ = true from by kernel_rfl) | assumption | omega | (unfold fits; omega) | decide +kernel | (constructor <;> first | assumption | omega) | (simp only [off_addO, tysz, off, offE] <;> omega) | (simp only [lens, off_addO, off, offE] <;> omega) | (simp only [off_addO, tysz, lens, off, offE] <;> omega) | (constructor <;> first | assumption | (simp only [off_addO, tysz, lens, off, offE] <;> omega))) | (refine cond_t ?hc ?_; case hc => first | rfl | assumption | (rw [decide_eq_true_eq]; omega) | (rw [decide_eq_false_iff_not]; omega) | (simp <;> omega)) | (refine cond_f ?hc ?_; case hc => first | rfl | assumption | (rw [decide_eq_true_eq]; omega) | (rw [decide_eq_false_iff_not]; omega) | (simp <;> omega)) | refine same_i ?_)
              exact trivial
        · have hn := hn (by rw [decide_eq_false_iff_not]; exact fun hh => hu hh.2)
          repeat ((conv => whnf); first | (refine pre_i ?hc ?_; case hc => first | exact (show planOK _ _ _ = true from by kernel_rfl) | assumption | omega | (unfold fits; omega) | decide +kernel | (constructor <;> first | assumption | omega) | (simp only [off_addO, tysz, off, offE] <;> omega) | (simp only [lens, off_addO, off, offE] <;> omega) | (simp only [off_addO, tysz, lens, off, offE] <;> omega) | (constructor <;> first | assumption | (simp only [off_addO, tysz, lens, off, offE] <;> omega))) | (refine cond_t ?hc ?_; case hc => first | rfl | assumption | (rw [decide_eq_true_eq]; omega) | (rw [decide_eq_false_iff_not]; omega) | (simp <;> omega)) | (refine cond_f ?hc ?_; case hc => first | rfl | assumption | (rw [decide_eq_true_eq]; omega) | (rw [decide_eq_false_iff_not]; omega) | (simp <;> omega)) | refine same_i ?_)
          conv => whnf
          refine final_h (hp' := []) [] hn ?_
          repeat ((conv => whnf); first | (refine pre_i ?hc ?_; case hc => first | exact (show planOK _ _ _ = true from by kernel_rfl) | assumption | omega | (unfold fits; omega) | decide +kernel | (constructor <;> first | assumption | omega) | (simp only [off_addO, tysz, off, offE] <;> omega) | (simp only [lens, off_addO, off, offE] <;> omega) | (simp only [off_addO, tysz, lens, off, offE] <;> omega) | (constructor <;> first | assumption | (simp only [off_addO, tysz, lens, off, offE] <;> omega))) | (refine cond_t ?hc ?_; case hc => first | rfl | assumption | (rw [decide_eq_true_eq]; omega) | (rw [decide_eq_false_iff_not]; omega) | (simp <;> omega)) | (refine cond_f ?hc ?_; case hc => first | rfl | assumption | (rw [decide_eq_true_eq]; omega) | (rw [decide_eq_false_iff_not]; omega) | (simp <;> omega)) | refine same_i ?_)
          exact trivial
      · have hn := hn (by rw [decide_eq_false_iff_not]; exact fun hh => hk hh.1)
        repeat ((conv => whnf); first | (refine pre_i ?hc ?_; case hc => first | exact (show planOK _ _ _ = true from by kernel_rfl) | assumption | omega | (unfold fits; omega) | decide +kernel | (constructor <;> first | assumption | omega) | (simp only [off_addO, tysz, off, offE] <;> omega) | (simp only [lens, off_addO, off, offE] <;> omega) | (simp only [off_addO, tysz, lens, off, offE] <;> omega) | (constructor <;> first | assumption | (simp only [off_addO, tysz, lens, off, offE] <;> omega))) | (refine cond_t ?hc ?_; case hc => first | rfl | assumption | (rw [decide_eq_true_eq]; omega) | (rw [decide_eq_false_iff_not]; omega) | (simp <;> omega)) | (refine cond_f ?hc ?_; case hc => first | rfl | assumption | (rw [decide_eq_true_eq]; omega) | (rw [decide_eq_false_iff_not]; omega) | (simp <;> omega)) | refine same_i ?_)
        conv => whnf
        refine final_h (hp' := []) [] hn ?_
        repeat ((conv => whnf); first | (refine pre_i ?hc ?_; case hc => first | exact (show planOK _ _ _ = true from by kernel_rfl) | assumption | omega | (unfold fits; omega) | decide +kernel | (constructor <;> first | assumption | omega) | (simp only [off_addO, tysz, off, offE] <;> omega) | (simp only [lens, off_addO, off, offE] <;> omega) | (simp only [off_addO, tysz, lens, off, offE] <;> omega) | (constructor <;> first | assumption | (simp only [off_addO, tysz, lens, off, offE] <;> omega))) | (refine cond_t ?hc ?_; case hc => first | rfl | assumption | (rw [decide_eq_true_eq]; omega) | (rw [decide_eq_false_iff_not]; omega) | (simp <;> omega)) | (refine cond_f ?hc ?_; case hc => first | rfl | assumption | (rw [decide_eq_true_eq]; omega) | (rw [decide_eq_false_iff_not]; omega) | (simp <;> omega)) | refine same_i ?_)
        exact trivial
    · exact h.elim
def v0 : Nat := 52573937849532372069814888178136277301931757964231753054399601207743438775599
def v0B : List UInt8 := [47, 229, 125, 163, 71, 205, 98, 67, 21, 40, 218, 172, 95, 187, 41, 7, 48, 255, 246, 132, 175, 196, 207, 194, 237, 144, 153, 95, 88, 203, 59, 116]
theorem v0_B : (beB 32 v0).reverse = v0B := by decide +kernel
theorem shared9 : sharedV (List.replicate 32 0) nineB = v0 := by
  unfold sharedV
  have e1 : clampV (beV (List.replicate 32 0).reverse) = 28948022309329048855892746252171976963317496166410141009864396001978282409984 := by decide +kernel
  have e2 : topV (beV nineB.reverse) % md 2 = 9 := by decide +kernel
  rw [e1, e2, base_value]; rfl
theorem shared0 : sharedV (List.replicate 32 0) (List.replicate 32 0) = 0 := by
  unfold sharedV
  have e2 : topV (beV (List.replicate 32 0).reverse) % md 2 = 0 := by decide +kernel
  rw [e2, small0]
def awakeXS : Spec := fun args hp K => match args, hp with
  | [], [] => K (.bool true) []
  | _, _ => False
theorem awakeX_s : SoundC prog 37 awakeXS := by
  refine sound_f tys_ok (fnok_cons Public_s (fnok_cons Shared_s (fnok_cons nine_s (fnok_cons num_s fnok_nil)))) rfl func37 rfl call37 (D := pl37) ?_ ?_
  · intro args hp K h
    unfold awakeXS at h
    split at h
    · exact Nat.le_of_ble_eq_true rfl
    · exact h.elim
  · intro args hp K h
    unfold awakeXS at h
    split at h
    · have hd1 : decide (sharedV (List.replicate 32 0) nineB = 0) = false := by rw [shared9]; decide +kernel
      have hd2 : decide (sharedV (List.replicate 32 0) (List.replicate 32 0) = 0) = true := by rw [shared0]; rfl
      have hd3 : decide ((List.replicate 32 (0 : UInt8)).length = 32 ∧ (List.replicate 32 (0 : UInt8)).length = 32) = true := rfl
      have hd4 : decide ((List.replicate 32 (0 : UInt8)).length = 32 ∧ nineB.length = 32) = true := rfl
      have er : List.take (Int.toNat 32) (List.drop (off []) (List.replicate (Int.toNat 32) (0 : UInt8))) = List.replicate 32 0 := rfl
      repeat ((conv => whnf); first | (refine pre_i ?hc ?_; case hc => first | exact (show planOK _ _ _ = true from by kernel_rfl) | assumption | omega | (unfold fits; omega) | decide +kernel | (constructor <;> first | assumption | omega) | (simp only [off_addO, tysz, off, offE] <;> omega) | (simp only [lens, off_addO, off, offE] <;> omega) | (simp only [off_addO, tysz, lens, off, offE] <;> omega) | (constructor <;> first | assumption | (simp only [off_addO, tysz, lens, off, offE] <;> omega))) | (refine cond_t ?hc ?_; case hc => first | rfl | assumption | (rw [decide_eq_true_eq]; omega) | (rw [decide_eq_false_iff_not]; omega) | (simp <;> omega)) | (refine cond_f ?hc ?_; case hc => first | rfl | assumption | (rw [decide_eq_true_eq]; omega) | (rw [decide_eq_false_iff_not]; omega) | (simp <;> omega)) | refine same_i ?_)
      conv => whnf
      rw [er]
      rw [shared9, v0_B]
      repeat ((conv => whnf); first | (refine pre_i ?hc ?_; case hc => first | exact (show planOK _ _ _ = true from by kernel_rfl) | assumption | omega | (unfold fits; omega) | decide +kernel | (constructor <;> first | assumption | omega) | (simp only [off_addO, tysz, off, offE] <;> omega) | (simp only [lens, off_addO, off, offE] <;> omega) | (simp only [off_addO, tysz, lens, off, offE] <;> omega) | (constructor <;> first | assumption | (simp only [off_addO, tysz, lens, off, offE] <;> omega))) | (refine cond_t ?hc ?_; case hc => first | rfl | assumption | (rw [decide_eq_true_eq]; omega) | (rw [decide_eq_false_iff_not]; omega) | (simp <;> omega) | (decide +kernel)) | (refine cond_f ?hc ?_; case hc => first | rfl | assumption | (rw [decide_eq_true_eq]; omega) | (rw [decide_eq_false_iff_not]; omega) | (simp <;> omega) | (decide +kernel)) | refine same_i ?_)
      conv => whnf
      refine final_h (hp' := []) [] h ?_
      repeat ((conv => whnf); first | (refine pre_i ?hc ?_; case hc => first | exact (show planOK _ _ _ = true from by kernel_rfl) | assumption | omega | (unfold fits; omega) | decide +kernel | (constructor <;> first | assumption | omega) | (simp only [off_addO, tysz, off, offE] <;> omega) | (simp only [lens, off_addO, off, offE] <;> omega) | (simp only [off_addO, tysz, lens, off, offE] <;> omega) | (constructor <;> first | assumption | (simp only [off_addO, tysz, lens, off, offE] <;> omega))) | (refine cond_t ?hc ?_; case hc => first | rfl | assumption | (rw [decide_eq_true_eq]; omega) | (rw [decide_eq_false_iff_not]; omega) | (simp <;> omega)) | (refine cond_f ?hc ?_; case hc => first | rfl | assumption | (rw [decide_eq_true_eq]; omega) | (rw [decide_eq_false_iff_not]; omega) | (simp <;> omega)) | refine same_i ?_)
      exact trivial
    · exact h.elim
end Go.Sym.N

namespace Go.Sym.N
open Go Go.Proofs.Try Go.Sym.Num
open Go.Sym.X
set_option maxRecDepth 100000
attribute [local irreducible] md beB beV mo toM clampV topV ladM sharedV nineB

/-- the orders of the drawn regions of halberdlaw10.Xcurves -/
def pl10 : List (Nat × List PStep) := []

def lawG (nt : Nat) (ty : List (Nat × TyI)) (fs : List (Nat × Spec)) (w : World) (rs : List Row) : Ctx := { nt := nt, ty := ty, fn := fs, E := fun w' => Ext (fun _ => False) w w', ext := rowsExt rs }
def lawFnX : List (Nat × Spec) := [(33, SharedS), (34, SharedS), (35, PublicS), (36, nineS), (37, awakeXS), (15, numS)]
theorem lawFnX_ok : ∀ f S, look lawFnX f = some S → SoundC prog f S := fnok_cons Shared_s (fnok_cons rShared_s (fnok_cons Public_s (fnok_cons nine_s (fnok_cons awakeX_s (fnok_cons num_s fnok_nil)))))
theorem nineB_len : nineB.length = 32 := by unfold nineB; rfl
theorem xcurves_vc (w : World) (x y : List UInt8) :
    fnVC (lawG f10.ntmps tys lawFnX w []) pl10 (codeOf f10) f10.results.toList [.str x, .str y] [] (fun r _ => r = .bool true) := by
  have ln := nineB_len
  by_cases hx : x.length = 32
  · have d1 : decide (x.length = 32) = true := decide_eq_true hx
    have d3 : decide (x.length = 32 ∧ nineB.length = 32) = true := decide_eq_true ⟨hx, ln⟩
    by_cases hy : y.length = 32
    · have d2 : decide (x.length = 32 ∧ y.length = 32) = true := decide_eq_true ⟨hx, hy⟩
      generalize e1 : decide (sharedV x y = 0) = c1
      generalize e2 : decide (sharedV x nineB = 0) = c2
      cases c1 <;> cases c2
      all_goals
        repeat ((conv => whnf); first | (refine pre_i ?hc ?_; case hc => first | exact (show planOK _ _ _ = true from by kernel_rfl) | assumption | omega | (unfold fits; omega) | decide +kernel | (constructor <;> first | assumption | omega) | (simp only [off_addO, tysz, off, offE] <;> omega) | (simp only [lens, off_addO, off, offE] <;> omega) | (simp only [off_addO, tysz, lens, off, offE] <;> omega) | (constructor <;> first | assumption | (simp only [off_addO, tysz, lens, off, offE] <;> omega))) | (refine cond_t ?hc ?_; case hc => first | rfl | assumption | (rw [decide_eq_true_eq]; omega) | (rw [decide_eq_false_iff_not]; omega) | (simp <;> omega) | exact d1 | exact d2 | exact d3 | exact e1 | exact e2) | (refine cond_f ?hc ?_; case hc => first | rfl | assumption | (rw [decide_eq_true_eq]; omega) | (rw [decide_eq_false_iff_not]; omega) | (simp <;> omega) | exact d1 | exact d2 | exact d3 | exact e1 | exact e2) | refine same_i ?_)
        conv => whnf
        refine final_h (hp' := []) [] rfl ?_
        repeat ((conv => whnf); first | (refine pre_i ?hc ?_; case hc => first | exact (show planOK _ _ _ = true from by kernel_rfl) | assumption | omega | (unfold fits; omega) | decide +kernel | (constructor <;> first | assumption | omega) | (simp only [off_addO, tysz, off, offE] <;> omega) | (simp only [lens, off_addO, off, offE] <;> omega) | (simp only [off_addO, tysz, lens, off, offE] <;> omega) | (constructor <;> first | assumption | (simp only [off_addO, tysz, lens, off, offE] <;> omega))) | (refine cond_t ?hc ?_; case hc => first | rfl | assumption | (rw [decide_eq_true_eq]; omega) | (rw [decide_eq_false_iff_not]; omega) | (simp <;> omega)) | (refine cond_f ?hc ?_; case hc => first | rfl | assumption | (rw [decide_eq_true_eq]; omega) | (rw [decide_eq_false_iff_not]; omega) | (simp <;> omega)) | refine same_i ?_)
        exact trivial
    · have d2 : decide (x.length = 32 ∧ y.length = 32) = false := decide_eq_false (fun h => hy h.2)
      generalize e2 : decide (sharedV x nineB = 0) = c2
      cases c2
      all_goals
        repeat ((conv => whnf); first | (refine pre_i ?hc ?_; case hc => first | exact (show planOK _ _ _ = true from by kernel_rfl) | assumption | omega | (unfold fits; omega) | decide +kernel | (constructor <;> first | assumption | omega) | (simp only [off_addO, tysz, off, offE] <;> omega) | (simp only [lens, off_addO, off, offE] <;> omega) | (simp only [off_addO, tysz, lens, off, offE] <;> omega) | (constructor <;> first | assumption | (simp only [off_addO, tysz, lens, off, offE] <;> omega))) | (refine cond_t ?hc ?_; case hc => first | rfl | assumption | (rw [decide_eq_true_eq]; omega) | (rw [decide_eq_false_iff_not]; omega) | (simp <;> omega) | exact d1 | exact d2 | exact d3 | exact e2) | (refine cond_f ?hc ?_; case hc => first | rfl | assumption | (rw [decide_eq_true_eq]; omega) | (rw [decide_eq_false_iff_not]; omega) | (simp <;> omega) | exact d1 | exact d2 | exact d3 | exact e2) | refine same_i ?_)
        conv => whnf
        refine final_h (hp' := []) [] rfl ?_
        repeat ((conv => whnf); first | (refine pre_i ?hc ?_; case hc => first | exact (show planOK _ _ _ = true from by kernel_rfl) | assumption | omega | (unfold fits; omega) | decide +kernel | (constructor <;> first | assumption | omega) | (simp only [off_addO, tysz, off, offE] <;> omega) | (simp only [lens, off_addO, off, offE] <;> omega) | (simp only [off_addO, tysz, lens, off, offE] <;> omega) | (constructor <;> first | assumption | (simp only [off_addO, tysz, lens, off, offE] <;> omega))) | (refine cond_t ?hc ?_; case hc => first | rfl | assumption | (rw [decide_eq_true_eq]; omega) | (rw [decide_eq_false_iff_not]; omega) | (simp <;> omega)) | (refine cond_f ?hc ?_; case hc => first | rfl | assumption | (rw [decide_eq_true_eq]; omega) | (rw [decide_eq_false_iff_not]; omega) | (simp <;> omega)) | refine same_i ?_)
        exact trivial
  · have d1 : decide (x.length = 32) = false := decide_eq_false hx
    have d2 : decide (x.length = 32 ∧ y.length = 32) = false := decide_eq_false (fun h => hx h.1)
    have d3 : decide (x.length = 32 ∧ nineB.length = 32) = false := decide_eq_false (fun h => hx h.1)
    repeat ((conv => whnf); first | (refine pre_i ?hc ?_; case hc => first | exact (show planOK _ _ _ = true from by kernel_rfl) | assumption | omega | (unfold fits; omega) | decide +kernel | (constructor <;> first | assumption | omega) | (simp only [off_addO, tysz, off, offE] <;> omega) | (simp only [lens, off_addO, off, offE] <;> omega) | (simp only [off_addO, tysz, lens, off, offE] <;> omega) | (constructor <;> first | assumption | (simp only [off_addO, tysz, lens, off, offE] <;> omega))) | (refine cond_t ?hc ?_; case hc => first | rfl | assumption | (rw [decide_eq_true_eq]; omega) | (rw [decide_eq_false_iff_not]; omega) | (simp <;> omega) | exact d1 | exact d2 | exact d3) | (refine cond_f ?hc ?_; case hc => first | rfl | assumption | (rw [decide_eq_true_eq]; omega) | (rw [decide_eq_false_iff_not]; omega) | (simp <;> omega) | exact d1 | exact d2 | exact d3) | refine same_i ?_)
    conv => whnf
    refine final_h (hp' := []) [] rfl ?_
    repeat ((conv => whnf); first | (refine pre_i ?hc ?_; case hc => first | exact (show planOK _ _ _ = true from by kernel_rfl) | assumption | omega | (unfold fits; omega) | decide +kernel | (constructor <;> first | assumption | omega) | (simp only [off_addO, tysz, off, offE] <;> omega) | (simp only [lens, off_addO, off, offE] <;> omega) | (simp only [off_addO, tysz, lens, off, offE] <;> omega) | (constructor <;> first | assumption | (simp only [off_addO, tysz, lens, off, offE] <;> omega))) | (refine cond_t ?hc ?_; case hc => first | rfl | assumption | (rw [decide_eq_true_eq]; omega) | (rw [decide_eq_false_iff_not]; omega) | (simp <;> omega)) | (refine cond_f ?hc ?_; case hc => first | rfl | assumption | (rw [decide_eq_true_eq]; omega) | (rw [decide_eq_false_iff_not]; omega) | (simp <;> omega)) | refine same_i ?_)
    exact trivial
theorem xcurves_end (w : World) (x : List UInt8) (_ : x.length ≤ 140737488351232) (y : List UInt8) (_ : y.length ≤ 140737488351232) :
    fnVC (lawG f10.ntmps tys lawFnX w []) pl10 (codeOf f10) f10.results.toList [.str x, .str y] [] (fun r _ => r = .bool true) := xcurves_vc w x y
end Go.Sym.N
