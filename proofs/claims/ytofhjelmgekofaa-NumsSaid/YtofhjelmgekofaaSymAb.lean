/-
  The symbolic engine, part 25: code does what the engine says. No program in sight; no condition beyond each lemma's own.
-/
import Derived.Test.YtofhjelmgekofaaSymAa
set_option linter.unusedSimpArgs false
set_option linter.unusedVariables false
namespace Go.Sym

section
variable {P : Program} {Γ : Ctx} {ops : Array Oper} {Q : Exit → Act → World → Prop} {ρ0 : Nat → Nat} {hp0 : List Blk} {w0 : World}
variable {a : Act} {w : World} {tm : List (Nat × SV)} {hp : List Blk} {ρ : Nat → Nat}

/-- an act and a world that are as a symbolic state says; hp0, w0: where the function began -/
def Rel (Γ : Ctx) (ρ0 : Nat → Nat) (hp0 : List Blk) (w0 : World) (st : St) (a : Act) (w : World) : Prop :=
  ∃ ρ, TmRel Γ.nt ρ st.hp.length st.tm a ∧ Step ρ0 hp0 w0 ρ st.hp w

theorem vcOp_e (hΓ : CtxOK P Γ) (hE : ∀ w', Ext (Foot ρ0 hp0) w0 w' → Γ.E w') {i : Nat} {o : Oper} (ho : ops[i]? = some o) (hw : Region.wanted o (yielded ops a.tmps) = true) (ht : TmRel Γ.nt ρ hp.length tm a) (S : Step ρ0 hp0 w0 ρ hp w) {K : St → Prop} (h : vcOp Γ o tm hp K)
    {Kc : Act → World → Prop} (hK : ∀ a' w' st, K st → Rel Γ ρ0 hp0 w0 st a' w' → Kc a' w') : wpOp P ops Q i Kc a w := by
  have hval : ∀ (v : SV) (ρ' : Nat → Nat) (hp1 : List Blk) (w' : World), v.ok (· < hp1.length) → Step ρ hp w ρ' hp1 w' → putK Γ.nt tm hp1 o.dst v K → Kc (a.put o.dst (v.den ρ')) w' := fun v ρ' hp1 w' hv T hk => by
    obtain ⟨hd, hk⟩ := putK_e' hk
    exact hK _ _ _ hk ⟨ρ', (ht.later T.same T.le).put hd hv, S.trans T⟩
  unfold vcOp at h
  split at h
  · obtain ⟨v, h1, hv, hr⟩ := pureK_e (P := P) hΓ ht o h
    exact wpOp_value ho hw (hr w) (hval v ρ hp w hv (Step.refl S.rel) h1)
  · obtain ⟨v, h1, hv, hr⟩ := readK_e (P := P) hΓ S.rel ht o h
    exact wpOp_value ho hw (hr (hE w S.ext)) (hval v ρ hp w hv (Step.refl S.rel) h1)
  · have h := lenK_e h
    obtain ⟨v, el, ps, h1, hv, hps, hr⟩ := makerK_e (P := P) hΓ ht o h
    have h1 := snocK_e h1
    refine wpOp_value ho hw (hr (bump ρ hp.length w.heap.size) w bump_self) (hval v _ _ _ (SV.ok_mono (fun x hx => by rw [hx]; simp) v hv) (Step.alloc (el0 := el) (fz := (0, 0)) S.rel hps rfl (.inl (Nat.le_refl _)) rfl rfl rfl) h1)
  · rcases anchorK_e (P := P) hΓ S.rel ht o h with ⟨v, ρ', hp1, w', hr, hv, T, hf⟩ | ⟨hp1, w', hr, T, hf⟩ | ⟨f, args, hr, hc⟩
    · exact wpOp_value ho hw hr (hval v ρ' hp1 w' hv T hf)
    · unfold wpOp
      simp only [ho, hw, if_true, Oper.wp, hr, Oper.upon]
      refine .inl ?_
      cases hd : o.dst with
      | none => rw [hd] at hf; exact hK _ _ _ hf ⟨ρ, ht.later T.same T.le, S.trans T⟩
      | some d => rw [hd] at hf; exact hf.elim
    · unfold wpOp
      simp only [ho, hw, if_true, Oper.wp, hr, Oper.upon]
      refine .inl (hc.mono fun e w' ⟨v, ρ', hp1, he, hv, T, hf⟩ => ?_)
      subst he
      exact hval v ρ' hp1 w' hv T hf

theorem vcRg_e (hΓ : CtxOK P Γ) (hE : ∀ w', Ext (Foot ρ0 hp0) w0 w' → Γ.E w') {K : St → Prop} (hK : ∀ a' w' st, K st → Rel Γ ρ0 hp0 w0 st a' w' → Q .normal a' w') :
    ∀ (os : List Oper) (n : Nat) {tm : List (Nat × SV)} {hp : List Blk} {ρ : Nat → Nat} {a : Act} {w : World}, (∀ k, os[k]? = ops[n + k]?) → TmRel Γ.nt ρ hp.length tm a → Step ρ0 hp0 w0 ρ hp w → vcRg Γ ops.toList os tm hp K →
      wpOps P ops Q (List.range' n os.length) a w
  | [], n, tm, hp, ρ, a, w, _, ht, S, h => hK a w _ h ⟨ρ, ht, S⟩
  | o :: os, n, tm, hp, ρ, a, w, hos, ht, S, h => by
    have ho : ops[n]? = some o := by simpa using (hos 0).symm
    have hos' : ∀ k, os[k]? = ops[n + 1 + k]? := fun k => by
      have := hos (k + 1)
      rw [List.getElem?_cons_succ] at this
      rw [this]; congr 1; omega
    rw [List.length_cons, List.range'_succ, wpOps_cons]
    rw [vcRg_cons] at h
    rcases guardK_e (Γ := Γ) (n := hp.length) h with ⟨hw, h⟩ | ⟨hw, h⟩
    · refine vcOp_e (ρ0 := ρ0) (hp0 := hp0) (w0 := w0) hΓ hE ho (hw ρ a ht) ht S h fun a' w' st hst hrel => ?_
      obtain ⟨ρ', ht', S'⟩ := hrel
      exact vcRg_e hΓ hE hK os (n + 1) hos' ht' S' hst
    · obtain ⟨hd, h⟩ := putK_e' h
      unfold wpOp
      simp only [ho, hw ρ a ht, Bool.false_eq_true, if_false]
      exact vcRg_e hΓ hE hK os (n + 1) hos' (ht.put hd (v := .tup []) (by simp [SV.ok, okL])) S h

/-! ### renumbering -/
theorem SV.ok_unren {p : Nat → Prop} (g : Nat → Nat) : ∀ v : SV, (v.ren g).ok p → v.ok (fun k => p (g k)) := by
  intro v
  refine SV.rec (motive_1 := fun v => (v.ren g).ok p → v.ok (fun k => p (g k))) (motive_2 := fun vs => okL p (renL g vs) → okL (fun k => p (g k)) vs)
    ?_ ?_ ?_ ?_ ?_ ?_ ?_ ?_ ?_ ?_ ?_ ?_ ?_ ?_ ?_ ?_ ?_ ?_ ?_ ?_ ?_ ?_ ?_ ?_ ?_ ?_ ?_ v
  case refine_26 => intro _; trivial
  case refine_27 => intro v vs ihv ihs h; exact ⟨ihv h.1, ihs h.2⟩
  all_goals first
    | (intros; rename_i h; first | exact h | trivial)
    | (intro ps ih h; exact ih h)
    | (intro a ps ih h; exact ih h)

theorem preB_e : ∀ {n : Nat} {gl : List Nat} {k : Nat}, preB n gl k = true → n ≤ gl.length ∧ ∀ i, i < n → gl[i]? = some (k + i)
  | 0, _, _, _ => ⟨Nat.zero_le _, fun i hi => by omega⟩
  | n + 1, [], _, h => by simp [preB] at h
  | n + 1, g :: gs, k, h => by
    simp only [preB] at h
    split at h
    · rename_i e
      obtain ⟨h1, h2⟩ := preB_e h
      refine ⟨by simp; omega, fun i hi => ?_⟩
      cases i with
      | zero => simp [Nat.eq_of_beq_eq_true e]
      | succ i => rw [List.getElem?_cons_succ, h2 i (by omega)]; congr 1; omega
    · cases h
theorem eqLen_e : ∀ {gl : List Nat} {hp : List Blk}, eqLen gl hp = true → gl.length = hp.length
  | [], [], _ => rfl
  | _ :: gs, _ :: bs, h => by simp [eqLen_e (gl := gs) (hp := bs) h]
  | [], _ :: _, h => by simp [eqLen] at h
  | _ :: _, [], h => by simp [eqLen] at h

theorem entHp_e {gl : List Nat} {n : Nat} {hp : List Blk} : ∀ {gs : List Nat} {bs : List Blk} {p : Prop}, gs.length = bs.length → entHp gl n hp gs bs p →
    p ∧ ∀ (k : Nat) el ps, bs[k]? = some (Blk.mk el ps) → allL (fun k => Nat.blt k n) ps = true ∧ ∃ g el', gs[k]? = some g ∧ hp[g]? = some (.mk el' (renL (fwd gl 0) ps))
  | [], [], p, _, h => ⟨h, by simp⟩
  | g :: gs, b :: bs, p, hl, h => by
    simp only [entHp] at h
    simp at hl
    split at h
    · obtain ⟨h1, h2⟩ := entHp_e hl h
      refine ⟨h1, fun k el ps hk => ?_⟩
      cases k with
      | zero => simp at hk
      | succ k => simpa using h2 k el ps (by simpa using hk)
    · rename_i el qs
      split at h
      · rename_i hall
        obtain ⟨b', hb', h⟩ := nthK_e h
        split at h
        · rename_i el' rs
          obtain ⟨he, h⟩ := same_e h
          obtain ⟨h1, h2⟩ := entHp_e hl h
          refine ⟨h1, fun k el ps hk => ?_⟩
          cases k with
          | zero =>
            simp at hk
            obtain ⟨rfl, rfl⟩ := hk
            simp only [SV.ren] at he
            cases he
            exact ⟨hall, g, el', by simp, hb'⟩
          | succ k => simpa using h2 k el ps (by simpa using hk)
        · exact h.elim
      · exact h.elim
theorem entTm_e {gl : List Nat} {n : Nat} {tm : List (Nat × SV)} : ∀ {r : List (Nat × SV)} {p : Prop}, entTm gl n tm r p →
    p ∧ ∀ t v, look r t = some v → v.all (fun k => Nat.blt k n) = true ∧ look tm t = some (v.ren (fwd gl 0))
  | [], p, h => ⟨h, fun t v hv => by cases hv⟩
  | (t, v) :: r, p, h => by
    simp only [entTm] at h
    split at h
    · rename_i hall
      obtain ⟨u, hu, h⟩ := lookK_e h
      obtain ⟨hs, hn⟩ := same_e h
      subst hs
      obtain ⟨h1, h2⟩ := entTm_e (tm := tm) (gl := gl) (n := n) hn
      refine ⟨h1, fun t' v' hv' => ?_⟩
      simp only [look] at hv'
      split at hv'
      · rename_i e; subst e; cases hv'; exact ⟨hall, hu⟩
      · exact h2 t' v' hv'
    · exact h.elim

theorem entK_e {gl : List Nat} {tm' : List (Nat × SV)} {hp' : List Blk} {p : Prop} (h : entK hp0.length gl tm hp tm' hp' p) (ht : TmRel Γ.nt ρ hp.length tm a) (S : Step ρ0 hp0 w0 ρ hp w) :
    p ∧ TmRel Γ.nt (fun k => ρ (fwd gl 0 k)) hp'.length tm' a ∧ Step ρ0 hp0 w0 (fun k => ρ (fwd gl 0 k)) hp' w ∧
      ∀ t v, look tm' t = some v → v.ok (· < hp'.length) ∧ look tm t = some (v.ren (fwd gl 0)) := by
  unfold entK at h
  split at h
  · rename_i h1 h2 h3
    have hlen := eqLen_e h1
    have h := lenK_e h
    obtain ⟨h, hb⟩ := entHp_e hlen h
    obtain ⟨hp_, htm⟩ := entTm_e h
    obtain ⟨hle, hpre⟩ := preB_e h3
    have hblk : ∀ (k : Nat) el ps, hp'[k]? = some (Blk.mk el ps) → ∃ el', hp[fwd gl 0 k]? = some (Blk.mk el' (renL (fwd gl 0) ps)) ∧ gl[k]? = some (fwd gl 0 k) ∧ okL (· < hp'.length) ps := fun k el ps hk => by
      obtain ⟨hall, g, el', hg, hh⟩ := hb k el ps hk
      have hf : fwd gl 0 k = g := fwd_get hg
      refine ⟨el', by rw [hf]; exact hh, by rw [hf]; exact hg, ?_⟩
      have hok := (S.rel.mem g el' _ hh).1
      have := SV.ok_all (SV.agg ps) (SV.ok_unren (fwd gl 0) (.agg ps) hok) hall
      rw [hlen] at this
      exact okL_mono (fun x hx => Nat.le_of_ble_eq_true hx) _ this
    have hv : ∀ t v, look tm' t = some v → v.ok (· < hp'.length) ∧ look tm t = some (v.ren (fwd gl 0)) := fun t v hv => by
      obtain ⟨hall, hl⟩ := htm t v hv
      have := SV.ok_all v (SV.ok_unren (fwd gl 0) v (ht.val t _ hl).1) hall
      rw [hlen] at this
      exact ⟨SV.ok_mono (fun x hx => Nat.le_of_ble_eq_true hx) v this, hl⟩
    refine ⟨hp_, ⟨ht.size, ht.defers, fun t v hv' => ?_⟩, ⟨⟨fun k el ps hk => ?_, fun k k' el ps el' ps' hk hk' he => ?_⟩, fun k hk => ?_, by rw [← hlen]; exact hle, S.ext, ?_⟩, hv⟩
    · obtain ⟨h5, h6⟩ := hv t v hv'
      refine ⟨h5, ?_⟩
      rw [(ht.val t _ h6).2, SV.den_ren]
    · obtain ⟨el', hh, _, hok⟩ := hblk k el ps hk
      obtain ⟨_, el2, fz, g1, g2⟩ := S.rel.mem _ _ _ hh
      rw [cellsL_ren] at g1 g2
      exact ⟨hok, el2, fz, g1, g2⟩
    · obtain ⟨e1, f1, g1, _⟩ := hblk k el ps hk
      obtain ⟨e2, f2, g2, _⟩ := hblk k' el' ps' hk'
      have := S.rel.inj _ _ _ _ _ _ f1 f2 he
      rw [this] at g1
      exact nodup_inj h2 g1 g2
    · have := hpre k hk
      rw [Nat.zero_add] at this
      show ρ (fwd gl 0 k) = ρ0 k
      rw [fwd_get this]; exact S.same k hk
    · rintro b ⟨k, el, ps, hk, rfl⟩
      obtain ⟨e1, f1, _⟩ := hblk k el ps hk
      exact S.foot _ ⟨_, _, _, f1, rfl⟩
  · exact h.elim

/-! ### code -/
theorem least {p : Nat → Prop} (h : ∃ n, p n) : ∃ n, p n ∧ ∀ m, p m → n ≤ m := by
  obtain ⟨n, hn⟩ := h
  induction n using Nat.strongRecOn with
  | _ n ih =>
    by_cases hl : ∃ m, m < n ∧ p m
    · obtain ⟨m, hm, hp⟩ := hl; exact ih m hm hp
    · exact ⟨n, hn, fun m hp => Nat.le_of_not_lt fun hlt => hl ⟨m, hlt, hp⟩⟩
theorem vc_e (hΓ : CtxOK P Γ) (hE : ∀ w', Ext (Foot ρ0 hp0) w0 w' → Γ.E w') (hm : P.follows .mixedOrders = true) {D : List (Nat × List PStep)} : ∀ (c : Code) {tm : List (Nat × SV)} {hp : List Blk} {ρ : Nat → Nat} {a : Act} {w : World} {N : St → Prop} {X : Nat → St → Prop} {R : St → Prop} {Q : Exit → Act → World → Prop},
    vc Γ D hp0.length c tm hp N X R → TmRel Γ.nt ρ hp.length tm a → Step ρ0 hp0 w0 ρ hp w →
    (∀ st a w, N st → Rel Γ ρ0 hp0 w0 st a w → Q .normal a w) → (∀ id st a w, X id st → Rel Γ ρ0 hp0 w0 st a w → Q (.exit id) a w) → (∀ st a w, R st → Rel Γ ρ0 hp0 w0 st a w → Q .ret a w) → c.wp P Q a w
  | .skip, _, _, ρ, _, _, _, _, _, _, h, ht, S, hN, _, _ => wp_skip (hN _ _ _ h ⟨ρ, ht, S⟩)
  | .label _, _, _, ρ, _, _, _, _, _, _, h, ht, S, hN, _, _ => wp_label (hN _ _ _ h ⟨ρ, ht, S⟩)
  | .exit id, _, _, ρ, _, _, _, _, _, _, h, ht, S, _, hX, _ => wp_exit (hX id _ _ _ h ⟨ρ, ht, S⟩)
  | .ret, _, _, ρ, _, _, _, _, _, _, h, ht, S, _, _, hR => wp_ret (hR _ _ _ h ⟨ρ, ht, S⟩)
  | .region id ops dr, tm, hp, ρ, a, w, N, X, R, Q, h, ht, S, hN, _, _ => by
    cases dr with
    | false =>
      refine wp_region ?_
      have h : vcRg Γ ops.toList ops.toList tm hp N := h
      have := vcRg_e (Q := Q) hΓ hE (fun a' w' st => hN st a' w') ops.toList 0 (fun k => by simp) ht S h
      rw [List.range_eq_range']
      simpa using this
    | true =>
      have h : lookK D id fun steps => Pre (planOK ops Γ steps = true) (vcDr Γ ops.toList steps [] tm hp N) := h
      obtain ⟨steps, _, h⟩ := lookK_e h
      obtain ⟨hok, h⟩ := pre_e h
      exact draw_e hΓ hm hok (fun w' hx => hE w' (S.ext.trans hx S.foot)) ht S.rel h fun a' w' ρ' tm' hp' hk ht' T => hN _ _ _ hk ⟨ρ', ht', S.trans T⟩
  | .seq x y, tm, hp, ρ, a, w, N, X, R, Q, h, ht, S, hN, hX, hR => by
    refine wp_seq (vc_e hΓ hE hm x (N := fun st => match st with | ⟨tm', hp'⟩ => vc Γ D hp0.length y tm' hp' N X R) h ht S (fun st a w hst hrel => ?_) (fun id st a w hst hrel => hX id st a w hst hrel) (fun st a w hst hrel => hR st a w hst hrel))
    obtain ⟨ρ', ht', S'⟩ := hrel
    exact vc_e hΓ hE hm y hst ht' S' hN hX hR
  | .cond c x y, tm, hp, ρ, a, w, N, X, R, Q, h, ht, S, hN, hX, hR => by
    rw [vc_cond] at h
    obtain ⟨v, hok, hv, h⟩ := evK_e ht h
    clear hok
    split at h
    · rename_i t
      obtain ⟨h1, h2⟩ := cond_e h
      exact wp_cond_split (t := t) (by rw [hv]; rfl) (fun e => vc_e hΓ hE hm x (h1 e) ht S hN hX hR) (fun e => vc_e hΓ hE hm y (h2 e) ht S hN hX hR)
    · exact h.elim
  | .block id c, tm, hp, ρ, a, w, N, X, R, Q, h, ht, S, hN, hX, hR => by
    refine wp_block (vc_e hΓ hE hm c h ht S (fun st a w hst hrel => hN st a w hst hrel) (fun i st a w hst hrel => ?_) (fun st a w hst hrel => hR st a w hst hrel))
    split at hst
    · rename_i e
      have : i = id := Nat.eq_of_beq_eq_true e
      simp only [Exit.inBlock, this, if_true]
      exact hN st a w hst hrel
    · rename_i e
      have : i ≠ id := Nat.ne_of_beq_eq_false e
      simp only [Exit.inBlock, this, if_false]
      exact hX i st a w hst hrel
  | .loop c, tm, hp, ρ, a, w, N, X, R, Q, h, ht, S, hN, hX, hR => by
    rw [vc_loop] at h
    obtain ⟨ι, I, μ, ⟨i, gl, h0⟩, hr⟩ := loop_e h
    obtain ⟨_, ht0, S0, _⟩ := entK_e h0 ht S
    classical
    have hex : ∀ a w, (∃ i, Rel Γ ρ0 hp0 w0 (I i) a w) → ∃ n i, Rel Γ ρ0 hp0 w0 (I i) a w ∧ μ i = n := fun a w ⟨i, hi⟩ => ⟨μ i, i, hi, rfl⟩
    let M : Act → World → Nat := fun a w => if h : ∃ n i, Rel Γ ρ0 hp0 w0 (I i) a w ∧ μ i = n then Classical.choose (least h) else 0
    refine wp_loop (fun a w => ∃ i, Rel Γ ρ0 hp0 w0 (I i) a w) M ⟨i, _, ht0, S0⟩ fun a w hI => ?_
    have hne := hex a w hI
    have hM : M a w = Classical.choose (least hne) := by simp only [M]; rw [dif_pos hne]
    obtain ⟨i, ⟨ρ1, ht1, S1⟩, hi⟩ := (Classical.choose_spec (least hne)).1
    refine vc_e hΓ hE hm c (hr i) ht1 S1 (fun st a' w' hst hrel => ?_) (fun id st a w hst hrel => hX id st a w hst hrel) (fun st a w hst hrel => hR st a w hst hrel)
    obtain ⟨j, gl, hlt, hent⟩ := hst
    obtain ⟨ρ2, ht2, S2⟩ := hrel
    obtain ⟨_, ht3, S3, _⟩ := entK_e hent ht2 S2
    have hj : Rel Γ ρ0 hp0 w0 (I j) a' w' := ⟨_, ht3, S3⟩
    refine ⟨⟨j, hj⟩, ?_⟩
    have hne' := hex a' w' ⟨j, hj⟩
    have : M a' w' ≤ μ j := by
      simp only [M]; rw [dif_pos hne']
      exact (Classical.choose_spec (least hne')).2 _ ⟨j, hj, rfl⟩
    rw [hM, ← hi]
    omega
  | .rangeFunc .., _, _, _, _, _, _, _, _, _, h, _, _, _, _, _ => h.elim
  | .scope _, _, _, _, _, _, _, _, _, _, h, _, _, _, _, _ => h.elim
  | .goto _, _, _, _, _, _, _, _, _, _, h, _, _, _, _, _ => h.elim
end
end Go.Sym
