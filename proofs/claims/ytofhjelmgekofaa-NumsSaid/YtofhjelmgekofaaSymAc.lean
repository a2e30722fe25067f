/-
  The symbolic engine, part 26: functions. No program in sight; no condition beyond each lemma's own.
-/
import Derived.Test.YtofhjelmgekofaaSymAb
set_option linter.unusedSimpArgs false
set_option linter.unusedVariables false
namespace Go.Sym

section
variable {P : Program} {Γ : Ctx} {ρ0 : Nat → Nat} {hp0 : List Blk} {w0 : World}
variable {a : Act} {w : World} {tm : List (Nat × SV)} {hp : List Blk} {ρ : Nat → Nat}

/-- what a result variable holds -/
def resVal (a : Act) : ResultVar → Sem Value
  | .tmp t => pure (a.tmps.getD t undef)
  | .cell c t => do loadVar t (← asAddr (a.tmps.getD c undef))

theorem resK_e (hΓ : CtxOK P Γ) (hr : HpRel ρ hp w) (ht : TmRel Γ.nt ρ hp.length tm a) : ∀ {rs : List ResultVar} {k : List SV → Prop}, resK Γ tm hp rs k →
    ∃ vs, k vs ∧ okL (· < hp.length) vs ∧ (rs.mapM (resVal a)).run P w = .ok (denL ρ vs) w
  | [], k, h => ⟨[], h, trivial, by simp [denL, Sem.run_pure]⟩
  | .tmp t :: rs, k, h => by
    simp only [resK] at h
    obtain ⟨v, hv, h⟩ := lookK_e h
    obtain ⟨vs, h1, h2, h3⟩ := resK_e hΓ hr ht h
    obtain ⟨g1, g2⟩ := ht.val t v hv
    refine ⟨v :: vs, h1, ⟨g1, h2⟩, ?_⟩
    have : a.tmps.getD t undef = v.den ρ := by simp [g2]
    rw [List.mapM_cons]
    simp only [resVal, this, Sem.run_bind, Sem.run_pure, Result.andThen_ok, h3, denL]
  | .cell c t :: rs, k, h => by
    simp only [resK] at h
    obtain ⟨ti, hti, h⟩ := lookK_e h
    obtain ⟨v, hv, h⟩ := lookK_e h
    obtain ⟨g1, g2⟩ := ht.val c v hv
    split at h
    · rename_i q j b oo
      obtain ⟨el, ps, hk, h⟩ := partsK_e h
      obtain ⟨hok, _⟩ := hr.mem q el ps hk
      obtain ⟨u, h, hu, hl⟩ := loadK_e (ρ := ρ) hok h
      obtain ⟨vs, h1, h2, h3⟩ := resK_e hΓ hr ht h
      refine ⟨u :: vs, h1, ⟨hu, h2⟩, ?_⟩
      have : a.tmps.getD c undef = .pointer (some ⟨ρ q, b + off oo, none⟩) := by simp [g2, SV.den]
      rw [List.mapM_cons]
      have hload := run_loadVar' (P := P) (hΓ.ty t ti hti) (fun i => hr.cell hk i) hl
      simp only [resVal, this, Sem.run_bind, asAddr, Sem.run_pure, Result.andThen_ok, hload, h3, denL]
    · exact h.elim

theorem oneK_e {vs : List SV} {k : SV → Prop} (h : oneK vs k) (hok : okL (· < hp.length) vs) : ∃ r, k r ∧ r.ok (· < hp.length) ∧ r.den ρ = (if h : (denL ρ vs).toArray.size = 1 then (denL ρ vs).toArray[0] else .tuple (denL ρ vs).toArray) := by
  unfold oneK at h
  split at h
  · rename_i v
    exact ⟨v, h, hok.1, by simp [denL]⟩
  · rename_i hne
    refine ⟨.tup vs, h, hok, ?_⟩
    have : ¬ (denL ρ vs).toArray.size = 1 := by
      rw [List.size_toArray, denL_length]
      intro h1
      match vs, h1 with
      | [v], _ => exact hne v rfl
    rw [dif_neg this]; rfl

theorem run_results {fn : Func} {vs : List SV} (h : (fn.results.toList.mapM (resVal a)).run P w = .ok (denL ρ vs) w) :
    (results fn a.tmps).run P w = .ok (if h : (denL ρ vs).toArray.size = 1 then (denL ρ vs).toArray[0] else .tuple (denL ρ vs).toArray) w := by
  have e2 : (fn.results.mapM (resVal a) : Sem (Array Value)) = List.toArray <$> fn.results.toList.mapM (resVal a) := by
    rw [Array.mapM_eq_mapM_toList]
  have e3 : (List.toArray <$> fn.results.toList.mapM (resVal a) : Sem (Array Value)).run P w = .ok (denL ρ vs).toArray w := by
    rw [← bind_pure_comp, Sem.run_bind, h]; rfl
  show Sem.run P (fn.results.mapM (resVal a) >>= fun vs => pure (if h : vs.size = 1 then vs[0] else .tuple vs)) w = _
  rw [Sem.run_bind, e2, e3]
  rfl

theorem entryK_e : ∀ {args : List SV} {i : Nat} {k : List (Nat × SV) → Prop}, entryK args i k → ∃ tm, k tm ∧ ∀ t v, look tm t = some v → i ≤ t ∧ args[t - i]? = some v
  | [], i, k, h => ⟨[], h, fun t v hv => by cases hv⟩
  | x :: xs, i, k, h => by
    simp only [entryK] at h
    obtain ⟨tm, h1, h2⟩ := entryK_e h
    refine ⟨(i, x) :: tm, h1, fun t v hv => ?_⟩
    simp only [look] at hv
    split at hv
    · rename_i e; subst e; cases hv; simp
    · obtain ⟨g1, g2⟩ := h2 t v hv
      refine ⟨by omega, ?_⟩
      have : t - i = (t - (i + 1)) + 1 := by omega
      rw [this, List.getElem?_cons_succ]; exact g2

/-- a call whose body the engine has been through -/
theorem call_fn (hΓ : CtxOK P Γ) (hm : P.follows .mixedOrders = true) {f : FuncId} {fn : Func} {c : Code} (hf : P.funcs[f]? = some fn) (hb : fn.body = some c)
    (hnt : fn.ntmps = Γ.nt) {D : List (Nat × List PStep)} {args : List SV} {hp : List Blk} {K : SV → List Blk → Prop} (hl : args.length ≤ Γ.nt)
    (hv : fnVC Γ D c fn.results.toList args hp K) {ρ : Nat → Nat} {w : World} (hE : ∀ w', Ext (Foot ρ hp) w w' → Γ.E w') (hr : HpRel ρ hp w) (hargs : okL (· < hp.length) args) :
    Calls P f (denL ρ args).toArray w fun e w' => ∃ r ρ' hp', e = .returned (r.den ρ') ∧ Post K ρ hp w r ρ' hp' w' := by
  refine calls_of_wp hf hb ?_
  unfold fnVC at hv
  obtain ⟨tm, hv, htm⟩ := entryK_e hv
  have hv := lenK_e hv
  have hsz : ((denL ρ args).toArray).size = args.length := by rw [List.size_toArray, denL_length]
  have ht : TmRel Γ.nt ρ hp.length tm { tmps := (denL ρ args).toArray ++ Array.replicate (fn.ntmps - (denL ρ args).toArray.size) undef, defers := [] } := by
    refine ⟨?_, rfl, fun t v hlk => ?_⟩
    · simp only [Array.size_append, Array.size_replicate, hsz, hnt]; omega
    · obtain ⟨_, h2⟩ := htm t v hlk
      rw [Nat.sub_zero] at h2
      refine ⟨okL_get hargs h2, ?_⟩
      have hden := denL_get (ρ := ρ) h2
      have hlt : t < (denL ρ args).toArray.size := by rw [hsz]; exact (List.getElem?_eq_some_iff.1 h2).1
      rw [Array.getElem?_append_left hlt]
      simpa using hden
  have fin : ∀ (st : St) (a : Act) (w' : World), (match st with | ⟨tm', hp'⟩ => resK Γ tm' hp' fn.results.toList fun vs => oneK vs fun r => FinalVC hp.length r hp' K) → Rel Γ ρ hp w st a w' →
      a.defers = [] ∧ ∃ v, (results fn a.tmps).run P w' = .ok v w' ∧ ∃ r ρ' hp', Ending.returned v = .returned (r.den ρ') ∧ Post K ρ hp w r ρ' hp' w' := by
    rintro ⟨tm', hp'⟩ a w' hst ⟨ρ1, ht1, S1⟩
    obtain ⟨vs, h1, h2, h3⟩ := resK_e hΓ S1.rel ht1 hst
    obtain ⟨r, h4, h5, h6⟩ := oneK_e (ρ := ρ1) h1 h2
    obtain ⟨gl, r', hp2, h7⟩ := final_e h4
    -- an act whose only slot is the result
    let b : Act := { tmps := #[r.den ρ1], defers := [] }
    have htb : TmRel 1 ρ1 hp'.length [(0, r)] b := ⟨rfl, rfl, fun t v hv => by
      simp only [look] at hv
      split at hv
      · rename_i e; subst e; cases hv; exact ⟨h5, rfl⟩
      · cases hv⟩
    obtain ⟨h8, htb', S2, h9⟩ := entK_e (Γ := { Γ with nt := 1 }) h7 htb S1
    obtain ⟨h10, h11⟩ := h9 0 r' rfl
    have hr' : r = r'.ren (fwd gl 0) := by
      simp only [look] at h11
      exact Option.some.inj h11
    refine ⟨ht1.defers, r.den ρ1, ?_, r', _, hp2, ?_, h8, h10, S2⟩
    · rw [run_results h3, h6]
    · rw [hr', SV.den_ren]
  refine vc_e hΓ hE hm c hv ht (Step.refl hr) (fun st a w' hst hrel => ?_) (fun id st a w' hst hrel => hst.elim) (fun st a w' hst hrel => ?_)
  · exact fin st a w' hst hrel
  · exact fin st a w' hst hrel

/-- a function whose body the engine has been through -/
theorem sound_fn (hΓ : CtxOK P Γ) (hE : ∀ w, Γ.E w) (hm : P.follows .mixedOrders = true) {f : FuncId} {fn : Func} {c : Code} (hf : P.funcs[f]? = some fn) (hb : fn.body = some c) (hcall : ∀ args w, (callFunc f args).run P w = .ok (.enter f args) w)
    (hnt : fn.ntmps = Γ.nt) {D : List (Nat × List PStep)} {S : Spec} (hlen : ∀ args hp K, S args hp K → args.length ≤ Γ.nt)
    (h : ∀ args hp K, S args hp K → fnVC Γ D c fn.results.toList args hp K) : SoundC P f S := by
  intro args hp K hS ρ w hr hargs
  exact .inr ⟨hcall _ _, call_fn hΓ hm hf hb hnt (hlen _ _ _ hS) (h _ _ _ hS) (fun w' _ => hE w') hr hargs⟩

/-! ### the end of a function -/
theorem nthK_imp {α : Type} {g g' : α → Prop} (hg : ∀ b, g b → g' b) : ∀ {l : List α} {i : Nat}, nthK l i g → nthK l i g'
  | [], _, h => h
  | _ :: _, 0, h => hg _ h
  | _ :: xs, i + 1, h => nthK_imp hg (l := xs) (i := i) h
theorem lookK_imp {α : Type} {g g' : α → Prop} (hg : ∀ b, g b → g' b) : ∀ {l : List (Nat × α)} {i : Nat}, lookK l i g → lookK l i g'
  | [], _, h => h
  | (j, v) :: xs, i, h => by
    simp only [lookK] at h ⊢
    split
    · rename_i e; rw [e] at h; exact hg _ h
    · rename_i e; rw [e] at h; exact lookK_imp hg h
theorem entHp_imp {gl : List Nat} {n : Nat} {hp : List Blk} {p q : Prop} (f : p → q) : ∀ {gs : List Nat} {bs : List Blk}, entHp gl n hp gs bs p → entHp gl n hp gs bs q
  | [], _, h => f h
  | _ :: _, [], h => f h
  | g :: gs, b :: bs, h => by
    cases b with
    | dead => exact entHp_imp f (gs := gs) (bs := bs) h
    | mk el ps =>
      simp only [entHp] at h ⊢
      split
      · rename_i e
        rw [e] at h
        refine nthK_imp (fun b' hb => ?_) h
        cases b' with
        | dead => exact hb
        | mk el' qs =>
          obtain ⟨h1, h2⟩ := same_e hb
          dsimp only
          rw [h1]
          exact same_i (entHp_imp f h2)
      · rename_i e; rw [e] at h; exact h
theorem entTm_imp {gl : List Nat} {n : Nat} {tm : List (Nat × SV)} {p q : Prop} (f : p → q) : ∀ {r : List (Nat × SV)}, entTm gl n tm r p → entTm gl n tm r q
  | [], h => f h
  | (t, v) :: r, h => by
    simp only [entTm] at h ⊢
    split
    · rename_i e
      rw [e] at h
      refine lookK_imp (fun u hu => ?_) h
      obtain ⟨h1, h2⟩ := same_e hu
      rw [h1]
      exact same_i (entTm_imp f h2)
    · rename_i e; rw [e] at h; exact h
theorem entK_imp {n0 : Nat} {gl : List Nat} {tm tm' : List (Nat × SV)} {hp hp' : List Blk} {p q : Prop} (h : entK n0 gl tm hp tm' hp' p) (f : p → q) : entK n0 gl tm hp tm' hp' q := by
  unfold entK at h ⊢
  split
  · rename_i e1 e2 e3
    rw [e1, e2, e3] at h
    dsimp only at h
    rw [lenK_eq] at h ⊢
    exact entHp_imp (entTm_imp f) h
  · rename_i hn
    split at h
    · rename_i e1 e2 e3; exact (hn e1 e2 e3).elim
    · exact h
/-- the result and the heap that are asked for -/
theorem final_h {n0 : Nat} {r r' : SV} {hp hp' : List Blk} {K : SV → List Blk → Prop} (gl : List Nat) (hk : K r' hp') (h : entK n0 gl [(0, r)] hp [(0, r')] hp' True) : FinalVC n0 r hp K :=
  final_i gl r' hp' (entK_imp h fun _ => hk)
theorem loop_h {n0 : Nat} {f : St → (St → Prop) → Prop} {st : St} (ι : Type) (I : ι → St) (μ : ι → Nat) (i : ι) (gl : List Nat) (h0 : entK n0 gl st.tm st.hp (I i).tm (I i).hp True)
    (h : ∀ i, f (I i) fun st' => ∃ j gl, μ j < μ i ∧ entK n0 gl st'.tm st'.hp (I j).tm (I j).hp True) : LoopVC n0 f st := loop_i ι I μ i gl h0 h

/-! ### a program's own facts -/
theorem info_of {t : TypeId} {i : TypeInfo} (h : ∀ w, (typeInfo t).run P w = .ok i w) : P.info? t = some i := by
  have h : Sem.run P (match P.info? t with | some i => (pure i : Sem TypeInfo) | none => stuck "no such type") default = .ok i default := h default
  cases e : P.info? t with
  | none => rw [e] at h; cases h
  | some j => rw [e] at h; simp only [Sem.run_pure] at h; cases h; rfl
end

/-! ### tables of contracts -/
theorem fnok_nil {P : Program} : ∀ f S, look ([] : List (Nat × Spec)) f = some S → SoundC P f S := fun f S h => by cases h
theorem fnok_cons {P : Program} {g : FuncId} {T : Spec} {l : List (Nat × Spec)} (h : SoundC P g T) (hl : ∀ f S, look l f = some S → SoundC P f S) :
    ∀ f S, look ((g, T) :: l) f = some S → SoundC P f S := by
  intro f S hf
  simp only [look] at hf
  split at hf
  · rename_i e; subst e; cases hf; exact h
  · exact hl f S hf
theorem tyok_nil {P : Program} : ∀ t i, look ([] : List (Nat × TyI)) t = some i → TyOK P t i := fun t i h => by cases h
theorem tyok_cons {P : Program} {g : TypeId} {T : TyI} {l : List (Nat × TyI)} (h : TyOK P g T) (hl : ∀ t i, look l t = some i → TyOK P t i) :
    ∀ t i, look ((g, T) :: l) t = some i → TyOK P t i := by
  intro f S hf
  simp only [look] at hf
  split at hf
  · rename_i e; subst e; cases hf; exact h
  · exact hl f S hf
/-- a context without rows that lie outside -/
def ctx (ty : List (Nat × TyI)) (nt : Nat) (fn : List (Nat × Spec)) : Ctx := { nt := nt, ty := ty, fn := fn }
theorem ctxOK {P : Program} {ty : List (Nat × TyI)} {nt : Nat} {fn : List (Nat × Spec)} (ht : ∀ t i, look ty t = some i → TyOK P t i) (hf : ∀ f S, look fn f = some S → SoundC P f S) : CtxOK P (ctx ty nt fn) :=
  ⟨ht, hf, fun _ _ _ h => h.elim⟩
/-- a function that reads nothing outside -/
theorem sound_f {P : Program} {ty : List (Nat × TyI)} {fs : List (Nat × Spec)} (ht : ∀ t i, look ty t = some i → TyOK P t i) (hfs : ∀ f S, look fs f = some S → SoundC P f S)
    (hm : P.follows .mixedOrders = true) {f : FuncId} {fn : Func} {c : Code} (hf : P.funcs[f]? = some fn) (hb : fn.body = some c) (hcall : ∀ args w, (callFunc f args).run P w = .ok (.enter f args) w)
    {D : List (Nat × List PStep)} {S : Spec} (hlen : ∀ args hp K, S args hp K → args.length ≤ fn.ntmps)
    (h : ∀ args hp K, S args hp K → fnVC (ctx ty fn.ntmps fs) D c fn.results.toList args hp K) : SoundC P f S :=
  sound_fn (Γ := ctx ty fn.ntmps fs) (ctxOK ht hfs) (fun _ => trivial) hm hf hb hcall rfl hlen h
end Go.Sym
