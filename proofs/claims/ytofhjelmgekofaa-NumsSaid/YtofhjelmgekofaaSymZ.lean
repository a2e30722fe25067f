/-
  The symbolic engine, part 23: a region whose order is drawn - all together. No program in sight; no condition beyond each lemma's own.
-/
import Derived.Test.YtofhjelmgekofaaSymY
set_option linter.unusedSimpArgs false
set_option linter.unusedVariables false
namespace Go.Sym

section
variable {P : Program} {Γ : Ctx} {ops : Array Oper} {Q : Exit → Act → World → Prop} {K : St → Prop} {ρ0 : Nat → Nat} {hp0 : List Blk} {w0 : World}
variable {listed : Array Bool} {a : Act} {w : World} {pre ss : List PStep} {s : PStep} {late : List Late} {tm : List (Nat × SV)} {hp : List Blk} {ρ : Nat → Nat} {tmR : List (Nat × SV)}

theorem chain_act : ∀ {xs : List Late} {tm tm' : List (Nat × SV)} {a : Act}, Chain P Γ ops hp tm xs tm' → TmRel Γ.nt ρ hp.length tm a → ∃ a', TmRel Γ.nt ρ hp.length tm' a'
  | [], _, _, a, h, ht => ⟨a, ht.same fun t => (h t).symm⟩
  | _ :: _, _, _, _, ⟨_, h2, h3, h4⟩, ht => chain_act h4 (ht.put h3 h2)
theorem TmRel.any {nt n : Nat} (h : TmRel nt ρ n tm a) (ρ' : Nat → Nat) : ∃ a', TmRel nt ρ' n tm a' := by
  refine ⟨{ a with tmps := (Array.range nt).map fun t => ((look tm t).map (SV.den ρ')).getD undef }, by simp, h.defers, fun t v hv => ⟨(h.val t v hv).1, ?_⟩⟩
  have ht : t < nt := by
    have := (Array.getElem?_eq_some_iff.1 (h.val t v hv).2).1
    rwa [h.size] at this
  simp [ht, hv]

/-- a world in which the blocks are as a heap says -/
def worldOf (w : World) (hp : List Blk) : World := { w with heap := (hp.map fun b => match b with
  | .mk el ps => Obj.cells (cellsL id ps).toArray el (0, 0)
  | .dead => Obj.cells #[] 0 (0, 0)).toArray }
theorem worldOf_rel (hok : ∀ (k : Nat) el ps, hp[k]? = some (Blk.mk el ps) → okL (· < hp.length) ps) : HpRel id hp (worldOf w hp) :=
  ⟨fun k el ps hk => ⟨hok k el ps hk, el, (0, 0), by simp [worldOf, hk], .inl (Nat.le_refl _)⟩, fun _ _ _ _ _ _ _ _ h => h⟩

theorem Inv.saturate (hΓ : CtxOK P Γ) : ∀ {ss : List PStep} {pre : List PStep} {late : List Late} {tm : List (Nat × SV)} {hp : List Blk}, Inv P Γ ops K ρ0 hp0 w0 listed a w pre ss late tm hp ρ tmR →
    ∃ pre' ss' late' tm' hp', pre'.reverse ++ ss' = pre.reverse ++ ss ∧ Inv P Γ ops K ρ0 hp0 w0 listed a w pre' ss' late' tm' hp' ρ tmR ∧ (ss' = [] ∨ ∃ s ss'' o T', ss' = s :: ss'' ∧ StepOK Γ ops pre' s ss'' o ∧ TabOK ops T' ∧ planB ops Γ (s :: pre') ss'' T' = true ∧
      kindOf Γ o.op = .anchor ∧ Wants Γ ops hp'.length o tm' ∧ AnchorVC Γ ops.toList s ss'' o late' tm' hp' K)
  | [], pre, late, tm, hp, I => ⟨pre, [], late, tm, hp, rfl, I, .inl rfl⟩
  | s :: ss, pre, late, tm, hp, I => by
    obtain ⟨T, hT, hpl⟩ := I.plan
    obtain ⟨o, T', S, hT', hpl'⟩ := planB_e hT hpl
    have hvc := I.vc
    rw [vcDr_cons] at hvc
    obtain ⟨o', ho', hvc⟩ := nthK_e hvc
    have : o' = o := by
      have := S.get
      rw [← Array.getElem?_toList, ho'] at this
      exact Option.some.inj this
    subst this
    obtain ⟨htm, hxs⟩ := chain_ok I.chain I.tmr.okay
    obtain ⟨a1, ha1⟩ := chain_act I.chain I.tmr
    have again : ∀ {late' : List Late} {tm' : List (Nat × SV)} {hp' : List Blk}, Inv P Γ ops K ρ0 hp0 w0 listed a w (s :: pre) ss late' tm' hp' ρ tmR →
        ∃ pre' ss' late' tm' hp', pre'.reverse ++ ss' = pre.reverse ++ (s :: ss) ∧ Inv P Γ ops K ρ0 hp0 w0 listed a w pre' ss' late' tm' hp' ρ tmR ∧ (ss' = [] ∨ ∃ s ss'' o T', ss' = s :: ss'' ∧ StepOK Γ ops pre' s ss'' o ∧ TabOK ops T' ∧ planB ops Γ (s :: pre') ss'' T' = true ∧
          kindOf Γ o.op = .anchor ∧ Wants Γ ops hp'.length o tm' ∧ AnchorVC Γ ops.toList s ss'' o late' tm' hp' K) := fun J => by
      obtain ⟨p, q, l, t, h, e, r⟩ := J.saturate hΓ
      exact ⟨p, q, l, t, h, by rw [e]; simp, r⟩
    rcases guardK_e (Γ := Γ) (n := hp.length) hvc with ⟨hw, hy⟩ | ⟨hw, hn⟩
    · cases hk : kindOf Γ o'.op with
      | anchor =>
        rw [hk] at hy
        exact ⟨pre, s :: ss, late, tm, hp, rfl, I, .inr ⟨s, ss, o', T', rfl, S, hT', hpl', hk, hw, hy⟩⟩
      | pure =>
        rw [hk] at hy
        dsimp only at hy
        obtain ⟨v, h1, h2⟩ := pureK_r o'.op tm _ hy
        have h3 := looseB_e h1
        obtain ⟨u, hu, hv, _⟩ := pureK_e (P := P) hΓ ha1 o' (h2 (fun u => u = v) rfl)
        subst hu
        obtain ⟨hvM, h4⟩ := freeV_e hv h3
        obtain ⟨hd, h5⟩ := putK_e' h4
        refine again (I.absorb S hT' hpl' (v := u) (k := .pure) (fun b h => by cases h) (fun M h => by cases h) (fun ρ a ht => .inl ⟨hw ρ a ht, ?_⟩) hv hvM hd h5)
        obtain ⟨x, hx, _, hr⟩ := pureK_e (P := P) hΓ ht o' (h2 (fun x => x = u) rfl)
        subst hx
        exact hr
      | read =>
        rw [hk] at hy
        dsimp only at hy
        have h0 := deadK_e (looseB_e hy)
        obtain ⟨v, h1, h2⟩ := readK_r o'.op tm (mask (looseL s.loose late) hp) _ h0
        have hokm : ∀ (k : Nat) el ps, (mask (looseL s.loose late) hp)[k]? = some (Blk.mk el ps) → okL (· < (mask (looseL s.loose late) hp).length) ps := fun k el ps hk => by
          rw [mask_length]; exact I.hpok k el ps (mask_get.1 hk).2
        obtain ⟨a2, ha2⟩ := ha1.any id
        obtain ⟨u, hu, hv, _⟩ := readK_e (P := P) hΓ (worldOf_rel (w := w) hokm) (by rw [mask_length]; exact ha2) o' (h2 (fun u => u = v) rfl)
        subst hu
        rw [mask_length] at hv
        obtain ⟨hvM, h4⟩ := freeV_e hv h1
        obtain ⟨hd, h5⟩ := putK_e' h4
        refine again (I.absorb S hT' hpl' (v := u) (k := .read (looseL s.loose late)) (fun b h => by cases h) (fun M h => by cases h; exact ⟨hk, rfl⟩) ⟨hw, fun ρ a w ht hwr hE => ?_⟩ hv hvM hd h5)
        obtain ⟨x, hx, _, hr⟩ := readK_e (P := P) hΓ hwr (by rw [mask_length]; exact ht) o' (h2 (fun x => x = u) rfl)
        subst hx
        exact hr hE
      | maker =>
        rw [hk] at hy
        dsimp only at hy
        have h0 := lenK_e (looseB_e hy)
        obtain ⟨⟨v, b⟩, h1, h2⟩ := makerK_r o'.op tm hp.length (fun p : SV × Blk => match p.2 with
          | .mk el ps => freeV (looseL s.loose late) (.agg ps) (snocK hp (.mk el ps) fun hp1 => putK Γ.nt tm hp1 o'.dst p.1 fun st => match st with | ⟨tm', hp'⟩ => vcDr Γ ops.toList ss (⟨s.i, o', p.1, .maker hp.length⟩ :: addM hp.length late) tm' hp' K)
          | .dead => False) h0
        cases b with
        | dead => exact h1.elim
        | mk el ps =>
          dsimp only at h1
          have key : ∀ (ρ : Nat → Nat) a, TmRel Γ.nt ρ hp.length tm a → v.ok (· = hp.length) ∧ okL (· < hp.length) ps ∧ ∀ (ρ1 : Nat → Nat) w, ρ1 hp.length = w.heap.size → (execOp a.eval o').run P w = .ok (.value (v.den ρ1)) (w.alloc (.cells (cellsL ρ ps).toArray el)) := fun ρ a ht => by
            obtain ⟨u, el', qs, hu, hv, hq, hr⟩ := makerK_e (P := P) hΓ ht o' (h2 (fun p => p = (v, .mk el ps)) rfl)
            cases hu
            exact ⟨hv, hq, hr⟩
          obtain ⟨hv, hq, _⟩ := key ρ a1 ha1
          obtain ⟨hvM, h4⟩ := freeV_e (v := .agg ps) hq h1
          have h5 := snocK_e h4
          obtain ⟨hd, h6⟩ := putK_e' h5
          exact again (I.absorbM S hT' hpl' hw hv hq (fun ρ a ht => (key ρ a ht).2.2) hvM hd h6)
    · obtain ⟨hd, h5⟩ := putK_e' hn
      exact again (I.absorb S hT' hpl' (v := .tup []) (k := .pure) (fun b h => by cases h) (fun M h => by cases h) (fun ρ a ht => .inr ⟨hw ρ a ht, rfl⟩) (by simp [SV.ok, okL]) (by simp [SV.ok, okL]) hd h5)

def unl (listed : Array Bool) (n : Nat) : Nat := (List.range n).countP fun i => !listed.getD i false
theorem countP_lt {p q : Nat → Bool} : ∀ {l : List Nat} {i : Nat}, (∀ x, q x = true → p x = true) → i ∈ l → p i = true → q i = false → l.countP q < l.countP p
  | x :: xs, i, h, hi, hp, hq => by
    have hle : xs.countP q ≤ xs.countP p := List.countP_mono_left fun x _ hx => h x hx
    rw [List.countP_cons, List.countP_cons]
    rcases List.mem_cons.1 hi with rfl | hi
    · rw [hp, hq]; simp; omega
    · have := countP_lt h hi hp hq
      cases hqx : q x with
      | true => rw [h x hqx]; simp; omega
      | false => cases p x <;> simp <;> omega
theorem unl_set {i : Nat} (hi : i < ops.size) (hs : listed.size = ops.size) (hu : listed.getD i false = false) : unl (listed.setIfInBounds i true) ops.size < unl listed ops.size := by
  refine countP_lt (i := i) (fun x hx => ?_) (List.mem_range.2 hi) (by rw [hu]; rfl) ?_
  · cases h : listed.getD x false with
    | false => rfl
    | true =>
      rw [(getD_set (by rw [hs]; exact hi)).2 (.inr h)] at hx; cases hx
  · rw [(getD_set (by rw [hs]; exact hi)).2 (.inl rfl)]; rfl

theorem getD_tf (hs : listed.size = ops.size) {i : Nat} (hi : i < ops.size) : listed.getD i true = listed.getD i false := by
  have : i < listed.size := by rw [hs]; exact hi
  simp [this]

theorem Inv.any (hΓ : CtxOK P Γ) (hE : ∀ w', Ext (Foot ρ0 hp0) w0 w' → Γ.E w') (order : List PStep) (hall : ∀ i < ops.size, ∃ p ∈ order, p.i = i) (hord : ∀ (l r : List PStep) p, order = l ++ p :: r → ∃ o, ops[p.i]? = some o ∧ ∀ e ∈ edgesOn o, ∃ x ∈ l, x.i = e)
    (hQ : ∀ a' w' ρ' tm' hp', K ⟨tm', hp'⟩ → TmRel Γ.nt ρ' hp'.length tm' a' → Step ρ0 hp0 w0 ρ' hp' w' → Q .normal a' w') :
    ∀ (fuel : Nat) {listed : Array Bool} {a : Act} {w : World} {pre ss : List PStep} {late : List Late} {tm : List (Nat × SV)} {hp : List Blk} {ρ : Nat → Nat} {tmR : List (Nat × SV)},
      Inv P Γ ops K ρ0 hp0 w0 listed a w pre ss late tm hp ρ tmR → order = pre.reverse ++ ss → unl listed ops.size ≤ fuel → wpAny P .any ops Q fuel listed a w := by
  -- an order: what is not listed, has something ready
  have some_ready : ∀ {listed : Array Bool}, listed.size = ops.size → Region.ready .any ops listed = [] → ∀ i < ops.size, listed.getD i false = true := by
    intro listed hs hr
    have key : ∀ (n : Nat) (l r : List PStep) (p : PStep), order = l ++ p :: r → l.length < n → listed.getD p.i false = true := by
      intro n
      induction n with
      | zero => intro l r p _ h; omega
      | succ n ih =>
        intro l r p he hn
        obtain ⟨o, ho, hedge⟩ := hord l r p he
        have hpl : p.i < ops.size := (Array.getElem?_eq_some_iff.1 ho).1
        cases h : listed.getD p.i false with
        | true => rfl
        | false =>
          have : p.i ∈ Region.ready .any ops listed := mem_ready.2 ⟨by rw [getD_tf hs hpl, h], o, ho, fun e he2 hb => by
            obtain ⟨x, hx, hxe⟩ := hedge e.on (edgesOn_mem.2 ⟨e, he2, hb, rfl⟩)
            obtain ⟨l1, l2, rfl⟩ := List.append_of_mem hx
            rw [← hxe]
            refine ih l1 (l2 ++ p :: r) x (by rw [he]; simp) ?_
            simp at hn; omega⟩
          rw [hr] at this; cases this
    intro i hi
    obtain ⟨p, hp, rfl⟩ := hall i hi
    obtain ⟨l, r, he⟩ := List.append_of_mem hp
    exact key (l.length + 1) l r p he (by omega)
  intro fuel
  induction fuel with
  | zero =>
    intro listed a w pre ss late tm hp ρ tmR I hpart hf
    have hlist : ∀ i < ops.size, listed.getD i false = true := fun i hi => by
      have : unl listed ops.size = 0 := by omega
      unfold unl at this
      rw [List.countP_eq_zero] at this
      simpa using this i (List.mem_range.2 hi)
    obtain ⟨pre', ss', late', tm', hp', hord', I', hsat⟩ := I.saturate hΓ
    rw [← hpart] at hord'
    have hpend : pend listed late' = [] := by
      unfold pend
      rw [List.filter_eq_nil_iff.2, List.reverse_nil]
      intro x hx
      have := (Array.getElem?_eq_some_iff.1 (I'.get x hx)).1
      rw [hlist _ this]; simp
    refine ⟨List.filter_eq_nil_iff.2 fun i hi => ?_, ?_⟩
    · rw [List.mem_range] at hi
      rw [getD_tf I.size hi, hlist i hi]; simp
    · rcases hsat with rfl | ⟨s, ss'', o, T', rfl, S, _⟩
      · have hc := I'.chain
        have hst := I'.step
        rw [hpend] at hc hst
        exact hQ _ _ ρ tm' hp' I'.vc (I'.tmr.same fun t => (hc t).symm) hst
      · have := hlist s.i (Array.getElem?_eq_some_iff.1 S.get).1
        obtain ⟨p, h1, h2⟩ := I'.real _ this
        exact absurd h2 (S.new p h1)
  | succ fuel ih =>
    intro listed a w pre ss late tm hp ρ tmR I hpart hf
    obtain ⟨pre', ss', late', tm', hp', hord', I', hsat⟩ := I.saturate hΓ
    rw [← hpart] at hord'
    refine ⟨fun hr => ?_, fun i hi => ?_⟩
    · have hlist := some_ready I.size hr
      have hpend : pend listed late' = [] := by
        unfold pend
        rw [List.filter_eq_nil_iff.2, List.reverse_nil]
        intro x hx
        have := (Array.getElem?_eq_some_iff.1 (I'.get x hx)).1
        rw [hlist _ this]; simp
      rcases hsat with rfl | ⟨s, ss'', o, T', rfl, S, _⟩
      · have hc := I'.chain
        have hst := I'.step
        rw [hpend] at hc hst
        exact hQ _ _ ρ tm' hp' I'.vc (I'.tmr.same fun t => (hc t).symm) hst
      · have := hlist s.i (Array.getElem?_eq_some_iff.1 S.get).1
        obtain ⟨p, h1, h2⟩ := I'.real _ this
        exact absurd h2 (S.new p h1)
    · obtain ⟨hun, o, ho, hall'⟩ := mem_ready.1 hi
      have hil : i < ops.size := (Array.getElem?_eq_some_iff.1 ho).1
      rw [getD_tf I.size hil] at hun
      have hrd : ∀ e ∈ edgesOn o, listed.getD e false = true := fun e he => by
        obtain ⟨x, h1, h2, h3⟩ := edgesOn_mem.1 he
        rw [← h3]; exact hall' x h1 h2
      have hdec := unl_set (listed := listed) hil I.size hun
      by_cases hip : ∃ p ∈ pre', p.i = i
      · obtain ⟨p, hp1, hp2⟩ := hip
        rcases I'.virt p hp1 with h | ⟨x, hx, hxi⟩
        · rw [hp2, hun] at h; cases h
        · have hxi' : x.i = i := by rw [hxi, hp2]
          subst hxi'
          have hxo : x.o = o := by
            have := I'.get x hx
            rw [ho] at this; exact (Option.some.inj this).symm
          exact I'.exec hE (pend_mem.2 ⟨hx, hun⟩) (by rw [hxo]; exact hrd) fun a' w' ρ' tmR' J => ih J hord'.symm (by omega)
      · rcases hsat with rfl | ⟨s, ss'', o', T', rfl, S, hT', hpl', hka, hw, hav⟩
        · obtain ⟨p, hp, hpi⟩ := hall i hil
          rw [← hord', List.append_nil, List.mem_reverse] at hp
          exact absurd ⟨p, hp, hpi⟩ hip
        · have hsi : i = s.i := by
            obtain ⟨p, hp, hpi⟩ := hall i hil
            rw [← hord'] at hp
            rcases List.mem_append.1 hp with hp | hp
            · exact absurd ⟨p, List.mem_reverse.1 hp, hpi⟩ hip
            · rcases List.mem_cons.1 hp with rfl | hp
              · exact hpi.symm
              · obtain ⟨u, hu, e, he, hne⟩ := S.forced hka p hp
                rw [hpi, ho] at hu
                cases hu
                obtain ⟨x, hx, hxe⟩ := I'.real e (hrd e he)
                exact absurd hxe (hne x hx)
          subst hsi
          have : o' = o := by have := S.get; rw [ho] at this; exact (Option.some.inj this).symm
          subst this
          exact I'.anchor hΓ S hT' hpl' hka hw hav hrd fun a' w' hp2 ρ' tm2 tmR' J => ih J (by rw [← hord']; simp) (by omega)

theorem planB_order {order : List PStep} : ∀ {ss pre : List PStep} {T : Table}, planB ops Γ pre ss T = true → (∀ i, (∃ x ∈ pre, x.i = i) ↔ ∃ x ∈ order, x.i = i) →
    ∀ (l r : List PStep) p, ss = l ++ p :: r → ∃ o, ops[p.i]? = some o ∧ ∀ e ∈ edgesOn o, ∃ x ∈ order ++ l, x.i = e
  | [], _, _, _, _, l, r, p, h => by simp at h
  | s :: ss, pre, T, h, hpre, l, r, p, he => by
    simp only [planB] at h
    split at h
    · cases h
    · rename_i o ho
      simp only [Bool.and_eq_true] at h
      obtain ⟨⟨⟨⟨_, h2⟩, _⟩, _⟩, h5⟩ := h
      cases l with
      | nil =>
        simp at he
        obtain ⟨rfl, rfl⟩ := he
        refine ⟨o, ho, fun e hee => ?_⟩
        rw [List.all_eq_true] at h2
        obtain ⟨x, hx, hxe⟩ := memS_iff.1 (h2 e hee)
        obtain ⟨y, hy, hye⟩ := (hpre e).1 ⟨x, hx, hxe⟩
        exact ⟨y, by simp [hy], hye⟩
      | cons q l =>
        simp at he
        obtain ⟨rfl, he⟩ := he
        obtain ⟨o', h1, h3⟩ := planB_order (order := order ++ [s]) h5 (fun i => by
          constructor
          · rintro ⟨x, hx, hxi⟩
            rcases List.mem_cons.1 hx with rfl | hx
            · exact ⟨x, by simp, hxi⟩
            · obtain ⟨y, hy, hyi⟩ := (hpre i).1 ⟨x, hx, hxi⟩
              exact ⟨y, by simp [hy], hyi⟩
          · rintro ⟨x, hx, hxi⟩
            rcases List.mem_append.1 hx with hx | hx
            · obtain ⟨y, hy, hyi⟩ := (hpre i).2 ⟨x, hx, hxi⟩
              exact ⟨y, by simp [hy], hyi⟩
            · simp at hx; subst hx; exact ⟨x, by simp, hxi⟩) l r p he
        exact ⟨o', h1, fun e hee => by obtain ⟨x, hx, hxe⟩ := h3 e hee; exact ⟨x, by simpa using hx, hxe⟩⟩

/-- a region whose order is drawn -/
theorem draw_e (hΓ : CtxOK P Γ) (hm : P.follows .mixedOrders = true) {id : Nat} {steps : List PStep} (hok : planOK ops Γ steps = true) {tm : List (Nat × SV)} {hp : List Blk} {ρ : Nat → Nat} {a : Act} {w : World}
    (hE : ∀ w', Ext (Foot ρ hp) w w' → Γ.E w') (ht : TmRel Γ.nt ρ hp.length tm a) (hr : HpRel ρ hp w) (h : vcDr Γ ops.toList steps [] tm hp K)
    (hQ : ∀ a' w' ρ' tm' hp', K ⟨tm', hp'⟩ → TmRel Γ.nt ρ' hp'.length tm' a' → Step ρ hp w ρ' hp' w' → Q .normal a' w') : (Code.region id ops true).wp P Q a w := by
  unfold planOK at hok
  simp only [Bool.and_eq_true, List.all_eq_true, List.mem_range] at hok
  obtain ⟨⟨hns, hall⟩, hpl⟩ := hok
  refine wp_region_any hm ?_
  have I : Inv P Γ ops K ρ hp w (Array.replicate ops.size false) a { w with drawn := w.drawn + 1 } [] steps [] tm hp ρ tm :=
    { size := by simp
      down := fun i o hi => by
        rw [Array.getD_eq_getD_getElem?, Array.getElem?_replicate] at hi
        split at hi <;> simp at hi
      real := fun i hi => by
        rw [Array.getD_eq_getD_getElem?, Array.getElem?_replicate] at hi
        split at hi <;> simp at hi
      virt := fun p hp => by cases hp
      get := fun x hx => by cases hx
      along := .nil
      nodup := .nil
      pairs := .nil
      rkind := fun x hx => by cases hx
      rmask := fun x hx => by cases hx
      mblk := fun x hx => by cases hx
      mone := fun x hx => by cases hx
      avoid := fun y hy => by simp [pend] at hy
      tmr := ht
      chain := fun t => rfl
      step := Step.world hr rfl rfl rfl rfl
      hpok := fun k el ps hk => (hr.mem k el ps hk).1
      a1 := fun t v hv => SV.ok_mono (fun x _ => by simp [pend, pendB]) v (ht.okay t v hv)
      a2 := fun k el ps _ hk => okL_mono (fun x _ => by simp [pend, pendB]) _ (hr.mem k el ps hk).1
      nsel := fun j o cs b ho => Region.noSelect_spec hns j o cs b ho
      plan := ⟨[], fun i k hk => by simp [tabOf] at hk, hpl⟩
      vc := h }
  refine I.any hΓ hE steps (fun i hi => memS_iff.1 (hall i hi)) (fun l r p he => ?_) hQ ops.size (by simp) ?_
  · obtain ⟨o, h1, h2⟩ := planB_order (order := []) hpl (fun i => by simp) l r p he
    exact ⟨o, h1, fun e hee => by simpa using h2 e hee⟩
  · unfold unl
    exact Nat.le_trans List.countP_le_length (by simp)
end
end Go.Sym
