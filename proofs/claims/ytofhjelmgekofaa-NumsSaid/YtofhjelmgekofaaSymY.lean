/-
  The symbolic engine, part 22: a region whose order is drawn - what is done in truth. No program in sight; no condition beyond each lemma's own.
-/
import Derived.Test.YtofhjelmgekofaaSymX
set_option linter.unusedSimpArgs false
set_option linter.unusedVariables false
namespace Go.Sym

section
variable {P : Program} {Γ : Ctx} {ops : Array Oper} {Q : Exit → Act → World → Prop} {K : St → Prop} {ρ0 : Nat → Nat} {hp0 : List Blk} {w0 : World}
variable {listed : Array Bool} {a : Act} {w : World} {pre ss : List PStep} {s : PStep} {late : List Late} {tm : List (Nat × SV)} {hp : List Blk} {ρ : Nat → Nat} {tmR : List (Nat × SV)}

theorem ok_none {v : SV} {p : Nat → Prop} (hv : v.ok p) : ∀ {L : List Nat}, (∀ b ∈ L, v.ok (· ≠ b)) → v.ok (· ∉ L)
  | [], _ => SV.ok_mono (fun _ _ => by simp) v hv
  | b :: L, h => SV.ok_and (fun x (h1 : x ≠ b) (h2 : x ∉ L) => by simp [h1, h2]) v (h b (by simp)) (ok_none hv fun c hc => h c (by simp [hc]))
theorem okL_none {vs : List SV} {p : Nat → Prop} (hv : okL p vs) {L : List Nat} (h : ∀ b ∈ L, okL (· ≠ b) vs) : okL (· ∉ L) vs := ok_none (v := .agg vs) hv h

theorem wpOp_value {i : Nat} {o : Oper} (ho : ops[i]? = some o) (hw : Region.wanted o (yielded ops a.tmps) = true) {v : Value} {w' : World} (hr : (execOp a.eval o).run P w = .ok (.value v) w') {Kc : Act → World → Prop} (h : Kc (a.put o.dst v) w') : wpOp P ops Q i Kc a w := by
  unfold wpOp
  simp only [ho, hw, if_true, Oper.wp, hr, Oper.upon]
  exact .inl h

theorem getD_set {i j : Nat} (h : j < listed.size) : (listed.setIfInBounds j true).getD i false = true ↔ i = j ∨ listed.getD i false = true := by
  by_cases e : i = j
  · subst e; simp [h]
  · rw [getD_set_ne false (fun x => e x.symm)]; simp [e]

theorem TmRel.re {nt n : Nat} {ρ ρ1 : Nat → Nat} {tm : List (Nat × SV)} {a : Act} (h : TmRel nt ρ n tm a) (hs : ∀ t v, look tm t = some v → v.den ρ1 = v.den ρ) : TmRel nt ρ1 n tm a :=
  ⟨h.size, h.defers, fun t v hv => ⟨(h.val t v hv).1, by rw [(h.val t v hv).2, hs t v hv]⟩⟩

theorem Inv.lt (I : Inv P Γ ops K ρ0 hp0 w0 listed a w pre ss late tm hp ρ tmR) {x : Late} (hx : x ∈ late) : x.i < listed.size := by
  rw [I.size]; exact (Array.getElem?_eq_some_iff.1 (I.get x hx)).1

/-- what is done, of what was taken in thought -/
theorem Inv.core (I : Inv P Γ ops K ρ0 hp0 w0 listed a w pre ss late tm hp ρ tmR) {x : Late} (hx : x ∈ pend listed late) (hrd : ∀ e ∈ edgesOn x.o, listed.getD e false = true) :
    ∃ A B, pend listed late = A ++ x :: B ∧ pend (listed.setIfInBounds x.i true) late = A ++ B ∧ Fact P Γ ops hp x tmR ∧ x.v.ok (· < hp.length) ∧ (∀ d, x.o.dst = some d → d < Γ.nt) ∧
      (∀ z ∈ A ++ B, ∀ b, z.k = .maker b → x.v.ok (· ≠ b) ∧ ∀ c el ps, x.k = .maker c → hp[c]? = some (.mk el ps) → okL (· ≠ b) ps) ∧
      ∀ a' w' ρ', TmRel Γ.nt ρ' hp.length (putT tmR x.o.dst x.v) a' → Step ρ0 hp0 w0 ρ' (mask (pendB (A ++ B)) hp) w' →
        Inv P Γ ops K ρ0 hp0 w0 (listed.setIfInBounds x.i true) a' w' pre ss late tm hp ρ' (putT tmR x.o.dst x.v) := by
  obtain ⟨hxl, hxu⟩ := pend_mem.1 hx
  have hlt := I.lt hxl
  obtain ⟨A, B, hAB⟩ := List.append_of_mem hx
  have hbef : ∀ {k : Nat}, Before ops k x.i → listed.getD k false = true := fun hb =>
    hb.listed (L := fun i => listed.getD i false = true) I.down fun o ho e he => hrd e (by rw [I.get x hxl] at ho; cases ho; exact he)
  have hnd : (pend listed late).Pairwise fun x y => x.i ≠ y.i := by
    unfold pend
    rw [List.pairwise_reverse]
    exact (I.nodup.filter _).imp fun h => h.symm
  have hpw : (pend listed late).Pairwise fun x y => Before ops x.i y.i ∨ x.o.apart ops y.o = true := by
    unfold pend
    rw [List.pairwise_reverse]
    exact I.pairs.filter _
  rw [hAB, List.pairwise_append] at hnd hpw
  have hnA : ∀ y ∈ A, y.i ≠ x.i := fun y hy => hnd.2.2 y hy x (by simp)
  have hnB : ∀ y ∈ B, y.i ≠ x.i := fun y hy => ((List.pairwise_cons.1 hnd.2.1).1 y hy).symm
  have hmem : ∀ {y : Late}, y ∈ A ++ B → y ∈ pend listed late ∧ y.i ≠ x.i := fun hy => by
    rw [hAB]
    rcases List.mem_append.1 hy with h | h
    · exact ⟨by simp [h], hnA _ h⟩
    · exact ⟨by simp [h], hnB _ h⟩
  have hpe : pend (listed.setIfInBounds x.i true) late = A ++ B := by
    have : pend (listed.setIfInBounds x.i true) late = (pend listed late).filter fun y => !(decide (y.i = x.i)) := by
      unfold pend
      rw [List.filter_reverse, List.filter_filter]
      congr 1
      apply List.filter_congr
      intro y hy
      by_cases e : y.i = x.i
      · have : (listed.setIfInBounds x.i true).getD y.i false = true := (getD_set hlt).2 (.inl e)
        rw [this]; simp [e]
      · rw [getD_set_ne false (fun h => e h.symm)]; simp [e]
    rw [this, hAB, List.filter_append, List.filter_cons_of_neg (by simp), List.filter_eq_self.2 (fun y hy => by simp [hnA y hy]), List.filter_eq_self.2 (fun y hy => by simp [hnB y hy])]
  have hch := I.chain
  rw [hAB] at hch
  have hns : ∀ (j : Nat) (o : Oper) cs b, ops[j]? = some o → o.op ≠ .select cs b := I.nsel
  obtain ⟨f1, f2, f3, f4⟩ := hch.bubble hns (I.get x hxl) I.tmr.okay fun y hy => by
    have hyp : y ∈ pend listed late := by rw [hAB]; simp [hy]
    obtain ⟨hyl, hyu⟩ := pend_mem.1 hyp
    refine ⟨I.get y hyl, (hpw.2.2 y hy x (by simp)).resolve_left fun hb => ?_⟩
    rw [hbef hb] at hyu; cases hyu
  have hav : ∀ z ∈ A ++ B, ∀ b, z.k = .maker b → x.v.ok (· ≠ b) ∧ ∀ c el ps, x.k = .maker c → hp[c]? = some (.mk el ps) → okL (· ≠ b) ps := fun z hz b hb => by
    obtain ⟨hzp, hzn⟩ := hmem hz
    refine (I.avoid x hx z hzp b hb (fun e => hzn e.symm)).resolve_left fun hbf => ?_
    have := (pend_mem.1 hzp).2
    rw [hbef hbf] at this; cases this
  have hsub : ∀ b, b ∈ pendB (A ++ B) → b ∈ pendB (pend listed late) := fun b hb => by
    obtain ⟨z, h1, h2⟩ := pendB_mem.1 hb
    exact pendB_mem.2 ⟨z, (hmem h1).1, h2⟩
  refine ⟨A, B, hAB, hpe, f1, f2, f3, hav, fun a' w' ρ' htm hst => ?_⟩
  refine { I with
    size := by simp [I.size]
    down := fun i o hi ho e he => ?_
    real := fun i hi => ?_
    virt := fun p hp => ?_
    avoid := fun y hy z hz b hb hyz => I.avoid y (hmem (hpe ▸ hy)).1 z (hmem (hpe ▸ hz)).1 b hb hyz
    tmr := htm
    chain := by rw [hpe]; exact f4
    step := by rw [hpe]; exact hst
    a1 := fun t v hv => ?_
    a2 := fun c el ps hc hcc => ?_ }
  · rw [getD_set hlt] at hi ⊢
    rcases hi with rfl | hi
    · rw [I.get x hxl] at ho; cases ho; exact .inr (hrd e he)
    · exact .inr (I.down i o hi ho e he)
  · rw [getD_set hlt] at hi
    rcases hi with rfl | hi
    · exact I.along.mem x hxl
    · exact I.real i hi
  · rw [getD_set hlt]
    rcases I.virt p hp with h | h
    · exact .inl (.inr h)
    · exact .inr h
  · rw [hpe]
    rw [look_putT] at hv
    split at hv
    · cases hv
      refine ok_none f2 fun b hb => ?_
      obtain ⟨z, h1, h2⟩ := pendB_mem.1 hb
      exact (hav z h1 b h2).1
    · exact SV.ok_mono (fun y hy h => hy (hsub y h)) v (I.a1 t v hv)
  · rw [hpe] at hc ⊢
    by_cases hcp : c ∈ pendB (pend listed late)
    · obtain ⟨z, h1, h2⟩ := pendB_mem.1 hcp
      have hzx : z = x := by
        rw [hAB] at h1
        rcases List.mem_append.1 h1 with h | h
        · exact absurd (pendB_mem.2 ⟨z, by simp [h], h2⟩) hc
        · rcases List.mem_cons.1 h with h | h
          · exact h
          · exact absurd (pendB_mem.2 ⟨z, by simp [h], h2⟩) hc
      subst hzx
      refine okL_none (I.hpok c el ps hcc) fun b hb => ?_
      obtain ⟨y, g1, g2⟩ := pendB_mem.1 hb
      exact (hav y g1 b g2).2 c el ps h2 hcc
    · exact okL_mono (fun y hy h => hy (hsub y h)) _ (I.a2 c el ps hcp hcc)

theorem Inv.exec (hE : ∀ w', Ext (Foot ρ0 hp0) w0 w' → Γ.E w') (I : Inv P Γ ops K ρ0 hp0 w0 listed a w pre ss late tm hp ρ tmR) {x : Late} (hx : x ∈ pend listed late) (hrd : ∀ e ∈ edgesOn x.o, listed.getD e false = true) {Kc : Act → World → Prop}
    (hK : ∀ a' w' ρ' tmR', Inv P Γ ops K ρ0 hp0 w0 (listed.setIfInBounds x.i true) a' w' pre ss late tm hp ρ' tmR' → Kc a' w') : wpOp P ops Q x.i Kc a w := by
  obtain ⟨hxl, hxu⟩ := pend_mem.1 hx
  have hbef : ∀ {k : Nat}, Before ops k x.i → listed.getD k false = true := fun hb =>
    hb.listed (L := fun i => listed.getD i false = true) I.down fun o ho e he => hrd e (by rw [I.get x hxl] at ho; cases ho; exact he)
  obtain ⟨A, B, hAB, hpe, f1, f2, f3, hav, hI⟩ := I.core hx hrd
  have hsame : (∀ b, x.k ≠ .maker b) → ∀ b, b ∈ pendB (pend listed late) → b ∈ pendB (A ++ B) := fun hk b hb => by
    obtain ⟨z, h1, h2⟩ := pendB_mem.1 hb
    rw [hAB] at h1
    rcases List.mem_append.1 h1 with h | h
    · exact pendB_mem.2 ⟨z, by simp [h], h2⟩
    · rcases List.mem_cons.1 h with h | h
      · subst h; exact absurd h2 (hk b)
      · exact pendB_mem.2 ⟨z, by simp [h], h2⟩
  unfold Fact at f1
  split at f1
  · rename_i hk
    have hst : Step ρ0 hp0 w0 ρ (mask (pendB (A ++ B)) hp) w := I.step.sub (by simp [mask_length]) fun k el ps hkk => by
      rw [mask_get] at hkk ⊢
      exact ⟨fun h => hkk.1 (hsame (fun b h => by rw [hk] at h; cases h) k h), hkk.2⟩
    exact (f1 ρ a I.tmr).wpOp (I.get x hxl) (hK _ _ _ _ (hI _ w ρ (I.tmr.put f3 f2) hst))
  · rename_i M hk
    have hst : Step ρ0 hp0 w0 ρ (mask (pendB (A ++ B)) hp) w := I.step.sub (by simp [mask_length]) fun k el ps hkk => by
      rw [mask_get] at hkk ⊢
      exact ⟨fun h => hkk.1 (hsame (fun b h => by rw [hk] at h; cases h) k h), hkk.2⟩
    have hrel : HpRel ρ (mask M hp) w := I.step.rel.sub fun k el ps hkk => by
      rw [mask_get] at hkk ⊢
      refine ⟨⟨fun h => hkk.1 ?_, hkk.2⟩, by rw [mask_length]; exact I.hpok k el ps hkk.2⟩
      obtain ⟨z, h1, h2⟩ := pendB_mem.1 h
      refine (I.rmask x hxl M hk z (pend_mem.1 h1).1 k h2).resolve_left fun hb => ?_
      have := (pend_mem.1 h1).2
      rw [hbef hb] at this; cases this
    exact wpOp_value (I.get x hxl) (f1.1 ρ a I.tmr) (f1.2 ρ a w I.tmr hrel (hE w I.step.ext)) (hK _ _ _ _ (hI _ w ρ (I.tmr.put f3 f2) hst))
  · rename_i b hk
    obtain ⟨hw, el, ps, h1, h2, h3, h4, h5⟩ := f1
    have hbp : b ∈ pendB (pend listed late) := pendB_mem.2 ⟨x, hx, hk⟩
    obtain ⟨hb0, hbl⟩ := I.mblk x hxl b hk
    have htm : TmRel Γ.nt (upd ρ b w.heap.size) hp.length tmR a := I.tmr.re fun t v hv =>
      SV.den_congr (p := (· ∉ pendB (pend listed late))) (fun k hk' => by
        have : k ≠ b := fun e => hk' (e ▸ hbp)
        simp [upd, this]) v (I.a1 t v hv)
    refine wpOp_value (I.get x hxl) (hw ρ a I.tmr) (h5 ρ a I.tmr (upd ρ b w.heap.size) w (by simp [upd])) (hK _ _ _ _ (hI _ _ (upd ρ b w.heap.size) (htm.put f3 f2) ?_))
    refine I.step.place hb0 (by rwa [mask_length]) (fun el ps h => (mask_get.1 h).1 hbp) (el := el) (by rwa [mask_length]) h4 (fun k el' qs hkk => ?_) (by simp [mask_length]) (fun k el' qs hkk => ?_)
    · rw [mask_get] at hkk
      exact okL_mono (fun y (hy : y ∉ pendB (pend listed late)) (e : y = b) => hy (by rw [e]; exact hbp)) _ (I.a2 k el' qs hkk.1 hkk.2)
    · rw [mask_get] at hkk
      by_cases hkb : k = b
      · subst hkb
        rw [h1] at hkk
        have := hkk.2
        cases this
        exact .inr ⟨rfl, rfl, rfl⟩
      · refine .inl ⟨hkb, mask_get.2 ⟨fun h => ?_, hkk.2⟩⟩
        obtain ⟨z, g1, g2⟩ := pendB_mem.1 h
        rw [hAB] at g1
        rcases List.mem_append.1 g1 with h | h
        · exact hkk.1 (pendB_mem.2 ⟨z, by simp [h], g2⟩)
        · rcases List.mem_cons.1 h with h | h
          · subst h; rw [hk] at g2; cases g2; exact hkb rfl
          · exact hkk.1 (pendB_mem.2 ⟨z, by simp [h], g2⟩)

/-! ### an anchor -/
/-- what the engine asks of an anchor -/
def AnchorVC (Γ : Ctx) (all : List Oper) (s : PStep) (ss : List PStep) (o : Oper) (late : List Late) (tm : List (Nat × SV)) (hp : List Blk) (K : St → Prop) : Prop :=
  looseB s.loose late fun M => deadK M hp fun hm => anchorK Γ o.op tm hm
          (fun v hp1 => freeV M v (freeH M hp1 (liveK hp M hp1 fun hp2 => putK Γ.nt tm hp2 o.dst v fun st => match st with | ⟨tm', hp'⟩ => reK Γ tm' hp' s.loose late (vcDr Γ all ss late tm' hp' K))))
          (fun hp1 => freeH M hp1 (liveK hp M hp1 fun hp2 => match o.dst with
            | none => reK Γ tm hp2 s.loose late (vcDr Γ all ss late tm hp2 K)
            | some _ => False))

theorem actPuts (hns : ∀ (j : Nat) (o : Oper) cs b, ops[j]? = some o → o.op ≠ .select cs b) {o : Oper} {i : Nat} (ho : ops[i]? = some o) : ∀ {xs : List Late} {tm tm' : List (Nat × SV)} {a : Act}, Chain P Γ ops hp tm xs tm' → TmRel Γ.nt ρ hp.length tm a →
    (∀ y ∈ xs, ∀ d, y.o.dst = some d → d ∉ o.looksAt ops) →
    ∃ a', TmRel Γ.nt ρ hp.length tm' a' ∧ execOp a'.eval o = execOp a.eval o ∧ Region.wanted o (yielded ops a'.tmps) = Region.wanted o (yielded ops a.tmps)
  | [], _, _, a, h, ht, _ => ⟨a, ht.same fun t => (h t).symm, rfl, rfl⟩
  | x :: xs, _, _, a, ⟨_, h2, h3, h4⟩, ht, hd => by
    obtain ⟨a', g1, g2, g3⟩ := actPuts hns ho h4 (ht.put h3 h2) (fun y hy => hd y (by simp [hy]))
    exact ⟨a', g1, by rw [g2, execOp_put o (fun cs b => hns _ _ cs b ho) a _ _ (hd x (by simp))], by rw [g3, wanted_put o a _ _ (hd x (by simp))]⟩

theorem Inv.anchor (hΓ : CtxOK P Γ) (I : Inv P Γ ops K ρ0 hp0 w0 listed a w pre (s :: ss) late tm hp ρ tmR) {o : Oper} {T' : Table} (S : StepOK Γ ops pre s ss o) (hT : TabOK ops T') (hpl : planB ops Γ (s :: pre) ss T' = true)
    (hka : kindOf Γ o.op = .anchor) (hw : Wants Γ ops hp.length o tm) (hvc : AnchorVC Γ ops.toList s ss o late tm hp K) (hrd : ∀ e ∈ edgesOn o, listed.getD e false = true) {Kc : Act → World → Prop}
    (hK : ∀ a' w' hp' ρ' tm' tmR', Inv P Γ ops K ρ0 hp0 w0 (listed.setIfInBounds s.i true) a' w' (s :: pre) ss late tm' hp' ρ' tmR' → Kc a' w') : wpOp P ops Q s.i Kc a w := by
  have hns : ∀ (j : Nat) (o : Oper) cs b, ops[j]? = some o → o.op ≠ .select cs b := I.nsel
  have hlt : s.i < listed.size := by rw [I.size]; exact (Array.getElem?_eq_some_iff.1 S.get).1
  have hne : ∀ x ∈ late, x.i ≠ s.i := fun x hx => by obtain ⟨p, h1, h2⟩ := I.along.mem x hx; rw [← h2]; exact S.new p h1
  have hbef : ∀ {k : Nat}, Before ops k s.i → listed.getD k false = true := fun hb =>
    hb.listed (L := fun i => listed.getD i false = true) I.down fun o' ho' e he => hrd e (by rw [S.get] at ho'; cases ho'; exact he)
  have hlo : ∀ x ∈ pend listed late, x.i ∈ s.loose ∧ x.o.apart ops o = true := fun x hx => by
    obtain ⟨hxl, hxu⟩ := pend_mem.1 hx
    obtain ⟨p, h1, h2⟩ := I.along.mem x hxl
    rcases S.pairs p h1 with ⟨g1, y, g2, g3⟩ | ⟨g1, g2⟩
    · rw [h2] at g1 g2
      rw [I.get x hxl] at g2
      cases g2
      exact ⟨g1, g3⟩
    · rw [h2] at g2; rw [hbef g2] at hxu; cases hxu
  have hpe : pend (listed.setIfInBounds s.i true) late = pend listed late := by
    unfold pend
    congr 1
    apply List.filter_congr
    intro y hy
    rw [getD_set_ne false (fun h => hne y hy h.symm)]
  obtain ⟨htm, hxs⟩ := chain_ok I.chain I.tmr.okay
  obtain ⟨a1, ha1, hex, hwa⟩ := actPuts hns S.get I.chain I.tmr fun y hy d hd => (Oper.apart_spec (hlo y hy).2).1 d hd
  have hwant : Region.wanted o (yielded ops a.tmps) = true := by rw [← hwa]; exact hw ρ a1 ha1
  have hD : ∀ b ∈ pendB (pend listed late), b ∈ looseL s.loose late := fun b hb => by
    obtain ⟨z, h1, h2⟩ := pendB_mem.1 hb
    exact looseL_mem.2 ⟨z, (pend_mem.1 h1).1, h2, (hlo z h1).1⟩
  have hM : ∀ b ∈ looseL s.loose late, b < hp.length := fun b hb => by
    obtain ⟨z, h1, h2, _⟩ := looseL_mem.1 hb
    exact (I.mblk z h1 b h2).2
  have h1 := deadK_e (looseB_e hvc)
  clear hvc
  generalize hMd : looseL s.loose late = M at *
  have hrel : HpRel ρ (mask M hp) w := I.step.rel.sub fun k el ps hk => by
    rw [mask_get] at hk ⊢
    exact ⟨⟨fun h => hk.1 (hD k h), hk.2⟩, by rw [mask_length]; exact I.hpok k el ps hk.2⟩
  have core : ∀ (v : SV) (ρ' : Nat → Nat) (hp1 : List Blk) (w' : World) (tm' : List (Nat × SV)), v.ok (· < hp1.length) → v.ok (· ∉ M) → Step ρ (mask M hp) w ρ' hp1 w' → (∀ d, o.dst = some d → d < Γ.nt) →
      freeH M hp1 (liveK hp M hp1 fun hp2 => tm' = putT tm o.dst v ∧ reK Γ tm' hp2 s.loose late (vcDr Γ ops.toList ss late tm' hp2 K)) → Kc (a.put o.dst (v.den ρ')) w' := by
    intro v ρ' hp1 w' tm' hv hvM T hd hf
    obtain ⟨hf, hfree⟩ := freeH_e hf
    obtain ⟨⟨rfl, hf⟩, hMl⟩ := liveK_e hf
    obtain ⟨hvc, hre⟩ := reK_e hf
    have hget : ∀ k, (unmask hp M hp1)[k]? = if k ∈ M then hp[k]? else hp1[k]? := fun k => unmask_get hMl
    have hlen : (unmask hp M hp1).length = hp1.length := unmask_length
    have hle : hp.length ≤ (unmask hp M hp1).length := by have := T.le; rw [mask_length] at this; omega
    have hsame : ∀ k, k < hp.length → ρ' k = ρ k := fun k hk => T.same k (by rwa [mask_length])
    have hst := I.step.through hD hM T hlen hget
    have htm' : TmRel Γ.nt ρ' (unmask hp M hp1).length (putT tmR o.dst v) (a.put o.dst (v.den ρ')) := (I.tmr.later hsame hle).put hd (by rw [hlen]; exact hv)
    refine hK _ _ _ ρ' _ (putT tmR o.dst v) { I with
      size := by simp [I.size]
      down := fun i o' hi ho e he => ?_
      real := fun i hi => ?_
      virt := fun p hp => ?_
      along := .skip I.along
      mblk := fun z hz b hb => by have := I.mblk z hz b hb; exact ⟨this.1, by omega⟩
      avoid := fun y hy z hz b hb hyz => ?_
      tmr := htm'
      chain := ?_
      step := by rw [hpe]; exact hst
      hpok := fun k el ps hk => ?_
      a1 := fun t u hu => ?_
      a2 := fun c el ps hc hcc => ?_
      plan := ⟨T', hT, hpl⟩
      vc := hvc }
    · rw [getD_set hlt] at hi ⊢
      rcases hi with rfl | hi
      · rw [S.get] at ho; cases ho; exact .inr (hrd e he)
      · exact .inr (I.down i o' hi ho e he)
    · rw [getD_set hlt] at hi
      rcases hi with rfl | hi
      · exact ⟨s, by simp, rfl⟩
      · obtain ⟨p, h1, h2⟩ := I.real i hi; exact ⟨p, by simp [h1], h2⟩
    · rw [getD_set hlt]
      rcases List.mem_cons.1 hp with rfl | hp
      · exact .inl (.inl rfl)
      · rcases I.virt p hp with h | h
        · exact .inl (.inr h)
        · exact .inr h
    · rw [hpe] at hy hz
      rcases I.avoid y hy z hz b hb hyz with h | ⟨h, h'⟩
      · exact .inl h
      · refine .inr ⟨h, fun c el ps hc hcc => h' c el ps hc ?_⟩
        rw [hget, if_pos (hD c (pendB_mem.2 ⟨y, hy, hc⟩))] at hcc
        exact hcc
    · rw [hpe]
      obtain ⟨hself, hpair⟩ : (∀ x ∈ pend listed late, ∀ M, x.k = .read M → (∀ e, x.o.dst = some e → e ∉ x.o.looksAt ops)) ∧
          ((pend listed late).Pairwise fun x y => ∀ M, x.k = .read M → ∀ e, y.o.dst = some e → e ∉ x.o.looksAt ops) := by
        obtain ⟨g1, g2⟩ := readsB_e I.along (S.reads hka) I.get
        refine ⟨fun x hx M' hM' => (g1 x (pend_mem.1 hx).1 (I.rkind x (pend_mem.1 hx).1 M' hM') (hlo x hx).1).1, ?_⟩
        have g3 : (pend listed late).Pairwise fun x y => kindOf Γ x.o.op = .read → x.i ∈ s.loose → ∀ e, y.o.dst = some e → e ∉ x.o.looksAt ops := by
          unfold pend
          rw [List.pairwise_reverse]
          exact g2.filter _
        refine g3.imp_of_mem fun {x y} hx hy h M' hM' => h (I.rkind x (pend_mem.1 hx).1 M' hM') (hlo x hx).1
      refine I.chain.anchor hns hle rfl hd (by rw [hlen]; exact hv) I.tmr.okay (fun x hx => ⟨I.get x (pend_mem.1 hx).1, (hlo x hx).2⟩) (fun x hx b hb => by rw [hget, if_pos (hD b (pendB_mem.2 ⟨x, hx, hb⟩))])
        (fun x hx M' hM' ρ2 a2 w2 ht2 hw2 hE2 => ?_) hpair hself
      obtain ⟨u, rfl, _, hr⟩ := readK_e (P := P) hΓ hw2 (by rw [mask_length]; exact ht2) x.o (hre x (pend_mem.1 hx).1 M' hM' (hlo x hx).1)
      exact hr hE2
    · rw [hlen]
      rw [hget] at hk
      split at hk
      · exact okL_mono (fun x hx => by omega) _ (I.hpok k el ps hk)
      · exact (T.rel.mem k el ps hk).1
    · rw [hpe]
      rw [look_putT] at hu
      split at hu
      · cases hu; exact SV.ok_mono (fun x hx h => hx (hD x h)) v hvM
      · exact I.a1 t u hu
    · rw [hpe] at hc ⊢
      rw [hget] at hcc
      split at hcc
      · exact I.a2 c el ps hc hcc
      · exact okL_mono (fun x hx h => hx (hD x h)) _ (hfree c el ps _ hcc (T.rel.mem c el ps hcc).1)
  have hval : ∀ (v : SV) (ρ' : Nat → Nat) (hp1 : List Blk) (w' : World), v.ok (· < hp1.length) → Step ρ (mask M hp) w ρ' hp1 w' →
      freeV M v (freeH M hp1 (liveK hp M hp1 fun hp2 => putK Γ.nt tm hp2 o.dst v fun st => match st with | ⟨tm', hp'⟩ => reK Γ tm' hp' s.loose late (vcDr Γ ops.toList ss late tm' hp' K))) → Kc (a.put o.dst (v.den ρ')) w' := by
    intro v ρ' hp1 w' hv T hf
    obtain ⟨hvM, hf⟩ := freeV_e hv hf
    have hd : ∀ d, o.dst = some d → d < Γ.nt := (putK_e' (liveK_e (freeH_e hf).1).1).1
    refine core v ρ' hp1 w' (putT tm o.dst v) hv hvM T hd ?_
    have h2 : ∀ hp2, (putK Γ.nt tm hp2 o.dst v fun st => match st with | ⟨tm', hp'⟩ => reK Γ tm' hp' s.loose late (vcDr Γ ops.toList ss late tm' hp' K)) →
        (putT tm o.dst v = putT tm o.dst v ∧ reK Γ (putT tm o.dst v) hp2 s.loose late (vcDr Γ ops.toList ss late (putT tm o.dst v) hp2 K)) := fun hp2 h => ⟨rfl, (putK_e' h).2⟩
    exact freeH_imp hf fun h => liveK_imp h h2
  rcases anchorK_e hΓ hrel (by rw [mask_length]; exact ha1) o h1 with ⟨v, ρ', hp1, w', hr, hv, T, hf⟩ | ⟨hp1, w', hr, T, hf⟩ | ⟨f, args, hr, hc⟩
  · rw [hex] at hr
    exact wpOp_value S.get hwant hr (hval v ρ' hp1 w' hv T hf)
  · rw [hex] at hr
    unfold wpOp
    simp only [S.get, hwant, if_true, Oper.wp, hr, Oper.upon]
    refine .inl ?_
    have hdn : o.dst = none := by
      have := (liveK_e (freeH_e hf).1).1
      cases hd : o.dst with
      | none => rfl
      | some d => rw [hd] at this; exact this.elim
    have := core (.tup []) ρ hp1 w' tm (by simp [SV.ok, okL]) (by simp [SV.ok, okL]) (by
      exact T) (fun d hd => by rw [hdn] at hd; cases hd) (freeH_imp hf fun h => liveK_imp h fun hp2 h => by
        rw [hdn] at h; rw [hdn]; exact ⟨rfl, h⟩)
    rw [hdn] at this ⊢
    exact this
  · rw [hex] at hr
    unfold wpOp
    simp only [S.get, hwant, if_true, Oper.wp, hr, Oper.upon]
    refine .inl (hc.mono fun e w' ⟨v, ρ', hp1, he, hv, T, hf⟩ => ?_)
    subst he
    exact hval v ρ' hp1 w' hv T hf
end
end Go.Sym
