/-
  The symbolic engine, part 18: a region whose order is drawn - heaps some of whose blocks are not there yet. No program in sight; no condition beyond each lemma's own.
-/
import Derived.Test.YtofhjelmgekofaaSymT
set_option linter.unusedSimpArgs false
set_option linter.unusedVariables false
namespace Go.Sym

/-- a heap without the blocks M -/
def mask : List Nat → List Blk → List Blk
  | [], hp => hp
  | m :: M, hp => mask M (hp.set m .dead)

theorem mask_length : ∀ (M : List Nat) (hp : List Blk), (mask M hp).length = hp.length
  | [], _ => rfl
  | m :: M, hp => by simp [mask, mask_length M]
theorem set_dead {hp : List Blk} {m k : Nat} {el : TypeId} {ps : List SV} : (hp.set m .dead)[k]? = some (.mk el ps) ↔ k ≠ m ∧ hp[k]? = some (.mk el ps) := by
  constructor
  · intro h
    by_cases e : m = k
    · subst e
      rw [List.getElem?_set] at h
      split at h
      · split at h <;> cases h
      · rename_i hne; exact absurd rfl hne
    · rw [List.getElem?_set_ne e] at h; exact ⟨fun x => e x.symm, h⟩
  · rintro ⟨h1, h2⟩
    rw [List.getElem?_set_ne (fun e => h1 e.symm)]; exact h2
theorem mask_get {k : Nat} {el : TypeId} {ps : List SV} : ∀ {M : List Nat} {hp : List Blk}, (mask M hp)[k]? = some (.mk el ps) ↔ k ∉ M ∧ hp[k]? = some (.mk el ps)
  | [], hp => by simp [mask]
  | m :: M, hp => by
    rw [mask, mask_get, set_dead]
    simp only [List.mem_cons, not_or]
    constructor
    · rintro ⟨h1, h2, h3⟩; exact ⟨⟨h2, h1⟩, h3⟩
    · rintro ⟨⟨h1, h2⟩, h3⟩; exact ⟨h2, h1, h3⟩

theorem deadK_e : ∀ {M : List Nat} {hp : List Blk} {k : List Blk → Prop}, deadK M hp k → k (mask M hp)
  | [], _, _, h => h
  | m :: M, hp, k, h => by
    exact deadK_e (M := M) (setK_e h).2
theorem deadK_i : ∀ {M : List Nat} {hp : List Blk} {k k' : List Blk → Prop}, deadK M hp k → k' (mask M hp) → deadK M hp k'
  | [], _, _, _, _, h => h
  | m :: M, hp, k, k', h, h' => by
    have : ∀ {l : List Blk} {n : Nat} {f f' : List Blk → Prop}, setK l n .dead f → (f (l.set n .dead) → f' (l.set n .dead)) → setK l n .dead f' := by
      intro l
      induction l with
      | nil => intro n f f' h _; exact h
      | cons x xs ih =>
        intro n f f' h hf
        cases n with
        | zero => exact hf h
        | succ n => exact ih (f := fun l => f (x :: l)) (f' := fun l => f' (x :: l)) h hf
    exact this h fun h => deadK_i h h'

/-- blocks M taken out of hp and put into hp' -/
def unmask (hp : List Blk) : List Nat → List Blk → List Blk
  | [], hp' => hp'
  | m :: M, hp' => unmask hp M (match hp[m]? with | some b => hp'.set m b | none => hp')
theorem liveK_e {hp : List Blk} : ∀ {M : List Nat} {hp' : List Blk} {k : List Blk → Prop}, liveK hp M hp' k → k (unmask hp M hp') ∧ ∀ m ∈ M, m < hp.length ∧ m < hp'.length
  | [], _, _, h => ⟨h, by simp⟩
  | m :: M, hp', k, h => by
    obtain ⟨b, h1, h2⟩ := nthK_e h
    obtain ⟨h3, h4⟩ := setK_e h2
    obtain ⟨h5, h6⟩ := liveK_e h4
    refine ⟨by rw [unmask, h1]; exact h5, fun x hx => ?_⟩
    rcases List.mem_cons.1 hx with rfl | hx
    · exact ⟨(List.getElem?_eq_some_iff.1 h1).1, h3⟩
    · have := h6 x hx; simpa using this
theorem unmask_length {hp : List Blk} : ∀ {M : List Nat} {hp' : List Blk}, (unmask hp M hp').length = hp'.length
  | [], _ => rfl
  | m :: M, hp' => by
    rw [unmask, unmask_length]
    split <;> simp
theorem unmask_get {hp : List Blk} {k : Nat} : ∀ {M : List Nat} {hp' : List Blk}, (∀ m ∈ M, m < hp.length ∧ m < hp'.length) → (unmask hp M hp')[k]? = if k ∈ M then hp[k]? else hp'[k]?
  | [], _, _ => by simp [unmask]
  | m :: M, hp', h => by
    obtain ⟨h1, h2⟩ := h m (by simp)
    rw [unmask, List.getElem?_eq_getElem h1]
    dsimp only
    rw [unmask_get (fun x hx => by have := h x (by simp [hx]); simpa using this)]
    by_cases hk : k ∈ M
    · simp [hk]
    · by_cases e : k = m
      · subst e; simp [hk, h2, List.getElem?_eq_getElem h1]
      · rw [List.getElem?_set_ne (fun x => e x.symm)]; simp [hk, e]

theorem disjB_e {M : List Nat} : ∀ {l : List Nat}, disjB M l = true → ∀ x ∈ l, x ∉ M
  | [], _ => by simp
  | y :: ys, h => by
    simp only [disjB] at h
    split at h
    · cases h
    · rename_i he
      intro x hx
      rcases List.mem_cons.1 hx with rfl | hx
      · exact fun hm => by rw [elemB_iff.2 hm] at he; cases he
      · exact disjB_e h x hx

theorem SV.ok_of_ks {p q : Nat → Prop} : ∀ v : SV, v.ok p → (∀ x ∈ v.ks, q x) → v.ok q := by
  intro v
  refine SV.rec (motive_1 := fun v => v.ok p → (∀ x ∈ v.ks, q x) → v.ok q) (motive_2 := fun vs => okL p vs → (∀ x ∈ ksL vs, q x) → okL q vs)
    ?_ ?_ ?_ ?_ ?_ ?_ ?_ ?_ ?_ ?_ ?_ ?_ ?_ ?_ ?_ ?_ ?_ ?_ ?_ ?_ ?_ ?_ ?_ ?_ ?_ ?_ ?_ v
  case refine_26 => intro _ _; trivial
  case refine_27 =>
    intro v vs ihv ihs h hx
    exact ⟨ihv h.1 (fun x h => hx x (by simp [ksL, h])), ihs h.2 (fun x h => hx x (by simp [ksL, h]))⟩
  all_goals first
    | (intros; rename_i h hx; first | exact h | exact hx _ (by simp [SV.ks]) | trivial)
    | (intro ps ih h hx; exact ih h (by simpa [SV.ks] using hx))
    | (intro a ps ih h hx; exact ih h (by simpa [SV.ks] using hx))
theorem okL_of_ks' {p q : Nat → Prop} {vs : List SV} (h : okL p vs) (hx : ∀ x ∈ ksL vs, q x) : okL q vs := by
  have := SV.ok_of_ks (p := p) (q := q) (.agg vs) h (by simpa [SV.ks] using hx)
  exact this
theorem SV.ok_and {p q r : Nat → Prop} (hr : ∀ x, p x → q x → r x) : ∀ v : SV, v.ok p → v.ok q → v.ok r := by
  intro v
  refine SV.rec (motive_1 := fun v => v.ok p → v.ok q → v.ok r) (motive_2 := fun vs => okL p vs → okL q vs → okL r vs)
    ?_ ?_ ?_ ?_ ?_ ?_ ?_ ?_ ?_ ?_ ?_ ?_ ?_ ?_ ?_ ?_ ?_ ?_ ?_ ?_ ?_ ?_ ?_ ?_ ?_ ?_ ?_ v
  case refine_26 => intro _ _; trivial
  case refine_27 =>
    intro v vs ihv ihs h h'
    exact ⟨ihv h.1 h'.1, ihs h.2 h'.2⟩
  all_goals first
    | (intros; rename_i h h'; first | exact h | exact hr _ h h' | trivial)
    | (intro ps ih h h'; exact ih h h')
    | (intro a ps ih h h'; exact ih h h')
theorem okL_and {p q r : Nat → Prop} (hr : ∀ x, p x → q x → r x) {vs : List SV} (h : okL p vs) (h' : okL q vs) : okL r vs := SV.ok_and hr (.agg vs) h h'

theorem freeV_e {q : Nat → Prop} {M : List Nat} {v : SV} {p : Prop} (hv : v.ok q) (h : freeV M v p) : v.ok (· ∉ M) ∧ p := by
  unfold freeV at h
  split at h
  · exact ⟨SV.ok_mono (fun _ _ => by simp) v hv, h⟩
  · split at h
    · rename_i e
      exact ⟨SV.ok_of_ks v hv (disjB_e e), h⟩
    · exact h.elim
theorem freeH_e {M : List Nat} {p : Prop} : ∀ {hp : List Blk}, freeH M hp p → p ∧ ∀ (k : Nat) (el : TypeId) (ps : List SV) (q : Nat → Prop), hp[k]? = some (.mk el ps) → okL q ps → okL (· ∉ M) ps
  | [], h => ⟨h, fun k el ps q hk _ => by simp at hk⟩
  | b :: bs, h => by
    unfold freeH at h
    split at h
    · exact ⟨h, fun k el ps q hk ho => okL_mono (fun _ _ => by simp) _ ho⟩
    · split at h
      · obtain ⟨h1, h2⟩ := freeH_e h
        refine ⟨h1, fun k el ps q hk ho => ?_⟩
        cases k with
        | zero => simp at hk
        | succ k => exact h2 k el ps q (by simpa using hk) ho
      · split at h
        · rename_i el' qs e
          obtain ⟨h1, h2⟩ := freeH_e h
          refine ⟨h1, fun k el ps q hk ho => ?_⟩
          cases k with
          | zero => simp at hk; obtain ⟨rfl, rfl⟩ := hk; exact okL_of_ks' ho (disjB_e e)
          | succ k => exact h2 k el ps q (by simpa using hk) ho
        · exact h.elim

theorem freeH_imp {M : List Nat} {p q : Prop} : ∀ {hp : List Blk}, freeH M hp p → (p → q) → freeH M hp q
  | [], h, f => f h
  | b :: bs, h, f => by
    unfold freeH at h ⊢
    split
    · exact f h
    · split
      · exact freeH_imp h f
      · rename_i el qs
        dsimp only at h
        split at h
        · exact freeH_imp h f
        · exact h.elim
theorem liveK_imp {hp : List Blk} : ∀ {M : List Nat} {hp' : List Blk} {k k' : List Blk → Prop}, liveK hp M hp' k → (∀ l, k l → k' l) → liveK hp M hp' k'
  | [], _, _, _, h, f => f _ h
  | m :: M, hp', k, k', h, f => by
    have nth : ∀ {l : List Blk} {i : Nat} {g g' : Blk → Prop}, nthK l i g → (∀ b, g b → g' b) → nthK l i g' := by
      intro l
      induction l with
      | nil => intro i g g' h _; exact h
      | cons x xs ih =>
        intro i g g' h hg
        cases i with
        | zero => exact hg _ h
        | succ i => exact ih (i := i) h hg
    have set : ∀ {l : List Blk} {i : Nat} {b : Blk} {g g' : List Blk → Prop}, setK l i b g → (∀ l, g l → g' l) → setK l i b g' := by
      intro l
      induction l with
      | nil => intro i b g g' h _; exact h
      | cons x xs ih =>
        intro i b g g' h hg
        cases i with
        | zero => exact hg _ h
        | succ i => exact ih (g := fun l => g (x :: l)) (g' := fun l => g' (x :: l)) h (fun l hl => hg _ hl)
    exact nth (i := m) h fun b hb => set hb fun l hl => liveK_imp (M := M) hl f

/-! ### steps -/
section
variable {ρ : Nat → Nat} {hp : List Blk} {w : World}

theorem HpRel.sub (h : HpRel ρ hp w) {hp' : List Blk} (hs : ∀ (k : Nat) el ps, hp'[k]? = some (Blk.mk el ps) → hp[k]? = some (.mk el ps) ∧ okL (· < hp'.length) ps) : HpRel ρ hp' w :=
  ⟨fun k el ps hk => ⟨(hs k el ps hk).2, (h.mem k el ps (hs k el ps hk).1).2⟩, fun k k' el ps el' ps' h1 h2 he => h.inj k k' _ _ _ _ (hs k el ps h1).1 (hs k' el' ps' h2).1 he⟩

theorem HpRel.mask (h : HpRel ρ hp w) (M : List Nat) : HpRel ρ (mask M hp) w :=
  h.sub fun k el ps hk => by
    rw [mask_get] at hk
    exact ⟨hk.2, by rw [mask_length]; exact (h.mem k el ps hk.2).1⟩

variable {ρ0 : Nat → Nat} {hp0 : List Blk} {w0 : World}

/-- a block more, of which nothing is there yet -/
theorem Step.grow (h : Step ρ0 hp0 w0 ρ hp w) : Step ρ0 hp0 w0 ρ (hp ++ [.dead]) w := by
  have old : ∀ (k : Nat) el ps, (hp ++ [Blk.dead])[k]? = some (Blk.mk el ps) → hp[k]? = some (.mk el ps) := fun k el ps hk => by
    rcases Nat.lt_trichotomy k hp.length with hl | rfl | hl
    · rwa [List.getElem?_append_left hl] at hk
    · simp at hk
    · rw [List.getElem?_eq_none (by simp; omega)] at hk; cases hk
  refine ⟨h.rel.sub fun k el ps hk => ⟨old k el ps hk, ?_⟩, h.same, by have := h.le; simp; omega, h.ext, ?_⟩
  · exact okL_mono (fun x hx => by simp; omega) _ (h.rel.mem k el ps (old k el ps hk)).1
  · rintro b ⟨k, el, ps, hk, rfl⟩
    exact h.foot _ ⟨k, el, ps, old k el ps hk, rfl⟩

def upd (ρ : Nat → Nat) (n b : Nat) : Nat → Nat := fun k => if k = n then b else ρ k

/-- the block comes to be there -/
theorem Step.place (h : Step ρ0 hp0 w0 ρ hp w) {b : Nat} (hb : hp0.length ≤ b) (hbl : b < hp.length) (hd : ∀ el ps, hp[b]? ≠ some (.mk el ps)) {el el0 : TypeId} {ps : List SV} (hps : okL (· < hp.length) ps) (hpb : okL (· ≠ b) ps)
    (hav : ∀ (k : Nat) el ps, hp[k]? = some (Blk.mk el ps) → okL (· ≠ b) ps) {hp' : List Blk} (hl : hp'.length = hp.length)
    (hg : ∀ (k : Nat) el' qs, hp'[k]? = some (Blk.mk el' qs) → k ≠ b ∧ hp[k]? = some (.mk el' qs) ∨ k = b ∧ el' = el ∧ qs = ps) :
    Step ρ0 hp0 w0 (upd ρ b w.heap.size) hp' (w.alloc (.cells (cellsL ρ ps).toArray el0)) := by
  have hc : ∀ qs : List SV, okL (· ≠ b) qs → cellsL (upd ρ b w.heap.size) qs = cellsL ρ qs := fun qs hq =>
    cellsL_congr (p := (· ≠ b)) (fun k hk => by simp [upd, hk]) qs hq
  have hne : ∀ k, k ≠ b → upd ρ b w.heap.size k = ρ k := fun k hk => by simp [upd, hk]
  have hself : upd ρ b w.heap.size b = w.heap.size := by simp [upd]
  refine ⟨⟨?_, ?_⟩, fun k hk => by rw [hne k (by omega)]; exact h.same k hk, by rw [hl]; exact h.le, ⟨?_, ?_, h.ext.os, h.ext.out, h.ext.tape⟩, ?_⟩
  · intro k el' qs hk
    rw [hl]
    rcases hg k el' qs hk with ⟨hkb, hk'⟩ | ⟨rfl, rfl, rfl⟩
    · obtain ⟨h1, el2, fz, h2, h3⟩ := h.rel.mem k el' qs hk'
      refine ⟨h1, el2, fz, ?_, ?_⟩
      · rw [hne k hkb, hc _ (hav k el' qs hk')]
        simp only [World.alloc]
        rw [Array.getElem?_push, if_neg (Nat.ne_of_lt (h.rel.lt hk')), h2]
      · rw [hc _ (hav k el' qs hk')]; exact h3
    · refine ⟨hps, el0, (0, 0), ?_, .inl (Nat.le_refl _)⟩
      rw [hself, hc _ hpb]
      show (w.heap.push _)[w.heap.size]? = _
      simp
  · intro k k' el1 ps1 el2 ps2 h1 h2 he
    rcases hg k el1 ps1 h1 with ⟨hk, hk'⟩ | ⟨rfl, _, _⟩ <;> rcases hg k' el2 ps2 h2 with ⟨hj, hj'⟩ | ⟨rfl, _, _⟩
    · rw [hne k hk, hne k' hj] at he; exact h.rel.inj k k' _ _ _ _ hk' hj' he
    · rw [hne k hk, hself] at he; exact absurd he (Nat.ne_of_lt (h.rel.lt hk'))
    · rw [hne k' hj, hself] at he; exact absurd he.symm (Nat.ne_of_lt (h.rel.lt hj'))
    · rfl
  · show w0.heap.size ≤ (w.heap.push _).size
    rw [Array.size_push]; exact Nat.le_succ_of_le h.ext.size
  · intro x hx hn
    simp only [World.alloc]
    rw [Array.getElem?_push, if_neg (Nat.ne_of_lt (Nat.lt_of_lt_of_le hx h.ext.size))]
    exact h.ext.keep x hx hn
  · rintro x ⟨k, el', qs, hk, rfl⟩
    rcases hg k el' qs hk with ⟨hkb, hk'⟩ | ⟨rfl, _, _⟩
    · rw [hne k hkb]; exact h.foot _ ⟨k, el', qs, hk', rfl⟩
    · rw [hself]; exact .inr h.ext.size

/-- what is done without the blocks M, of which some may be there -/
theorem Step.through {M D : List Nat} (hD : ∀ x ∈ D, x ∈ M) (hM : ∀ m ∈ M, m < hp.length) (S : Step ρ0 hp0 w0 ρ (Sym.mask D hp) w) {ρ' : Nat → Nat} {hp1 : List Blk} {w' : World} (T : Step ρ (Sym.mask M hp) w ρ' hp1 w')
    {hp2 : List Blk} (hl : hp2.length = hp1.length) (hg : ∀ k : Nat, hp2[k]? = if k ∈ M then hp[k]? else hp1[k]?) : Step ρ0 hp0 w0 ρ' (Sym.mask D hp2) w' := by
  have hle : hp.length ≤ hp1.length := by have := T.le; rwa [mask_length] at this
  have hsame : ∀ k, k < hp.length → ρ' k = ρ k := fun k hk => T.same k (by rwa [mask_length])
  have kinds : ∀ (k : Nat) el ps, (Sym.mask D hp2)[k]? = some (Blk.mk el ps) → (k ∈ M ∧ k < hp.length ∧ (Sym.mask D hp)[k]? = some (.mk el ps)) ∨ (k ∉ M ∧ hp1[k]? = some (.mk el ps)) := by
    intro k el ps hk
    rw [mask_get] at hk
    obtain ⟨h1, h2⟩ := hk
    rw [hg] at h2
    by_cases hm : k ∈ M
    · rw [if_pos hm] at h2; exact .inl ⟨hm, hM k hm, mask_get.2 ⟨h1, h2⟩⟩
    · rw [if_neg hm] at h2; exact .inr ⟨hm, h2⟩
  have up : ∀ (k : Nat) el ps, (Sym.mask M hp)[k]? = some (Blk.mk el ps) → (Sym.mask D hp)[k]? = some (.mk el ps) := fun k el ps hk => by
    rw [mask_get] at hk ⊢
    exact ⟨fun h => hk.1 (hD k h), hk.2⟩
  have apart : ∀ (k : Nat) el ps (k' : Nat) el' ps', k ∈ M → (Sym.mask D hp)[k]? = some (Blk.mk el ps) → hp1[k']? = some (Blk.mk el' ps') → ρ k ≠ ρ' k' := by
    intro k el ps k' el' ps' hk h1 h2 he
    rcases T.foot (ρ' k') ⟨k', el', ps', h2, rfl⟩ with ⟨j, e, q, hj, hje⟩ | hlt
    · have : j = k := S.rel.inj j k _ _ _ _ (up j e q hj) h1 (by rw [hje, he])
      subst this
      exact (mask_get.1 hj).1 hk
    · have := S.rel.lt h1; omega
  refine ⟨⟨?_, ?_⟩, fun k hk => ?_, ?_, ?_, ?_⟩
  · intro k el ps hk
    rw [mask_length, hl]
    rcases kinds k el ps hk with ⟨hm, hkl, hk'⟩ | ⟨hm, hk'⟩
    · obtain ⟨h1, el2, fz, h2, h3⟩ := S.rel.mem k el ps hk'
      rw [mask_length] at h1
      have hc : cellsL ρ' ps = cellsL ρ ps := cellsL_congr (p := (· < hp.length)) (fun x hx => hsame x hx) ps h1
      refine ⟨okL_mono (fun x hx => Nat.lt_of_lt_of_le hx hle) _ h1, el2, fz, ?_, by rw [hc]; exact h3⟩
      rw [hsame k hkl, hc, T.ext.keep _ (S.rel.lt hk'), h2]
      rintro ⟨j, e, q, hj, hje⟩
      have : j = k := S.rel.inj j k _ _ _ _ (up j e q hj) hk' hje
      subst this
      exact (mask_get.1 hj).1 hm
    · exact T.rel.mem k el ps hk'
  · intro k k' el1 ps1 el2 ps2 h1 h2 he
    rcases kinds k el1 ps1 h1 with ⟨hm, hkl, hk'⟩ | ⟨hm, hk'⟩ <;> rcases kinds k' el2 ps2 h2 with ⟨hn, hjl, hj'⟩ | ⟨hn, hj'⟩
    · rw [hsame k hkl, hsame k' hjl] at he; exact S.rel.inj k k' _ _ _ _ hk' hj' he
    · rw [hsame k hkl] at he; exact absurd he (apart k _ _ k' _ _ hm hk' hj')
    · rw [hsame k' hjl] at he; exact absurd he.symm (apart k' _ _ k _ _ hn hj' hk')
    · exact T.rel.inj k k' _ _ _ _ hk' hj' he
  · have : k < hp.length := by have := S.le; rw [mask_length] at this; omega
    rw [hsame k this]; exact S.same k hk
  · have := S.le; rw [mask_length] at this ⊢; omega
  · refine S.ext.trans T.ext fun b hb => ?_
    obtain ⟨k, el, ps, hk, rfl⟩ := hb
    exact S.foot _ ⟨k, el, ps, up k el ps hk, rfl⟩
  · rintro b ⟨k, el, ps, hk, rfl⟩
    rcases kinds k el ps hk with ⟨hm, hkl, hk'⟩ | ⟨hm, hk'⟩
    · rw [hsame k hkl]; exact S.foot _ ⟨k, el, ps, hk', rfl⟩
    · rcases T.foot (ρ' k) ⟨k, el, ps, hk', rfl⟩ with ⟨j, e, q, hj, hje⟩ | hlt
      · rw [← hje]; exact S.foot _ ⟨j, e, q, up j e q hj, rfl⟩
      · exact .inr (Nat.le_trans S.ext.size hlt)
end
end Go.Sym
