/-
  The symbolic engine, part 20: a region whose order is drawn - what a looked-over order promises; what the engine's parts come to. No program in sight; no condition beyond each lemma's own.
-/
import Derived.Test.YtofhjelmgekofaaSymV
set_option linter.unusedSimpArgs false
set_option linter.unusedVariables false
namespace Go.Sym

section
variable {P : Program} {Γ : Ctx} {ops : Array Oper}

inductive Before (ops : Array Oper) : Nat → Nat → Prop
  | edge {e j : Nat} {o : Oper} : ops[j]? = some o → e ∈ edgesOn o → Before ops e j
  | trans {e j k : Nat} {o : Oper} : ops[j]? = some o → e ∈ edgesOn o → Before ops k e → Before ops k j

theorem edgesOn_mem {o : Oper} {e : Nat} : e ∈ edgesOn o ↔ ∃ x ∈ o.after, Region.binds .any x = true ∧ x.on = e := by
  unfold edgesOn
  simp only [List.mem_map, List.mem_filter, Array.mem_toList_iff]
  constructor
  · rintro ⟨x, ⟨h1, h2⟩, h3⟩; exact ⟨x, h1, h2, h3⟩
  · rintro ⟨x, h1, h2, h3⟩; exact ⟨x, ⟨h1, h2⟩, h3⟩

theorem Before.listed {L : Nat → Prop} (down : ∀ i o, L i → ops[i]? = some o → ∀ e ∈ edgesOn o, L e) {k j : Nat} (h : Before ops k j) : (∀ o, ops[j]? = some o → ∀ e ∈ edgesOn o, L e) → L k := by
  induction h with
  | edge ho he => exact fun hj => hj _ ho _ he
  | trans ho he _ ih => exact fun hj => ih fun o ho' => down _ o (hj _ ho _ he) ho'

theorem memS_iff {i : Nat} : ∀ {l : List PStep}, memS i l = true ↔ ∃ s ∈ l, s.i = i
  | [] => by simp [memS]
  | x :: xs => by
    simp only [memS, Bool.or_eq_true, memS_iff, List.mem_cons]
    rw [show (Nat.beq x.i i = true) = (x.i = i) from propext ⟨Nat.eq_of_beq_eq_true, fun h => by rw [h]; exact Nat.beq_refl i⟩]
    constructor
    · rintro (h | ⟨s, h1, h2⟩)
      · exact ⟨x, .inl rfl, h⟩
      · exact ⟨s, .inr h1, h2⟩
    · rintro ⟨s, rfl | h1, h2⟩
      · exact .inl h2
      · exact .inr ⟨s, h1, h2⟩

def TabOK (ops : Array Oper) (T : Table) : Prop := ∀ i k, Nat.testBit (tabOf T i) k = true → Before ops k i
theorem beforeOf_e {T : Table} (hT : TabOK ops T) {j : Nat} {o : Oper} (ho : ops[j]? = some o) {k : Nat} : ∀ {es : List Nat}, (∀ e ∈ es, e ∈ edgesOn o) → Nat.testBit (beforeOf T es) k = true → Before ops k j
  | [], _, h => by simp [beforeOf] at h
  | e :: es, he, h => by
    have h' : Nat.testBit ((1 <<< e ||| tabOf T e) ||| beforeOf T es) k = true := h
    rw [Nat.testBit_or, Nat.testBit_or, Bool.or_eq_true, Bool.or_eq_true] at h'
    rcases h' with (h1 | h1) | h1
    · rw [Nat.testBit_shiftLeft] at h1
      simp only [Bool.and_eq_true, decide_eq_true_eq] at h1
      have : k - e = 0 := by
        have := h1.2
        rw [Nat.testBit_one_eq_true_iff_self_eq_zero] at this
        exact this
      have : k = e := by omega
      subst this
      exact .edge ho (he _ (by simp))
    · exact .trans ho (he e (by simp)) (hT _ _ h1)
    · exact beforeOf_e hT ho (fun x hx => he x (by simp [hx])) h1
theorem TabOK.cons {T : Table} (hT : TabOK ops T) {j : Nat} {o : Oper} (ho : ops[j]? = some o) : TabOK ops ((j, beforeOf T (edgesOn o)) :: T) := by
  intro i k h
  simp only [tabOf] at h
  split at h
  · rename_i e
    have : j = i := by simpa using e
    subst this
    exact beforeOf_e hT ho (fun _ h => h) h
  · exact hT i k h

theorem pairsB_e {s : PStep} {o : Oper} {m : Nat} (hm : ∀ k, Nat.testBit m k = true → Before ops k s.i) : ∀ {pre : List PStep}, pairsB ops s o m pre = true → ∀ x ∈ pre,
    (x.i ∈ s.loose ∧ ∃ y, ops[x.i]? = some y ∧ y.apart ops o = true) ∨ (x.i ∉ s.loose ∧ Before ops x.i s.i)
  | [], _ => by simp
  | y :: ys, h => by
    simp only [pairsB, Bool.and_eq_true] at h
    intro x hx
    rcases List.mem_cons.1 hx with rfl | hx
    · have h1 := h.1
      split at h1
      · rename_i e
        split at h1
        · rename_i y hy; exact .inl ⟨elemB_iff.1 e, y, hy, h1⟩
        · cases h1
      · rename_i e
        exact .inr ⟨fun hl => (by rw [elemB_iff.2 hl] at e; cases e), hm _ h1⟩
    · exact pairsB_e hm h.2 x hx

structure StepOK (Γ : Ctx) (ops : Array Oper) (pre : List PStep) (s : PStep) (ss : List PStep) (o : Oper) : Prop where
  get : ops[s.i]? = some o
  new : ∀ x ∈ pre, x.i ≠ s.i
  edges : ∀ e ∈ edgesOn o, ∃ x ∈ pre, x.i = e
  pairs : ∀ x ∈ pre, (x.i ∈ s.loose ∧ ∃ y, ops[x.i]? = some y ∧ y.apart ops o = true) ∨ (x.i ∉ s.loose ∧ Before ops x.i s.i)
  forced : kindOf Γ o.op = .anchor → ∀ t ∈ ss, ∃ u, ops[t.i]? = some u ∧ ∃ e ∈ edgesOn u, ∀ x ∈ pre, x.i ≠ e
  reads : kindOf Γ o.op = .anchor → readsB ops Γ s.loose pre [o.dst] = true

theorem planB_e {pre : List PStep} {s : PStep} {ss : List PStep} {T : Table} (hT : TabOK ops T) (h : planB ops Γ pre (s :: ss) T = true) :
    ∃ o T', StepOK Γ ops pre s ss o ∧ TabOK ops T' ∧ planB ops Γ (s :: pre) ss T' = true := by
  simp only [planB] at h
  split at h
  · cases h
  · rename_i o ho
    simp only [Bool.and_eq_true, Bool.not_eq_true'] at h
    obtain ⟨⟨⟨⟨h1, h2⟩, h3⟩, h4⟩, h5⟩ := h
    have hnot : ∀ {i : Nat} {l : List PStep}, memS i l = false → ∀ x ∈ l, x.i ≠ i := fun hf x hx he => by
      rw [memS_iff.2 ⟨x, hx, he⟩] at hf; cases hf
    refine ⟨o, _, ⟨ho, hnot h1, ?_, pairsB_e (fun k hk => beforeOf_e hT ho (fun _ h => h) hk) h3, ?_, ?_⟩, hT.cons ho, h5⟩
    · intro e he
      rw [List.all_eq_true] at h2
      obtain ⟨x, hx, hxe⟩ := memS_iff.1 (h2 e he)
      exact ⟨x, hx, hxe⟩
    · intro hk t ht
      rw [hk] at h4
      simp only [Bool.and_eq_true, List.all_eq_true] at h4
      have h6 := h4.1 t ht
      split at h6
      · rename_i u hu
        rw [List.any_eq_true] at h6
        obtain ⟨e, he, hne⟩ := h6
        exact ⟨u, hu, e, he, hnot (by simpa using hne)⟩
      · cases h6
    · intro hk
      rw [hk] at h4
      simp only [Bool.and_eq_true] at h4
      exact h4.2

/-- the operations in late are taken in pre's order -/
inductive Along : List Late → List PStep → Prop
  | nil : Along [] []
  | skip {l : List Late} {pre : List PStep} {p : PStep} : Along l pre → Along l (p :: pre)
  | take {l : List Late} {pre : List PStep} {p : PStep} {x : Late} : x.i = p.i → Along l pre → Along (x :: l) (p :: pre)

theorem Along.mem {l : List Late} {pre : List PStep} (h : Along l pre) : ∀ x ∈ l, ∃ p ∈ pre, p.i = x.i := by
  induction h with
  | nil => simp
  | skip _ ih => intro x hx; obtain ⟨p, h1, h2⟩ := ih x hx; exact ⟨p, by simp [h1], h2⟩
  | take he _ ih =>
    intro x hx
    rcases List.mem_cons.1 hx with rfl | hx
    · exact ⟨_, by simp, he.symm⟩
    · obtain ⟨p, h1, h2⟩ := ih x hx; exact ⟨p, by simp [h1], h2⟩

/-- of the reads that are loose: nothing since, nor they themselves, nor ds write what they look at -/
theorem readsB_e {L : List Nat} {late : List Late} {pre : List PStep} (hal : Along late pre) : ∀ {ds : List (Option Nat)}, readsB ops Γ L pre ds = true → (∀ x ∈ late, ops[x.i]? = some x.o) →
    (∀ x ∈ late, kindOf Γ x.o.op = .read → x.i ∈ L → (∀ e, x.o.dst = some e → e ∉ x.o.looksAt ops) ∧ ∀ d ∈ ds, ∀ e, d = some e → e ∉ x.o.looksAt ops) ∧
    (late.Pairwise fun y x => kindOf Γ x.o.op = .read → x.i ∈ L → ∀ e, y.o.dst = some e → e ∉ x.o.looksAt ops) := by
  induction hal with
  | nil => intro ds _ _; simp
  | skip hal ih =>
    intro ds h hget
    simp only [readsB] at h
    split at h
    · rename_i y hy
      simp only [Bool.and_eq_true] at h
      obtain ⟨g1, g2⟩ := ih h.2 hget
      exact ⟨fun z hz hk hl => ⟨(g1 z hz hk hl).1, fun d hd => (g1 z hz hk hl).2 d (by simp [hd])⟩, g2⟩
    · cases h
  | @take l pre p x he hal ih =>
    intro ds h hget
    simp only [readsB] at h
    split at h
    · rename_i y hy
      have hxy : y = x.o := by
        have := hget x (by simp)
        rw [he, hy] at this
        exact Option.some.inj this
      subst hxy
      simp only [Bool.and_eq_true] at h
      obtain ⟨h1, h2⟩ := h
      obtain ⟨g1, g2⟩ := ih h2 (fun z hz => hget z (by simp [hz]))
      refine ⟨fun z hz hk hl => ?_, List.pairwise_cons.2 ⟨fun z hz hk hl e hd => ?_, g2⟩⟩
      · rcases List.mem_cons.1 hz with rfl | hz
        · rw [hk, elemB_iff.2 (he ▸ hl)] at h1
          simp only [List.all_eq_true] at h1
          have key : ∀ d ∈ z.o.dst :: ds, ∀ e, d = some e → e ∉ z.o.looksAt ops := fun d hd e hde => by
            have := h1 d hd
            rw [hde] at this
            simpa using this
          exact ⟨key _ (by simp), fun d hd => key d (by simp [hd])⟩
        · exact ⟨(g1 z hz hk hl).1, fun d hd => (g1 z hz hk hl).2 d (by simp [hd])⟩
      · exact (g1 z hz hk hl).2 _ (by simp) e hd
    · cases h

/-! ### the engine's parts -/
def looseL (L : List Nat) : List Late → List Nat
  | [] => []
  | x :: xs => match x.k with
    | .maker b => if elemB L x.i then b :: looseL L xs else looseL L xs
    | _ => looseL L xs
theorem looseB_e {L : List Nat} : ∀ {late : List Late} {k : List Nat → Prop}, looseB L late k → k (looseL L late)
  | [], _, h => h
  | ⟨i, o, v, kx⟩ :: xs, k, h => by
    cases kx with
    | pure => exact looseB_e (late := xs) h
    | read M => exact looseB_e (late := xs) h
    | maker b =>
      simp only [looseB] at h
      simp only [looseL]
      split at h
      · rename_i e; rw [if_pos e]; exact looseB_e (late := xs) h
      · rename_i e; rw [if_neg (by rw [e]; simp)]; exact looseB_e (late := xs) h
theorem looseL_mem {L : List Nat} {b : Nat} : ∀ {late : List Late}, b ∈ looseL L late ↔ ∃ x ∈ late, x.k = .maker b ∧ x.i ∈ L
  | [] => by simp [looseL]
  | x :: xs => by
    simp only [looseL]
    split
    · rename_i c hc
      split
      · rename_i e
        rw [elemB_iff] at e
        simp only [List.mem_cons, looseL_mem]
        constructor
        · rintro (rfl | ⟨y, h1, h2⟩)
          · exact ⟨x, .inl rfl, hc, e⟩
          · exact ⟨y, .inr h1, h2⟩
        · rintro ⟨y, rfl | h1, h2, h3⟩
          · rw [hc] at h2; cases h2; exact .inl rfl
          · exact .inr ⟨y, h1, h2, h3⟩
      · rename_i e
        rw [elemB_iff] at e
        rw [looseL_mem]
        constructor
        · rintro ⟨y, h1, h2⟩; exact ⟨y, by simp [h1], h2⟩
        · rintro ⟨y, h1, h2, h3⟩
          rcases List.mem_cons.1 h1 with rfl | h1
          · exact absurd h3 e
          · exact ⟨y, h1, h2, h3⟩
    · rename_i hc
      rw [looseL_mem]
      constructor
      · rintro ⟨y, h1, h2⟩; exact ⟨y, by simp [h1], h2⟩
      · rintro ⟨y, h1, h2, h3⟩
        rcases List.mem_cons.1 h1 with rfl | h1
        · exact absurd h2 (hc b)
        · exact ⟨y, h1, h2, h3⟩

theorem reK_e {tm : List (Nat × SV)} {hp : List Blk} {L : List Nat} : ∀ {late : List Late} {p : Prop}, reK Γ tm hp L late p →
    p ∧ ∀ x ∈ late, ∀ M, x.k = .read M → x.i ∈ L → readK Γ x.o.op tm (mask M hp) fun v => v = x.v
  | [], _, h => ⟨h, by simp⟩
  | x :: xs, p, h => by
    simp only [reK] at h
    split at h
    · rename_i M hM
      split at h
      · have h1 := deadK_e h
        obtain ⟨v, h2, h3⟩ := readK_r x.o.op tm (mask M hp) _ h1
        obtain ⟨rfl, h4⟩ := same_e h2
        obtain ⟨h5, h6⟩ := reK_e h4
        refine ⟨h5, fun y hy M' hM' hl => ?_⟩
        rcases List.mem_cons.1 hy with rfl | hy
        · rw [hM] at hM'; cases hM'; exact h3 _ rfl
        · exact h6 y hy M' hM' hl
      · rename_i e
        obtain ⟨h5, h6⟩ := reK_e h
        refine ⟨h5, fun y hy M' hM' hl => ?_⟩
        rcases List.mem_cons.1 hy with rfl | hy
        · rw [elemB_iff.2 hl] at e; cases e
        · exact h6 y hy M' hM' hl
    · rename_i hk
      obtain ⟨h5, h6⟩ := reK_e h
      refine ⟨h5, fun y hy M' hM' hl => ?_⟩
      rcases List.mem_cons.1 hy with rfl | hy
      · exact absurd hM' (hk M')
      · exact h6 y hy M' hM' hl

theorem addM_mem {b : Nat} {y : Late} : ∀ {late : List Late}, y ∈ addM b late → ∃ x ∈ late, y.i = x.i ∧ y.o = x.o ∧ y.v = x.v ∧
    ((∃ M, x.k = .read M ∧ y.k = .read (b :: M)) ∨ ((∀ M, x.k ≠ .read M) ∧ y.k = x.k))
  | [], h => by simp [addM] at h
  | x :: xs, h => by
    simp only [addM, List.mem_cons] at h
    rcases h with h | h
    · refine ⟨x, by simp, ?_⟩
      split at h
      · rename_i M hM; subst h; exact ⟨rfl, rfl, rfl, .inl ⟨M, hM, rfl⟩⟩
      · rename_i hM; subst h; exact ⟨rfl, rfl, rfl, .inr ⟨hM, rfl⟩⟩
    · obtain ⟨z, h1, h2⟩ := addM_mem h
      exact ⟨z, by simp [h1], h2⟩
theorem addM_map {b : Nat} : ∀ {late : List Late}, addM b late = late.map fun x => match x.k with | .read M => ⟨x.i, x.o, x.v, .read (b :: M)⟩ | _ => x
  | [] => rfl
  | ⟨i, o, v, kx⟩ :: xs => by cases kx <;> simp [addM, addM_map]
theorem Along.addM {b : Nat} {late : List Late} {pre : List PStep} (h : Along late pre) : Along (addM b late) pre := by
  induction h with
  | nil => exact .nil
  | skip _ ih => exact .skip ih
  | take he _ ih =>
    refine .take ?_ ih
    rw [← he]
    split <;> rfl

theorem guardK_e {o : Oper} {n : Nat} {tm : List (Nat × SV)} {yes no : Prop} (h : guardK ops.toList o tm yes no) :
    (Wants Γ ops n o tm ∧ yes) ∨ ((∀ ρ a, TmRel Γ.nt ρ n tm a → Region.wanted o (yielded ops a.tmps) = false) ∧ no) := by
  unfold guardK at h
  split at h
  · rename_i hg
    exact .inl ⟨fun ρ a _ => by simp [Region.wanted, hg], h⟩
  · rename_i j want hg
    obtain ⟨g, hj, h⟩ := nthK_e h
    split at h
    · rename_i d hd
      obtain ⟨v, hv, h⟩ := lookK_e h
      split at h
      · rename_i t
        obtain ⟨h1, h2⟩ := cond_e h
        have key : ∀ (ρ : Nat → Nat) a, TmRel Γ.nt ρ n tm a → Region.wanted o (yielded ops a.tmps) = (t == want) := fun ρ a ht => by
          have hval := (ht.val d _ hv).2
          have hj' : ops[j]? = some g := by rw [← hj]; simp
          simp only [Region.wanted, hg, yielded, hj', Option.bind_some, hd, hval, SV.den]
          cases t <;> cases want <;> rfl
        cases e : (t == want) with
        | true => exact .inl ⟨fun ρ a ht => by rw [key ρ a ht, e], h1 e⟩
        | false => exact .inr ⟨fun ρ a ht => by rw [key ρ a ht, e], h2 e⟩
      · refine .inr ⟨fun ρ a ht => ?_, h⟩
        have hval := (ht.val d _ hv).2
        have hj' : ops[j]? = some g := by rw [← hj]; simp
        simp only [Region.wanted, hg, yielded, hj', Option.bind_some, hd, hval, SV.den]
        cases want <;> rfl
      · exact h.elim
    · exact h.elim
end
end Go.Sym
