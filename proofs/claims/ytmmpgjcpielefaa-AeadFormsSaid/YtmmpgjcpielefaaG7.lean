/-
  Contracts of functions of the program, each said of symbolic values, and plain laws; no condition beyond each statement's own.
-/
import Derived.Test.YtmmpgjcpielefaaG6
set_option linter.unusedSimpArgs false
set_option linter.unusedVariables false
/-
  The symbolic engine, part 17: a region whose order is drawn - what the engine computes of it. No program in sight; no condition.
-/
namespace Go.Sym

/-- one step of the order in which the engine takes a region: the operation, and what came earlier in that order and need not have come earlier in truth -/
structure PStep where
  i : Nat
  loose : List Nat

inductive LateK where
  | pure | read (M : List Nat) | maker (b : Nat)

/-- an operation that the engine has taken -/
structure Late where
  i : Nat
  o : Oper
  v : SV
  k : LateK

def Same (v u : SV) (p : Prop) : Prop := v = u ∧ p
attribute [irreducible] Same
theorem same_i {v : SV} {p : Prop} (h : p) : Same v v p := by unfold Same; exact ⟨rfl, h⟩
theorem same_e {v u : SV} {p : Prop} (h : Same v u p) : v = u ∧ p := by unfold Same at h; exact h

/-- the blocks that need not be there -/
def looseB (L : List Nat) : List Late → (List Nat → Prop) → Prop
  | [], k => k []
  | x :: xs, k => match x.k with
    | .maker b => match elemB L x.i with | true => looseB L xs fun M => k (b :: M) | false => looseB L xs k
    | _ => looseB L xs k

def deadK : List Nat → List Blk → (List Blk → Prop) → Prop
  | [], hp, k => k hp
  | m :: M, hp, k => setK hp m .dead fun hp' => deadK M hp' k
def liveK (hp : List Blk) : List Nat → List Blk → (List Blk → Prop) → Prop
  | [], hp', k => k hp'
  | m :: M, hp', k => nthK hp m fun b => setK hp' m b fun hp'' => liveK hp M hp'' k

def disjB (M : List Nat) : List Nat → Bool
  | [] => true
  | x :: xs => match elemB M x with | true => false | false => disjB M xs
def freeV (M : List Nat) (v : SV) (p : Prop) : Prop :=
  match M with
  | [] => p
  | _ :: _ => match disjB M v.ks with | true => p | false => False
def freeH (M : List Nat) : List Blk → Prop → Prop
  | [], p => p
  | b :: bs, p => match M with
    | [] => p
    | _ :: _ => match b with
      | .dead => freeH M bs p
      | .mk _ ps => match disjB M (ksL ps) with | true => freeH M bs p | false => False

/-- the reads that need not have come: they read the same still -/
def reK (Γ : Ctx) (tm : List (Nat × SV)) (hp : List Blk) (L : List Nat) : List Late → Prop → Prop
  | [], p => p
  | x :: xs, p => match x.k with
    | .read M => match elemB L x.i with
      | true => deadK M hp fun hm => readK Γ x.o.op tm hm fun v => Same v x.v (reK Γ tm hp L xs p)
      | false => reK Γ tm hp L xs p
    | _ => reK Γ tm hp L xs p

/-- a new block, which no earlier read may see -/
def addM (b : Nat) : List Late → List Late
  | [] => []
  | x :: xs => (match x.k with | .read M => ⟨x.i, x.o, x.v, .read (b :: M)⟩ | _ => x) :: addM b xs

def guardK (all : List Oper) (o : Oper) (tm : List (Nat × SV)) (yes no : Prop) : Prop :=
  match o.guard with
  | none => yes
  | some (j, want) => nthK all j fun g => match g.dst with
    | some d => lookK tm d fun v => match v with
      | .bool t => CondVC (t == want) yes no
      | .tup _ => no
      | _ => False
    | none => False

/-- (by the list's own recursor: so that the kernel and the elaborator come to one and the same term) -/
noncomputable def vcDr (Γ : Ctx) (all : List Oper) (steps : List PStep) : List Late → List (Nat × SV) → List Blk → (St → Prop) → Prop :=
  List.rec (motive := fun _ => List Late → List (Nat × SV) → List Blk → (St → Prop) → Prop) (fun _ tm hp K => K ⟨tm, hp⟩) (fun s _ ih late tm hp K => nthK all s.i fun o => guardK all o tm
    (match kindOf Γ o.op with
      | .pure => pureK Γ o.op tm fun v => looseB s.loose late fun M => freeV M v (putK Γ.nt tm hp o.dst v fun st => match st with | ⟨tm', hp'⟩ => ih (⟨s.i, o, v, .pure⟩ :: late) tm' hp' K)
      | .read => looseB s.loose late fun M => deadK M hp fun hm => readK Γ o.op tm hm fun v => freeV M v (putK Γ.nt tm hp o.dst v fun st => match st with | ⟨tm', hp'⟩ => ih (⟨s.i, o, v, .read M⟩ :: late) tm' hp' K)
      | .maker => looseB s.loose late fun M => lenK hp fun n => makerK Γ o.op tm n fun v b => match b with
        | .mk el ps => freeV M (.agg ps) (snocK hp (.mk el ps) fun hp1 => putK Γ.nt tm hp1 o.dst v fun st => match st with | ⟨tm', hp'⟩ => ih (⟨s.i, o, v, .maker n⟩ :: addM n late) tm' hp' K)
        | .dead => False
      | .anchor => looseB s.loose late fun M => deadK M hp fun hm => anchorK Γ o.op tm hm
          (fun v hp1 => freeV M v (freeH M hp1 (liveK hp M hp1 fun hp2 => putK Γ.nt tm hp2 o.dst v fun st => match st with | ⟨tm', hp'⟩ => reK Γ tm' hp' s.loose late (ih late tm' hp' K))))
          (fun hp1 => freeH M hp1 (liveK hp M hp1 fun hp2 => match o.dst with
            | none => reK Γ tm hp2 s.loose late (ih late tm hp2 K)
            | some _ => False)))
    (putK Γ.nt tm hp o.dst (.tup []) fun st => match st with | ⟨tm', hp'⟩ => ih (⟨s.i, o, .tup [], .pure⟩ :: late) tm' hp' K)) steps
theorem vcDr_nil (Γ : Ctx) (all : List Oper) (late : List Late) (tm : List (Nat × SV)) (hp : List Blk) (K : St → Prop) : vcDr Γ all [] late tm hp K = K ⟨tm, hp⟩ := rfl
theorem vcDr_cons (Γ : Ctx) (all : List Oper) (s : PStep) (ss : List PStep) (late : List Late) (tm : List (Nat × SV)) (hp : List Blk) (K : St → Prop) : vcDr Γ all (s :: ss) late tm hp K = nthK all s.i fun o => guardK all o tm
    (match kindOf Γ o.op with
      | .pure => pureK Γ o.op tm fun v => looseB s.loose late fun M => freeV M v (putK Γ.nt tm hp o.dst v fun st => match st with | ⟨tm', hp'⟩ => vcDr Γ all ss (⟨s.i, o, v, .pure⟩ :: late) tm' hp' K)
      | .read => looseB s.loose late fun M => deadK M hp fun hm => readK Γ o.op tm hm fun v => freeV M v (putK Γ.nt tm hp o.dst v fun st => match st with | ⟨tm', hp'⟩ => vcDr Γ all ss (⟨s.i, o, v, .read M⟩ :: late) tm' hp' K)
      | .maker => looseB s.loose late fun M => lenK hp fun n => makerK Γ o.op tm n fun v b => match b with
        | .mk el ps => freeV M (.agg ps) (snocK hp (.mk el ps) fun hp1 => putK Γ.nt tm hp1 o.dst v fun st => match st with | ⟨tm', hp'⟩ => vcDr Γ all ss (⟨s.i, o, v, .maker n⟩ :: addM n late) tm' hp' K)
        | .dead => False
      | .anchor => looseB s.loose late fun M => deadK M hp fun hm => anchorK Γ o.op tm hm
          (fun v hp1 => freeV M v (freeH M hp1 (liveK hp M hp1 fun hp2 => putK Γ.nt tm hp2 o.dst v fun st => match st with | ⟨tm', hp'⟩ => reK Γ tm' hp' s.loose late (vcDr Γ all ss late tm' hp' K))))
          (fun hp1 => freeH M hp1 (liveK hp M hp1 fun hp2 => match o.dst with
            | none => reK Γ tm hp2 s.loose late (vcDr Γ all ss late tm hp2 K)
            | some _ => False)))
    (putK Γ.nt tm hp o.dst (.tup []) fun st => match st with | ⟨tm', hp'⟩ => vcDr Γ all ss (⟨s.i, o, .tup [], .pure⟩ :: late) tm' hp' K) := rfl

/-! ### the order, looked over -/
def edgesOn (o : Oper) : List Nat := (o.after.toList.filter (Region.binds .any)).map (·.on)

/-- what surely comes before the operations taken so far -/
abbrev Table := List (Nat × Nat)
def tabOf (T : Table) (i : Nat) : Nat :=
  match T with
  | [] => 0
  | (j, m) :: r => if Nat.beq j i then m else tabOf r i
def beforeOf (T : Table) : List Nat → Nat
  | [] => 0
  | e :: es => (Nat.lor (Nat.lor (Nat.shiftLeft 1 e) (tabOf T e)) (beforeOf T es))

/-- of what came earlier: it is before s in truth, or it is loose and apart -/
def pairsB (ops : Array Oper) (s : PStep) (o : Oper) (m : Nat) : List PStep → Bool
  | [] => true
  | x :: xs => (match elemB s.loose x.i with
      | true => match ops[x.i]? with | some y => y.apart ops o | none => false
      | false => Nat.testBit m x.i) && pairsB ops s o m xs

/-- a read that is loose at an anchor: nothing taken since writes what it looks at; pre: newest first -/
def readsB (ops : Array Oper) (Γ : Ctx) (L : List Nat) : List PStep → List (Option Nat) → Bool
  | [], _ => true
  | x :: xs, ds => (match ops[x.i]? with
      | some y => (match kindOf Γ y.op, elemB L x.i with
        | .read, true => (y.dst :: ds).all fun d => match d with | some d => !(y.looksAt ops).contains d | none => true
        | _, _ => true) && readsB ops Γ L xs (y.dst :: ds)
      | none => false)

def memS (i : Nat) : List PStep → Bool
  | [] => false
  | x :: xs => Nat.beq x.i i || memS i xs

def planB (ops : Array Oper) (Γ : Ctx) : List PStep → List PStep → Table → Bool
  | _, [], _ => true
  | pre, s :: ss, T => match ops[s.i]? with
    | none => false
    | some o =>
      let m := beforeOf T (edgesOn o)
      !memS s.i pre && (edgesOn o).all (fun e => memS e pre) && pairsB ops s o m pre &&
      (match kindOf Γ o.op with
        | .anchor => ss.all (fun t => match ops[t.i]? with | some u => (edgesOn u).any fun e => !memS e pre | none => false) && readsB ops Γ s.loose pre [o.dst]
        | _ => true) && planB ops Γ (s :: pre) ss ((s.i, m) :: T)

def planOK (ops : Array Oper) (Γ : Ctx) (steps : List PStep) : Bool :=
  Region.noSelect ops && (List.range ops.size).all (fun i => memS i steps) && planB ops Γ [] steps []

end Go.Sym

/-
  The symbolic engine, part 18: a region whose order is drawn - heaps some of whose blocks are not there yet. No program in sight; no condition beyond each lemma's own.
-/
namespace Go.Sym

/-- a heap without the blocks M -/
def mask : List Nat → List Blk → List Blk
  | [], hp => hp
  | m :: M, hp => mask M (hp.set m .dead)

theorem mask_length : ∀ (M : List Nat) (hp : List Blk), (mask M hp).length = hp.length
  | [], _ => rfl
  | m :: M, hp => by simp [mask, mask_length M]
theorem set_dead {hp : List Blk} {m k : Nat} {el : TypeId} {ps : List SV} : (hp.set m .dead)[k]? = some (.mk el ps) ↔ k ≠ m ∧ hp[k]? = some (.mk el ps) := by
  constructor
  · intro h
    by_cases e : m = k
    · subst e
      rw [List.getElem?_set] at h
      split at h
      · split at h <;> cases h
      · rename_i hne; exact absurd rfl hne
    · rw [List.getElem?_set_ne e] at h; exact ⟨fun x => e x.symm, h⟩
  · rintro ⟨h1, h2⟩
    rw [List.getElem?_set_ne (fun e => h1 e.symm)]; exact h2
theorem mask_get {k : Nat} {el : TypeId} {ps : List SV} : ∀ {M : List Nat} {hp : List Blk}, (mask M hp)[k]? = some (.mk el ps) ↔ k ∉ M ∧ hp[k]? = some (.mk el ps)
  | [], hp => by simp [mask]
  | m :: M, hp => by
    rw [mask, mask_get, set_dead]
    simp only [List.mem_cons, not_or]
    constructor
    · rintro ⟨h1, h2, h3⟩; exact ⟨⟨h2, h1⟩, h3⟩
    · rintro ⟨⟨h1, h2⟩, h3⟩; exact ⟨h2, h1, h3⟩

theorem deadK_e : ∀ {M : List Nat} {hp : List Blk} {k : List Blk → Prop}, deadK M hp k → k (mask M hp)
  | [], _, _, h => h
  | m :: M, hp, k, h => by
    exact deadK_e (M := M) (setK_e h).2
theorem deadK_i : ∀ {M : List Nat} {hp : List Blk} {k k' : List Blk → Prop}, deadK M hp k → k' (mask M hp) → deadK M hp k'
  | [], _, _, _, _, h => h
  | m :: M, hp, k, k', h, h' => by
    have : ∀ {l : List Blk} {n : Nat} {f f' : List Blk → Prop}, setK l n .dead f → (f (l.set n .dead) → f' (l.set n .dead)) → setK l n .dead f' := by
      intro l
      induction l with
      | nil => intro n f f' h _; exact h
      | cons x xs ih =>
        intro n f f' h hf
        cases n with
        | zero => exact hf h
        | succ n => exact ih (f := fun l => f (x :: l)) (f' := fun l => f' (x :: l)) h hf
    exact this h fun h => deadK_i h h'

/-- blocks M taken out of hp and put into hp' -/
def unmask (hp : List Blk) : List Nat → List Blk → List Blk
  | [], hp' => hp'
  | m :: M, hp' => unmask hp M (match hp[m]? with | some b => hp'.set m b | none => hp')
theorem liveK_e {hp : List Blk} : ∀ {M : List Nat} {hp' : List Blk} {k : List Blk → Prop}, liveK hp M hp' k → k (unmask hp M hp') ∧ ∀ m ∈ M, m < hp.length ∧ m < hp'.length
  | [], _, _, h => ⟨h, by simp⟩
  | m :: M, hp', k, h => by
    obtain ⟨b, h1, h2⟩ := nthK_e h
    obtain ⟨h3, h4⟩ := setK_e h2
    obtain ⟨h5, h6⟩ := liveK_e h4
    refine ⟨by rw [unmask, h1]; exact h5, fun x hx => ?_⟩
    rcases List.mem_cons.1 hx with rfl | hx
    · exact ⟨(List.getElem?_eq_some_iff.1 h1).1, h3⟩
    · have := h6 x hx; simpa using this
theorem unmask_length {hp : List Blk} : ∀ {M : List Nat} {hp' : List Blk}, (unmask hp M hp').length = hp'.length
  | [], _ => rfl
  | m :: M, hp' => by
    rw [unmask, unmask_length]
    split <;> simp
theorem unmask_get {hp : List Blk} {k : Nat} : ∀ {M : List Nat} {hp' : List Blk}, (∀ m ∈ M, m < hp.length ∧ m < hp'.length) → (unmask hp M hp')[k]? = if k ∈ M then hp[k]? else hp'[k]?
  | [], _, _ => by simp [unmask]
  | m :: M, hp', h => by
    obtain ⟨h1, h2⟩ := h m (by simp)
    rw [unmask, List.getElem?_eq_getElem h1]
    dsimp only
    rw [unmask_get (fun x hx => by have := h x (by simp [hx]); simpa using this)]
    by_cases hk : k ∈ M
    · simp [hk]
    · by_cases e : k = m
      · subst e; simp [hk, h2, List.getElem?_eq_getElem h1]
      · rw [List.getElem?_set_ne (fun x => e x.symm)]; simp [hk, e]

theorem disjB_e {M : List Nat} : ∀ {l : List Nat}, disjB M l = true → ∀ x ∈ l, x ∉ M
  | [], _ => by simp
  | y :: ys, h => by
    simp only [disjB] at h
    split at h
    · cases h
    · rename_i he
      intro x hx
      rcases List.mem_cons.1 hx with rfl | hx
      · exact fun hm => by rw [elemB_iff.2 hm] at he; cases he
      · exact disjB_e h x hx

theorem SV.ok_of_ks {p q : Nat → Prop} : ∀ v : SV, v.ok p → (∀ x ∈ v.ks, q x) → v.ok q := by
  intro v
  refine SV.rec (motive_1 := fun v => v.ok p → (∀ x ∈ v.ks, q x) → v.ok q) (motive_2 := fun vs => okL p vs → (∀ x ∈ ksL vs, q x) → okL q vs)
    ?_ ?_ ?_ ?_ ?_ ?_ ?_ ?_ ?_ ?_ ?_ ?_ ?_ ?_ ?_ ?_ ?_ ?_ ?_ ?_ ?_ ?_ ?_ ?_ ?_ ?_ ?_ v
  case refine_26 => intro _ _; trivial
  case refine_27 =>
    intro v vs ihv ihs h hx
    exact ⟨ihv h.1 (fun x h => hx x (by simp [ksL, h])), ihs h.2 (fun x h => hx x (by simp [ksL, h]))⟩
  all_goals first
    | (intros; rename_i h hx; first | exact h | exact hx _ (by simp [SV.ks]) | trivial)
    | (intro ps ih h hx; exact ih h (by simpa [SV.ks] using hx))
    | (intro a ps ih h hx; exact ih h (by simpa [SV.ks] using hx))
theorem okL_of_ks' {p q : Nat → Prop} {vs : List SV} (h : okL p vs) (hx : ∀ x ∈ ksL vs, q x) : okL q vs := by
  have := SV.ok_of_ks (p := p) (q := q) (.agg vs) h (by simpa [SV.ks] using hx)
  exact this
theorem SV.ok_and {p q r : Nat → Prop} (hr : ∀ x, p x → q x → r x) : ∀ v : SV, v.ok p → v.ok q → v.ok r := by
  intro v
  refine SV.rec (motive_1 := fun v => v.ok p → v.ok q → v.ok r) (motive_2 := fun vs => okL p vs → okL q vs → okL r vs)
    ?_ ?_ ?_ ?_ ?_ ?_ ?_ ?_ ?_ ?_ ?_ ?_ ?_ ?_ ?_ ?_ ?_ ?_ ?_ ?_ ?_ ?_ ?_ ?_ ?_ ?_ ?_ v
  case refine_26 => intro _ _; trivial
  case refine_27 =>
    intro v vs ihv ihs h h'
    exact ⟨ihv h.1 h'.1, ihs h.2 h'.2⟩
  all_goals first
    | (intros; rename_i h h'; first | exact h | exact hr _ h h' | trivial)
    | (intro ps ih h h'; exact ih h h')
    | (intro a ps ih h h'; exact ih h h')
theorem okL_and {p q r : Nat → Prop} (hr : ∀ x, p x → q x → r x) {vs : List SV} (h : okL p vs) (h' : okL q vs) : okL r vs := SV.ok_and hr (.agg vs) h h'

theorem freeV_e {q : Nat → Prop} {M : List Nat} {v : SV} {p : Prop} (hv : v.ok q) (h : freeV M v p) : v.ok (· ∉ M) ∧ p := by
  unfold freeV at h
  split at h
  · exact ⟨SV.ok_mono (fun _ _ => by simp) v hv, h⟩
  · split at h
    · rename_i e
      exact ⟨SV.ok_of_ks v hv (disjB_e e), h⟩
    · exact h.elim
theorem freeH_e {M : List Nat} {p : Prop} : ∀ {hp : List Blk}, freeH M hp p → p ∧ ∀ (k : Nat) (el : TypeId) (ps : List SV) (q : Nat → Prop), hp[k]? = some (.mk el ps) → okL q ps → okL (· ∉ M) ps
  | [], h => ⟨h, fun k el ps q hk _ => by simp at hk⟩
  | b :: bs, h => by
    unfold freeH at h
    split at h
    · exact ⟨h, fun k el ps q hk ho => okL_mono (fun _ _ => by simp) _ ho⟩
    · split at h
      · obtain ⟨h1, h2⟩ := freeH_e h
        refine ⟨h1, fun k el ps q hk ho => ?_⟩
        cases k with
        | zero => simp at hk
        | succ k => exact h2 k el ps q (by simpa using hk) ho
      · split at h
        · rename_i el' qs e
          obtain ⟨h1, h2⟩ := freeH_e h
          refine ⟨h1, fun k el ps q hk ho => ?_⟩
          cases k with
          | zero => simp at hk; obtain ⟨rfl, rfl⟩ := hk; exact okL_of_ks' ho (disjB_e e)
          | succ k => exact h2 k el ps q (by simpa using hk) ho
        · exact h.elim

theorem freeH_imp {M : List Nat} {p q : Prop} : ∀ {hp : List Blk}, freeH M hp p → (p → q) → freeH M hp q
  | [], h, f => f h
  | b :: bs, h, f => by
    unfold freeH at h ⊢
    split
    · exact f h
    · split
      · exact freeH_imp h f
      · rename_i el qs
        dsimp only at h
        split at h
        · exact freeH_imp h f
        · exact h.elim
theorem liveK_imp {hp : List Blk} : ∀ {M : List Nat} {hp' : List Blk} {k k' : List Blk → Prop}, liveK hp M hp' k → (∀ l, k l → k' l) → liveK hp M hp' k'
  | [], _, _, _, h, f => f _ h
  | m :: M, hp', k, k', h, f => by
    have nth : ∀ {l : List Blk} {i : Nat} {g g' : Blk → Prop}, nthK l i g → (∀ b, g b → g' b) → nthK l i g' := by
      intro l
      induction l with
      | nil => intro i g g' h _; exact h
      | cons x xs ih =>
        intro i g g' h hg
        cases i with
        | zero => exact hg _ h
        | succ i => exact ih (i := i) h hg
    have set : ∀ {l : List Blk} {i : Nat} {b : Blk} {g g' : List Blk → Prop}, setK l i b g → (∀ l, g l → g' l) → setK l i b g' := by
      intro l
      induction l with
      | nil => intro i b g g' h _; exact h
      | cons x xs ih =>
        intro i b g g' h hg
        cases i with
        | zero => exact hg _ h
        | succ i => exact ih (g := fun l => g (x :: l)) (g' := fun l => g' (x :: l)) h (fun l hl => hg _ hl)
    exact nth (i := m) h fun b hb => set hb fun l hl => liveK_imp (M := M) hl f

/-! ### steps -/
section
variable {ρ : Nat → Nat} {hp : List Blk} {w : World}

theorem HpRel.sub (h : HpRel ρ hp w) {hp' : List Blk} (hs : ∀ (k : Nat) el ps, hp'[k]? = some (Blk.mk el ps) → hp[k]? = some (.mk el ps) ∧ okL (· < hp'.length) ps) : HpRel ρ hp' w :=
  ⟨fun k el ps hk => ⟨(hs k el ps hk).2, (h.mem k el ps (hs k el ps hk).1).2⟩, fun k k' el ps el' ps' h1 h2 he => h.inj k k' _ _ _ _ (hs k el ps h1).1 (hs k' el' ps' h2).1 he⟩

theorem HpRel.mask (h : HpRel ρ hp w) (M : List Nat) : HpRel ρ (mask M hp) w :=
  h.sub fun k el ps hk => by
    rw [mask_get] at hk
    exact ⟨hk.2, by rw [mask_length]; exact (h.mem k el ps hk.2).1⟩

variable {ρ0 : Nat → Nat} {hp0 : List Blk} {w0 : World}

/-- a block more, of which nothing is there yet -/
theorem Step.grow (h : Step ρ0 hp0 w0 ρ hp w) : Step ρ0 hp0 w0 ρ (hp ++ [.dead]) w := by
  have old : ∀ (k : Nat) el ps, (hp ++ [Blk.dead])[k]? = some (Blk.mk el ps) → hp[k]? = some (.mk el ps) := fun k el ps hk => by
    rcases Nat.lt_trichotomy k hp.length with hl | rfl | hl
    · rwa [List.getElem?_append_left hl] at hk
    · simp at hk
    · rw [List.getElem?_eq_none (by simp; omega)] at hk; cases hk
  refine ⟨h.rel.sub fun k el ps hk => ⟨old k el ps hk, ?_⟩, h.same, by have := h.le; simp; omega, h.ext, ?_⟩
  · exact okL_mono (fun x hx => by simp; omega) _ (h.rel.mem k el ps (old k el ps hk)).1
  · rintro b ⟨k, el, ps, hk, rfl⟩
    exact h.foot _ ⟨k, el, ps, old k el ps hk, rfl⟩

def upd (ρ : Nat → Nat) (n b : Nat) : Nat → Nat := fun k => if k = n then b else ρ k

/-- the block comes to be there -/
theorem Step.place (h : Step ρ0 hp0 w0 ρ hp w) {b : Nat} (hb : hp0.length ≤ b) (hbl : b < hp.length) (hd : ∀ el ps, hp[b]? ≠ some (.mk el ps)) {el el0 : TypeId} {ps : List SV} (hps : okL (· < hp.length) ps) (hpb : okL (· ≠ b) ps)
    (hav : ∀ (k : Nat) el ps, hp[k]? = some (Blk.mk el ps) → okL (· ≠ b) ps) {hp' : List Blk} (hl : hp'.length = hp.length)
    (hg : ∀ (k : Nat) el' qs, hp'[k]? = some (Blk.mk el' qs) → k ≠ b ∧ hp[k]? = some (.mk el' qs) ∨ k = b ∧ el' = el ∧ qs = ps) :
    Step ρ0 hp0 w0 (upd ρ b w.heap.size) hp' (w.alloc (.cells (cellsL ρ ps).toArray el0)) := by
  have hc : ∀ qs : List SV, okL (· ≠ b) qs → cellsL (upd ρ b w.heap.size) qs = cellsL ρ qs := fun qs hq =>
    cellsL_congr (p := (· ≠ b)) (fun k hk => by simp [upd, hk]) qs hq
  have hne : ∀ k, k ≠ b → upd ρ b w.heap.size k = ρ k := fun k hk => by simp [upd, hk]
  have hself : upd ρ b w.heap.size b = w.heap.size := by simp [upd]
  refine ⟨⟨?_, ?_⟩, fun k hk => by rw [hne k (by omega)]; exact h.same k hk, by rw [hl]; exact h.le, ⟨?_, ?_, h.ext.os, h.ext.out, h.ext.tape⟩, ?_⟩
  · intro k el' qs hk
    rw [hl]
    rcases hg k el' qs hk with ⟨hkb, hk'⟩ | ⟨rfl, rfl, rfl⟩
    · obtain ⟨h1, el2, fz, h2, h3⟩ := h.rel.mem k el' qs hk'
      refine ⟨h1, el2, fz, ?_, ?_⟩
      · rw [hne k hkb, hc _ (hav k el' qs hk')]
        simp only [World.alloc]
        rw [Array.getElem?_push, if_neg (Nat.ne_of_lt (h.rel.lt hk')), h2]
      · rw [hc _ (hav k el' qs hk')]; exact h3
    · refine ⟨hps, el0, (0, 0), ?_, .inl (Nat.le_refl _)⟩
      rw [hself, hc _ hpb]
      show (w.heap.push _)[w.heap.size]? = _
      simp
  · intro k k' el1 ps1 el2 ps2 h1 h2 he
    rcases hg k el1 ps1 h1 with ⟨hk, hk'⟩ | ⟨rfl, _, _⟩ <;> rcases hg k' el2 ps2 h2 with ⟨hj, hj'⟩ | ⟨rfl, _, _⟩
    · rw [hne k hk, hne k' hj] at he; exact h.rel.inj k k' _ _ _ _ hk' hj' he
    · rw [hne k hk, hself] at he; exact absurd he (Nat.ne_of_lt (h.rel.lt hk'))
    · rw [hne k' hj, hself] at he; exact absurd he.symm (Nat.ne_of_lt (h.rel.lt hj'))
    · rfl
  · show w0.heap.size ≤ (w.heap.push _).size
    rw [Array.size_push]; exact Nat.le_succ_of_le h.ext.size
  · intro x hx hn
    simp only [World.alloc]
    rw [Array.getElem?_push, if_neg (Nat.ne_of_lt (Nat.lt_of_lt_of_le hx h.ext.size))]
    exact h.ext.keep x hx hn
  · rintro x ⟨k, el', qs, hk, rfl⟩
    rcases hg k el' qs hk with ⟨hkb, hk'⟩ | ⟨rfl, _, _⟩
    · rw [hne k hkb]; exact h.foot _ ⟨k, el', qs, hk', rfl⟩
    · rw [hself]; exact .inr h.ext.size

/-- what is done without the blocks M, of which some may be there -/
theorem Step.through {M D : List Nat} (hD : ∀ x ∈ D, x ∈ M) (hM : ∀ m ∈ M, m < hp.length) (S : Step ρ0 hp0 w0 ρ (Sym.mask D hp) w) {ρ' : Nat → Nat} {hp1 : List Blk} {w' : World} (T : Step ρ (Sym.mask M hp) w ρ' hp1 w')
    {hp2 : List Blk} (hl : hp2.length = hp1.length) (hg : ∀ k : Nat, hp2[k]? = if k ∈ M then hp[k]? else hp1[k]?) : Step ρ0 hp0 w0 ρ' (Sym.mask D hp2) w' := by
  have hle : hp.length ≤ hp1.length := by have := T.le; rwa [mask_length] at this
  have hsame : ∀ k, k < hp.length → ρ' k = ρ k := fun k hk => T.same k (by rwa [mask_length])
  have kinds : ∀ (k : Nat) el ps, (Sym.mask D hp2)[k]? = some (Blk.mk el ps) → (k ∈ M ∧ k < hp.length ∧ (Sym.mask D hp)[k]? = some (.mk el ps)) ∨ (k ∉ M ∧ hp1[k]? = some (.mk el ps)) := by
    intro k el ps hk
    rw [mask_get] at hk
    obtain ⟨h1, h2⟩ := hk
    rw [hg] at h2
    by_cases hm : k ∈ M
    · rw [if_pos hm] at h2; exact .inl ⟨hm, hM k hm, mask_get.2 ⟨h1, h2⟩⟩
    · rw [if_neg hm] at h2; exact .inr ⟨hm, h2⟩
  have up : ∀ (k : Nat) el ps, (Sym.mask M hp)[k]? = some (Blk.mk el ps) → (Sym.mask D hp)[k]? = some (.mk el ps) := fun k el ps hk => by
    rw [mask_get] at hk ⊢
    exact ⟨fun h => hk.1 (hD k h), hk.2⟩
  have apart : ∀ (k : Nat) el ps (k' : Nat) el' ps', k ∈ M → (Sym.mask D hp)[k]? = some (Blk.mk el ps) → hp1[k']? = some (Blk.mk el' ps') → ρ k ≠ ρ' k' := by
    intro k el ps k' el' ps' hk h1 h2 he
    rcases T.foot (ρ' k') ⟨k', el', ps', h2, rfl⟩ with ⟨j, e, q, hj, hje⟩ | hlt
    · have : j = k := S.rel.inj j k _ _ _ _ (up j e q hj) h1 (by rw [hje, he])
      subst this
      exact (mask_get.1 hj).1 hk
    · have := S.rel.lt h1; omega
  refine ⟨⟨?_, ?_⟩, fun k hk => ?_, ?_, ?_, ?_⟩
  · intro k el ps hk
    rw [mask_length, hl]
    rcases kinds k el ps hk with ⟨hm, hkl, hk'⟩ | ⟨hm, hk'⟩
    · obtain ⟨h1, el2, fz, h2, h3⟩ := S.rel.mem k el ps hk'
      rw [mask_length] at h1
      have hc : cellsL ρ' ps = cellsL ρ ps := cellsL_congr (p := (· < hp.length)) (fun x hx => hsame x hx) ps h1
      refine ⟨okL_mono (fun x hx => Nat.lt_of_lt_of_le hx hle) _ h1, el2, fz, ?_, by rw [hc]; exact h3⟩
      rw [hsame k hkl, hc, T.ext.keep _ (S.rel.lt hk'), h2]
      rintro ⟨j, e, q, hj, hje⟩
      have : j = k := S.rel.inj j k _ _ _ _ (up j e q hj) hk' hje
      subst this
      exact (mask_get.1 hj).1 hm
    · exact T.rel.mem k el ps hk'
  · intro k k' el1 ps1 el2 ps2 h1 h2 he
    rcases kinds k el1 ps1 h1 with ⟨hm, hkl, hk'⟩ | ⟨hm, hk'⟩ <;> rcases kinds k' el2 ps2 h2 with ⟨hn, hjl, hj'⟩ | ⟨hn, hj'⟩
    · rw [hsame k hkl, hsame k' hjl] at he; exact S.rel.inj k k' _ _ _ _ hk' hj' he
    · rw [hsame k hkl] at he; exact absurd he (apart k _ _ k' _ _ hm hk' hj')
    · rw [hsame k' hjl] at he; exact absurd he.symm (apart k' _ _ k _ _ hn hj' hk')
    · exact T.rel.inj k k' _ _ _ _ hk' hj' he
  · have : k < hp.length := by have := S.le; rw [mask_length] at this; omega
    rw [hsame k this]; exact S.same k hk
  · have := S.le; rw [mask_length] at this ⊢; omega
  · refine S.ext.trans T.ext fun b hb => ?_
    obtain ⟨k, el, ps, hk, rfl⟩ := hb
    exact S.foot _ ⟨k, el, ps, up k el ps hk, rfl⟩
  · rintro b ⟨k, el, ps, hk, rfl⟩
    rcases kinds k el ps hk with ⟨hm, hkl, hk'⟩ | ⟨hm, hk'⟩
    · rw [hsame k hkl]; exact S.foot _ ⟨k, el, ps, hk', rfl⟩
    · rcases T.foot (ρ' k) ⟨k, el, ps, hk', rfl⟩ with ⟨j, e, q, hj, hje⟩ | hlt
      · rw [← hje]; exact S.foot _ ⟨j, e, q, up j e q hj, rfl⟩
      · exact .inr (Nat.le_trans S.ext.size hlt)
end
end Go.Sym

/-
  The symbolic engine, part 19: a region whose order is drawn - what is known of operations that may still be to come. No program in sight; no condition beyond each lemma's own.
-/
namespace Go.Sym

section
variable {P : Program} {Γ : Ctx} {ops : Array Oper}

def TmOK (n : Nat) (tm : List (Nat × SV)) : Prop := ∀ t v, look tm t = some v → v.ok (· < n)
theorem TmRel.okay {nt n : Nat} {ρ : Nat → Nat} {tm : List (Nat × SV)} {a : Act} (h : TmRel nt ρ n tm a) : TmOK n tm := fun t v hv => (h.val t v hv).1
theorem TmOK.mono {n m : Nat} {tm : List (Nat × SV)} (h : TmOK n tm) (hm : n ≤ m) : TmOK m tm := fun t v hv => SV.ok_mono (fun _ hk => Nat.lt_of_lt_of_le hk hm) v (h t v hv)
theorem TmRel.down' {nt n m : Nat} {ρ : Nat → Nat} {tm : List (Nat × SV)} {a : Act} (h : TmRel nt ρ n tm a) (hm : n ≤ m) : TmRel nt ρ m tm a :=
  ⟨h.size, h.defers, fun t v hv => ⟨SV.ok_mono (fun _ hk => Nat.lt_of_lt_of_le hk hm) v (h.val t v hv).1, (h.val t v hv).2⟩⟩
theorem TmRel.down {nt n m : Nat} {ρ : Nat → Nat} {tm : List (Nat × SV)} {a : Act} (h : TmRel nt ρ m tm a) (hk : TmOK n tm) : TmRel nt ρ n tm a :=
  ⟨h.size, h.defers, fun t v hv => ⟨hk t v hv, (h.val t v hv).2⟩⟩
theorem TmRel.same {nt n : Nat} {ρ : Nat → Nat} {tm tm' : List (Nat × SV)} {a : Act} (h : TmRel nt ρ n tm a) (hk : ∀ t, look tm' t = look tm t) : TmRel nt ρ n tm' a :=
  ⟨h.size, h.defers, fun t v hv => h.val t v (by rw [← hk]; exact hv)⟩

def putT (tm : List (Nat × SV)) (d : Option Nat) (v : SV) : List (Nat × SV) :=
  match d with
  | some d => (d, v) :: tm
  | none => tm
theorem look_putT {tm : List (Nat × SV)} {d : Option Nat} {v : SV} {t : Nat} : look (putT tm d v) t = if d = some t then some v else look tm t := by
  cases d with
  | none => simp [putT]
  | some d => simp [putT, look]
theorem putT_same {tm tm' : List (Nat × SV)} (h : ∀ t, look tm t = look tm' t) (d : Option Nat) (v : SV) : ∀ t, look (putT tm d v) t = look (putT tm' d v) t := fun t => by
  rw [look_putT, look_putT, h]
theorem TmOK.put {n : Nat} {tm : List (Nat × SV)} (h : TmOK n tm) {d : Option Nat} {v : SV} (hv : v.ok (· < n)) : TmOK n (putT tm d v) := fun t u hu => by
  rw [look_putT] at hu
  split at hu
  · cases hu; exact hv
  · exact h t u hu
theorem TmRel.put {nt n : Nat} {ρ : Nat → Nat} {tm : List (Nat × SV)} {a : Act} (h : TmRel nt ρ n tm a) {d : Option Nat} {v : SV} (hd : ∀ x, d = some x → x < nt) (hv : v.ok (· < n)) :
    TmRel nt ρ n (putT tm d v) (a.put d (v.den ρ)) := by
  cases d with
  | none => exact h
  | some d =>
    refine ⟨by simp [Act.put, h.size], h.defers, fun t u hu => ?_⟩
    rw [look_putT] at hu
    split at hu
    · rename_i e; cases e; cases hu
      exact ⟨hv, by simp [Act.put, h.size, hd d rfl]⟩
    · rename_i e
      obtain ⟨g1, g2⟩ := h.val t u hu
      exact ⟨g1, by simp only [Act.put]; rw [Array.getElem?_setIfInBounds_ne (fun x => e (by rw [x]))]; exact g2⟩
theorem putK_e' {nt : Nat} {tm : List (Nat × SV)} {hp : List Blk} {d : Option Nat} {v : SV} {K : St → Prop} (h : putK nt tm hp d v K) : (∀ x, d = some x → x < nt) ∧ K ⟨putT tm d v, hp⟩ := by
  unfold putK at h
  split at h
  · split at h
    · rename_i d _ e
      exact ⟨fun x hx => by cases hx; exact Nat.le_of_ble_eq_true e, h⟩
    · exact h.elim
  · exact ⟨fun x hx => (by cases hx), h⟩
/-- the slot d set back to what tm says of it -/
theorem TmRel.unput {nt n : Nat} {ρ : Nat → Nat} {tm : List (Nat × SV)} {a : Act} {d : Option Nat} {v : SV} (h : TmRel nt ρ n (putT tm d v) a) (hk : TmOK n tm) : ∃ u, TmRel nt ρ n tm (a.put d u) := by
  cases d with
  | none => exact ⟨.bool true, h⟩
  | some d =>
    cases hu : look tm d with
    | none =>
      refine ⟨.bool true, by simp [Act.put, h.size], h.defers, fun t u ht => ?_⟩
      have hne : d ≠ t := fun e => by rw [← e, hu] at ht; cases ht
      refine ⟨hk t u ht, ?_⟩
      simp only [Act.put]
      rw [Array.getElem?_setIfInBounds_ne hne]
      exact (h.val t u (by rw [look_putT, if_neg (fun e => hne (Option.some.inj e))]; exact ht)).2
    | some x =>
      have hd : d < nt := by
        have := (h.val d v (by rw [look_putT, if_pos rfl])).2
        have := (Array.getElem?_eq_some_iff.1 this).1
        rwa [h.size] at this
      refine ⟨x.den ρ, by simp [Act.put, h.size], h.defers, fun t u ht => ⟨hk t u ht, ?_⟩⟩
      by_cases hne : d = t
      · subst hne
        rw [hu] at ht; cases ht
        simp [Act.put, h.size, hd]
      · simp only [Act.put]
        rw [Array.getElem?_setIfInBounds_ne hne]
        exact (h.val t u (by rw [look_putT, if_neg (fun e => hne (Option.some.inj e))]; exact ht)).2

def Wants (Γ : Ctx) (ops : Array Oper) (n : Nat) (o : Oper) (tm : List (Nat × SV)) : Prop := ∀ ρ a, TmRel Γ.nt ρ n tm a → Region.wanted o (yielded ops a.tmps) = true

/-- what is known of an operation that the engine has taken, once what it looks at stands as in tm -/
def Fact (P : Program) (Γ : Ctx) (ops : Array Oper) (hp : List Blk) (x : Late) (tm : List (Nat × SV)) : Prop :=
  match x.k with
  | .pure => ∀ ρ a, TmRel Γ.nt ρ hp.length tm a → Yields P ops x.o (x.v.den ρ) a
  | .read M => Wants Γ ops hp.length x.o tm ∧ ∀ ρ a w, TmRel Γ.nt ρ hp.length tm a → HpRel ρ (mask M hp) w → Γ.E w → (execOp a.eval x.o).run P w = .ok (.value (x.v.den ρ)) w
  | .maker b => Wants Γ ops hp.length x.o tm ∧ ∃ el ps, hp[b]? = some (.mk el ps) ∧ okL (· < hp.length) ps ∧ x.v.ok (· = b) ∧ okL (· ≠ b) ps ∧
      ∀ ρ a, TmRel Γ.nt ρ hp.length tm a → ∀ (ρ1 : Nat → Nat) w, ρ1 b = w.heap.size → (execOp a.eval x.o).run P w = .ok (.value (x.v.den ρ1)) (w.alloc (.cells (cellsL ρ ps).toArray el))

variable {hp : List Blk}

theorem Fact.same {x : Late} {tm tm' : List (Nat × SV)} (h : Fact P Γ ops hp x tm) (he : ∀ t, look tm t = look tm' t) : Fact P Γ ops hp x tm' := by
  unfold Fact Wants at *
  split
  all_goals rename_i hk; simp only [hk] at h
  · exact fun ρ a ht => h ρ a (ht.same he)
  · exact ⟨fun ρ a ht => h.1 ρ a (ht.same he), fun ρ a w ht => h.2 ρ a w (ht.same he)⟩
  · obtain ⟨h0, el, ps, h1, h2, h3, h5, h4⟩ := h
    exact ⟨fun ρ a ht => h0 ρ a (ht.same he), el, ps, h1, h2, h3, h5, fun ρ a ht => h4 ρ a (ht.same he)⟩

/-- nothing of it hangs on a slot that it does not look at -/
theorem Fact.move {x : Late} {tm tm' : List (Nat × SV)} (h : Fact P Γ ops hp x tm) (hs : ∀ cs b, x.o.op ≠ .select cs b)
    (hm : ∀ (ρ : Nat → Nat) a, TmRel Γ.nt ρ hp.length tm' a → ∃ (d : Option Nat) (u : Value), (∀ y, d = some y → y ∉ x.o.looksAt ops) ∧ TmRel Γ.nt ρ hp.length tm (a.put d u)) : Fact P Γ ops hp x tm' := by
  unfold Fact Wants at *
  have ex : ∀ (a : Act) (d : Option Nat) (u : Value), (∀ y, d = some y → y ∉ x.o.looksAt ops) → execOp (a.put d u).eval x.o = execOp a.eval x.o ∧ Region.wanted x.o (yielded ops (a.put d u).tmps) = Region.wanted x.o (yielded ops a.tmps) :=
    fun a d u hd => ⟨execOp_put x.o hs a d u hd, wanted_put x.o a d u hd⟩
  split
  all_goals rename_i hk; simp only [hk] at h
  · intro ρ a ht
    obtain ⟨d, u, hd, ht'⟩ := hm ρ a ht
    exact (h ρ _ ht').of_same (ex a d u hd).1.symm (ex a d u hd).2.symm
  · refine ⟨fun ρ a ht => ?_, fun ρ a w ht hw hE => ?_⟩
    · obtain ⟨d, u, hd, ht'⟩ := hm ρ a ht
      rw [← (ex a d u hd).2]; exact h.1 ρ _ ht'
    · obtain ⟨d, u, hd, ht'⟩ := hm ρ a ht
      rw [← (ex a d u hd).1]; exact h.2 ρ _ w ht' hw hE
  · obtain ⟨h0, el, ps, h1, h2, h3, h5, h4⟩ := h
    refine ⟨fun ρ a ht => ?_, el, ps, h1, h2, h3, h5, fun ρ a ht => ?_⟩
    · obtain ⟨d, u, hd, ht'⟩ := hm ρ a ht
      rw [← (ex a d u hd).2]; exact h0 ρ _ ht'
    · obtain ⟨d, u, hd, ht'⟩ := hm ρ a ht
      rw [← (ex a d u hd).1]; exact h4 ρ _ ht'
theorem Fact.back {x : Late} {tm : List (Nat × SV)} {d : Option Nat} {v : SV} (h : Fact P Γ ops hp x (putT tm d v)) (hs : ∀ cs b, x.o.op ≠ .select cs b) (hd : ∀ y, d = some y → y ∉ x.o.looksAt ops)
    (hn : ∀ y, d = some y → y < Γ.nt) (hv : v.ok (· < hp.length)) : Fact P Γ ops hp x tm :=
  h.move hs fun ρ _ ht => ⟨d, v.den ρ, hd, ht.put hn hv⟩
theorem Fact.forth {x : Late} {tm : List (Nat × SV)} {d : Option Nat} {v : SV} (h : Fact P Γ ops hp x tm) (hs : ∀ cs b, x.o.op ≠ .select cs b) (hd : ∀ y, d = some y → y ∉ x.o.looksAt ops)
    (hk : TmOK hp.length tm) : Fact P Γ ops hp x (putT tm d v) :=
  h.move hs fun _ _ ht => by obtain ⟨u, hu⟩ := ht.unput hk; exact ⟨d, u, hd, hu⟩

def Chain (P : Program) (Γ : Ctx) (ops : Array Oper) (hp : List Blk) : List (Nat × SV) → List Late → List (Nat × SV) → Prop
  | tm, [], tm' => ∀ t, look tm t = look tm' t
  | tm, x :: xs, tm' => Fact P Γ ops hp x tm ∧ x.v.ok (· < hp.length) ∧ (∀ d, x.o.dst = some d → d < Γ.nt) ∧ Chain P Γ ops hp (putT tm x.o.dst x.v) xs tm'

theorem Chain.same : ∀ {xs : List Late} {tm tm1 tm' : List (Nat × SV)}, Chain P Γ ops hp tm xs tm' → (∀ t, look tm t = look tm1 t) → Chain P Γ ops hp tm1 xs tm'
  | [], _, _, _, h, he => fun t => by rw [← he]; exact h t
  | _ :: _, _, _, _, ⟨h1, h2, h3, h4⟩, he => ⟨h1.same he, h2, h3, Chain.same h4 (putT_same he _ _)⟩
theorem Chain.snoc : ∀ {xs : List Late} {tm tm' : List (Nat × SV)} {x : Late}, Chain P Γ ops hp tm xs tm' → Fact P Γ ops hp x tm' → x.v.ok (· < hp.length) → (∀ d, x.o.dst = some d → d < Γ.nt) →
    Chain P Γ ops hp tm (xs ++ [x]) (putT tm' x.o.dst x.v)
  | [], _, _, _, h, hf, hv, hd => ⟨hf.same fun t => (h t).symm, hv, hd, putT_same h _ _⟩
  | _ :: _, _, _, _, ⟨h1, h2, h3, h4⟩, hf, hv, hd => ⟨h1, h2, h3, Chain.snoc h4 hf hv hd⟩
/-- what is apart from all that is still to come ahead of it may come first -/
theorem Chain.bubble (hs : ∀ (j : Nat) (o : Oper) cs b, ops[j]? = some o → o.op ≠ .select cs b) {x : Late} (hx : ops[x.i]? = some x.o) {B : List Late} : ∀ {A : List Late} {tm tm' : List (Nat × SV)}, Chain P Γ ops hp tm (A ++ x :: B) tm' → TmOK hp.length tm →
    (∀ y ∈ A, ops[y.i]? = some y.o ∧ y.o.apart ops x.o = true) → Chain P Γ ops hp tm (x :: (A ++ B)) tm'
  | [], _, _, h, _, _ => h
  | y :: A, tm, tm', ⟨h1, h2, h3, h4⟩, hk, hA => by
    obtain ⟨g1, g2, g3, g4⟩ := Chain.bubble hs hx h4 (hk.put h2) (fun z hz => hA z (by simp [hz]))
    obtain ⟨hy, hap⟩ := hA y (by simp)
    obtain ⟨p1, p2, p3⟩ := Oper.apart_spec hap
    refine ⟨g1.back (fun cs b => hs _ _ cs b hx) p1 h3 h2, g2, g3, h1.forth (fun cs b => hs _ _ cs b hy) p3 hk, h2, h3, g4.same fun t => ?_⟩
    rw [look_putT, look_putT, look_putT, look_putT]
    by_cases e1 : x.o.dst = some t
    · have : y.o.dst ≠ some t := fun e => p2 t e e1
      rw [if_pos e1, if_neg this, if_pos e1]
    · simp [e1]

/-- all of tm's later slots -/
def puts (tm : List (Nat × SV)) : List Late → List (Nat × SV)
  | [] => tm
  | x :: xs => puts (putT tm x.o.dst x.v) xs
theorem puts_same : ∀ {xs : List Late} {tm tm' : List (Nat × SV)}, (∀ t, look tm t = look tm' t) → ∀ t, look (puts tm xs) t = look (puts tm' xs) t
  | [], _, _, h => h
  | _ :: xs, _, _, h => puts_same (xs := xs) (putT_same h _ _)
theorem Chain.end_ : ∀ {xs : List Late} {tm tm' : List (Nat × SV)}, Chain P Γ ops hp tm xs tm' → ∀ t, look (puts tm xs) t = look tm' t
  | [], _, _, h => h
  | _ :: xs, _, _, ⟨_, _, _, h4⟩ => Chain.end_ (xs := xs) h4
theorem Fact.backs {hp' : List Blk} (hle : hp.length ≤ hp'.length) {x : Late} (hs : ∀ cs b, x.o.op ≠ .select cs b) : ∀ {xs : List Late} {tm tm' : List (Nat × SV)}, Chain P Γ ops hp tm xs tm' → Fact P Γ ops hp' x (puts tm xs) →
    (∀ y ∈ xs, ∀ d, y.o.dst = some d → d ∉ x.o.looksAt ops) → Fact P Γ ops hp' x tm
  | [], _, _, _, h, _ => h
  | y :: xs, tm, tm', ⟨h1, h2, h3, h4⟩, h, hd =>
    (Fact.backs hle hs h4 h (fun z hz => hd z (by simp [hz]))).back hs (hd y (by simp)) h3 (SV.ok_mono (fun _ hk => Nat.lt_of_lt_of_le hk hle) _ h2)

/-- a later heap, in which what is still to be made stands as it did: all but the reads -/
theorem Fact.later {hp' : List Blk} (hle : hp.length ≤ hp'.length) {x : Late} {tm : List (Nat × SV)} (h : Fact P Γ ops hp x tm) (hk : TmOK hp.length tm)
    (hb : ∀ b, x.k = .maker b → hp'[b]? = hp[b]?)
    (hr : ∀ M, x.k = .read M → ∀ ρ a w, TmRel Γ.nt ρ hp'.length tm a → HpRel ρ (mask M hp') w → Γ.E w → (execOp a.eval x.o).run P w = .ok (.value (x.v.den ρ)) w) : Fact P Γ ops hp' x tm := by
  unfold Fact Wants at *
  split
  all_goals rename_i hk'; simp only [hk'] at h
  · exact fun ρ a ht => h ρ a (ht.down hk)
  · exact ⟨fun ρ a ht => h.1 ρ a (ht.down hk), hr _ hk'⟩
  · obtain ⟨h0, el, ps, h1, h2, h3, h5, h4⟩ := h
    exact ⟨fun ρ a ht => h0 ρ a (ht.down hk), el, ps, by rw [hb _ hk', h1], okL_mono (fun _ h => Nat.lt_of_lt_of_le h hle) _ h2, h3, h5, fun ρ a ht => h4 ρ a (ht.down hk)⟩

/-- behind an anchor, which put v into d -/
theorem Chain.anchor (hs : ∀ (j : Nat) (o : Oper) cs b, ops[j]? = some o → o.op ≠ .select cs b) {hp' : List Blk} (hle : hp.length ≤ hp'.length) {d : Option Nat} {v : SV} {o : Oper} (hd : o.dst = d) (hn : ∀ y, d = some y → y < Γ.nt) (hv : v.ok (· < hp'.length)) :
    ∀ {xs : List Late} {tm tm' : List (Nat × SV)}, Chain P Γ ops hp tm xs tm' → TmOK hp.length tm → (∀ x ∈ xs, ops[x.i]? = some x.o ∧ x.o.apart ops o = true) →
    (∀ x ∈ xs, ∀ b, x.k = .maker b → hp'[b]? = hp[b]?) →
    (∀ x ∈ xs, ∀ M, x.k = .read M → ∀ ρ a w, TmRel Γ.nt ρ hp'.length (putT tm' d v) a → HpRel ρ (mask M hp') w → Γ.E w → (execOp a.eval x.o).run P w = .ok (.value (x.v.den ρ)) w) →
    (xs.Pairwise fun x y => ∀ M, x.k = .read M → ∀ e, y.o.dst = some e → e ∉ x.o.looksAt ops) →
    (∀ x ∈ xs, ∀ M, x.k = .read M → (∀ e, x.o.dst = some e → e ∉ x.o.looksAt ops)) →
    Chain P Γ ops hp' (putT tm d v) xs (putT tm' d v)
  | [], _, _, h, _, _, _, _, _, _ => putT_same h _ _
  | x :: xs, tm, tm', h, hk, hap, hb, hr, hpw, hself => by
    obtain ⟨h1, h2, h3, h4⟩ := h
    obtain ⟨hx, hxa⟩ := hap x (by simp)
    obtain ⟨p1, p2, p3⟩ := Oper.apart_spec hxa
    have hsx : ∀ cs b, x.o.op ≠ .select cs b := fun cs b => hs _ _ cs b hx
    have hk' : TmOK hp'.length tm := hk.mono hle
    have h2' : x.v.ok (· < hp'.length) := SV.ok_mono (fun _ hk => Nat.lt_of_lt_of_le hk hle) _ h2
    have f : Fact P Γ ops hp' x tm := by
      refine h1.later hle hk (hb x (by simp)) fun M hM => ?_
      -- the read, taken again at the end, and brought back
      have hr0 := hr x (by simp) M hM
      let x' : Late := ⟨x.i, { x.o with guard := none }, x.v, .read M⟩
      have la : ∀ y, y ∈ x'.o.looksAt ops → y ∈ x.o.looksAt ops := fun y hy => by
        simp only [x', Oper.looksAt, List.append_nil, List.mem_append] at hy ⊢
        exact .inl hy
      have ex : ∀ a : Act, execOp a.eval x'.o = execOp a.eval x.o := fun a => by
        simp only [x']
        obtain ⟨dst, op, type, pos, after, guard⟩ := x.o
        cases op <;> rfl
      have f' : Fact P Γ ops hp' x' (putT tm' d v) := by
        unfold Fact
        simp only [x']
        refine ⟨fun ρ a _ => rfl, fun ρ a w ht hw hE => ?_⟩
        have := ex a
        simp only [x'] at this
        rw [this]; exact hr0 ρ a w ht hw hE
      have f'' : Fact P Γ ops hp' x' tm := by
        have g1 : Fact P Γ ops hp' x' tm' := f'.back hsx (fun y hy hl => p3 y (by rw [hd]; exact hy) (la y hl)) hn hv
        have g2 : Fact P Γ ops hp' x' (puts (putT tm x.o.dst x.v) xs) := g1.same fun t => (h4.end_ t).symm
        have g3 : Fact P Γ ops hp' x' (putT tm x.o.dst x.v) := Fact.backs (x := x') hle hsx h4 g2 (fun y hy e he hl => (List.pairwise_cons.1 hpw).1 y hy M hM e he (la e hl))
        exact g3.back hsx (fun y hy hl => hself x (by simp) M hM y hy (la y hl)) h3 h2'
      unfold Fact at f''
      simp only [x'] at f''
      intro ρ a w ht hw hE
      have := ex a
      simp only [x'] at this
      rw [← this]; exact f''.2 ρ a w ht hw hE
    refine ⟨f.forth hsx (fun y hy => p3 y (by rw [hd]; exact hy)) hk', h2', h3, ?_⟩
    have ih := Chain.anchor hs hle hd hn hv h4 (hk.put h2) (fun y hy => hap y (by simp [hy])) (fun y hy => hb y (by simp [hy])) (fun y hy => hr y (by simp [hy])) (List.pairwise_cons.1 hpw).2 (fun y hy => hself y (by simp [hy]))
    refine ih.same fun t => ?_
    rw [look_putT, look_putT, look_putT, look_putT]
    by_cases e1 : d = some t
    · have : x.o.dst ≠ some t := fun e => p2 t e (by rw [hd]; exact e1)
      rw [if_pos e1, if_neg this, if_pos e1]
    · simp [e1]

/-- a new block -/
theorem Chain.grow {b : Blk} (hok : ∀ (k : Nat) el ps, hp[k]? = some (Blk.mk el ps) → okL (· < hp.length) ps) :
    ∀ {xs : List Late} {tm tm' : List (Nat × SV)}, Chain P Γ ops hp tm xs tm' → TmOK hp.length tm → (∀ x ∈ xs, ∀ c, x.k = .maker c → c < hp.length) → Chain P Γ ops (hp ++ [b]) tm (addM hp.length xs) tm'
  | [], _, _, h, _, _ => h
  | x :: xs, tm, tm', ⟨h1, h2, h3, h4⟩, hk, hc => by
    have hle : hp.length ≤ (hp ++ [b]).length := by simp
    have ih := Chain.grow (b := b) hok h4 (hk.put h2) (fun y hy => hc y (by simp [hy]))
    have h2' : x.v.ok (· < (hp ++ [b]).length) := SV.ok_mono (fun _ hk => Nat.lt_of_lt_of_le hk hle) _ h2
    obtain ⟨i, o, v, kx⟩ := x
    cases kx with
    | pure => exact ⟨h1.later hle hk (fun _ h => by cases h) (fun _ h => by cases h), h2', h3, ih⟩
    | maker c =>
      refine ⟨h1.later hle hk (fun b' h => ?_) (fun _ h => by cases h), h2', h3, ih⟩
      cases h
      rw [List.getElem?_append_left (hc ⟨i, o, v, .maker c⟩ (by simp) c rfl)]
    | read M =>
      refine ⟨?_, h2', h3, ih⟩
      refine ⟨fun ρ a ht => h1.1 ρ a (ht.down hk), fun ρ a w ht hw => h1.2 ρ a w (ht.down hk) (hw.sub fun k el ps hkk => ?_)⟩
      rw [mask_get] at hkk
      have hkl : k < hp.length := (List.getElem?_eq_some_iff.1 hkk.2).1
      refine ⟨mask_get.2 ⟨?_, by rw [List.getElem?_append_left hkl]; exact hkk.2⟩, by rw [mask_length]; exact hok k el ps hkk.2⟩
      simp only [List.mem_cons, not_or]
      exact ⟨Nat.ne_of_lt hkl, hkk.1⟩
end
end Go.Sym

/-
  The symbolic engine, part 20: a region whose order is drawn - what a looked-over order promises; what the engine's parts come to. No program in sight; no condition beyond each lemma's own.
-/
namespace Go.Sym

section
variable {P : Program} {Γ : Ctx} {ops : Array Oper}

inductive Before (ops : Array Oper) : Nat → Nat → Prop
  | edge {e j : Nat} {o : Oper} : ops[j]? = some o → e ∈ edgesOn o → Before ops e j
  | trans {e j k : Nat} {o : Oper} : ops[j]? = some o → e ∈ edgesOn o → Before ops k e → Before ops k j

theorem edgesOn_mem {o : Oper} {e : Nat} : e ∈ edgesOn o ↔ ∃ x ∈ o.after, Region.binds .any x = true ∧ x.on = e := by
  unfold edgesOn
  simp only [List.mem_map, List.mem_filter, Array.mem_toList_iff]
  constructor
  · rintro ⟨x, ⟨h1, h2⟩, h3⟩; exact ⟨x, h1, h2, h3⟩
  · rintro ⟨x, h1, h2, h3⟩; exact ⟨x, ⟨h1, h2⟩, h3⟩

theorem Before.listed {L : Nat → Prop} (down : ∀ i o, L i → ops[i]? = some o → ∀ e ∈ edgesOn o, L e) {k j : Nat} (h : Before ops k j) : (∀ o, ops[j]? = some o → ∀ e ∈ edgesOn o, L e) → L k := by
  induction h with
  | edge ho he => exact fun hj => hj _ ho _ he
  | trans ho he _ ih => exact fun hj => ih fun o ho' => down _ o (hj _ ho _ he) ho'

theorem memS_iff {i : Nat} : ∀ {l : List PStep}, memS i l = true ↔ ∃ s ∈ l, s.i = i
  | [] => by simp [memS]
  | x :: xs => by
    simp only [memS, Bool.or_eq_true, memS_iff, List.mem_cons]
    rw [show (Nat.beq x.i i = true) = (x.i = i) from propext ⟨Nat.eq_of_beq_eq_true, fun h => by rw [h]; exact Nat.beq_refl i⟩]
    constructor
    · rintro (h | ⟨s, h1, h2⟩)
      · exact ⟨x, .inl rfl, h⟩
      · exact ⟨s, .inr h1, h2⟩
    · rintro ⟨s, rfl | h1, h2⟩
      · exact .inl h2
      · exact .inr ⟨s, h1, h2⟩

def TabOK (ops : Array Oper) (T : Table) : Prop := ∀ i k, Nat.testBit (tabOf T i) k = true → Before ops k i
theorem beforeOf_e {T : Table} (hT : TabOK ops T) {j : Nat} {o : Oper} (ho : ops[j]? = some o) {k : Nat} : ∀ {es : List Nat}, (∀ e ∈ es, e ∈ edgesOn o) → Nat.testBit (beforeOf T es) k = true → Before ops k j
  | [], _, h => by simp [beforeOf] at h
  | e :: es, he, h => by
    have h' : Nat.testBit ((1 <<< e ||| tabOf T e) ||| beforeOf T es) k = true := h
    rw [Nat.testBit_or, Nat.testBit_or, Bool.or_eq_true, Bool.or_eq_true] at h'
    rcases h' with (h1 | h1) | h1
    · rw [Nat.testBit_shiftLeft] at h1
      simp only [Bool.and_eq_true, decide_eq_true_eq] at h1
      have : k - e = 0 := by
        have := h1.2
        rw [Nat.testBit_one_eq_true_iff_self_eq_zero] at this
        exact this
      have : k = e := by omega
      subst this
      exact .edge ho (he _ (by simp))
    · exact .trans ho (he e (by simp)) (hT _ _ h1)
    · exact beforeOf_e hT ho (fun x hx => he x (by simp [hx])) h1
theorem TabOK.cons {T : Table} (hT : TabOK ops T) {j : Nat} {o : Oper} (ho : ops[j]? = some o) : TabOK ops ((j, beforeOf T (edgesOn o)) :: T) := by
  intro i k h
  simp only [tabOf] at h
  split at h
  · rename_i e
    have : j = i := by simpa using e
    subst this
    exact beforeOf_e hT ho (fun _ h => h) h
  · exact hT i k h

theorem pairsB_e {s : PStep} {o : Oper} {m : Nat} (hm : ∀ k, Nat.testBit m k = true → Before ops k s.i) : ∀ {pre : List PStep}, pairsB ops s o m pre = true → ∀ x ∈ pre,
    (x.i ∈ s.loose ∧ ∃ y, ops[x.i]? = some y ∧ y.apart ops o = true) ∨ (x.i ∉ s.loose ∧ Before ops x.i s.i)
  | [], _ => by simp
  | y :: ys, h => by
    simp only [pairsB, Bool.and_eq_true] at h
    intro x hx
    rcases List.mem_cons.1 hx with rfl | hx
    · have h1 := h.1
      split at h1
      · rename_i e
        split at h1
        · rename_i y hy; exact .inl ⟨elemB_iff.1 e, y, hy, h1⟩
        · cases h1
      · rename_i e
        exact .inr ⟨fun hl => (by rw [elemB_iff.2 hl] at e; cases e), hm _ h1⟩
    · exact pairsB_e hm h.2 x hx

structure StepOK (Γ : Ctx) (ops : Array Oper) (pre : List PStep) (s : PStep) (ss : List PStep) (o : Oper) : Prop where
  get : ops[s.i]? = some o
  new : ∀ x ∈ pre, x.i ≠ s.i
  edges : ∀ e ∈ edgesOn o, ∃ x ∈ pre, x.i = e
  pairs : ∀ x ∈ pre, (x.i ∈ s.loose ∧ ∃ y, ops[x.i]? = some y ∧ y.apart ops o = true) ∨ (x.i ∉ s.loose ∧ Before ops x.i s.i)
  forced : kindOf Γ o.op = .anchor → ∀ t ∈ ss, ∃ u, ops[t.i]? = some u ∧ ∃ e ∈ edgesOn u, ∀ x ∈ pre, x.i ≠ e
  reads : kindOf Γ o.op = .anchor → readsB ops Γ s.loose pre [o.dst] = true

theorem planB_e {pre : List PStep} {s : PStep} {ss : List PStep} {T : Table} (hT : TabOK ops T) (h : planB ops Γ pre (s :: ss) T = true) :
    ∃ o T', StepOK Γ ops pre s ss o ∧ TabOK ops T' ∧ planB ops Γ (s :: pre) ss T' = true := by
  simp only [planB] at h
  split at h
  · cases h
  · rename_i o ho
    simp only [Bool.and_eq_true, Bool.not_eq_true'] at h
    obtain ⟨⟨⟨⟨h1, h2⟩, h3⟩, h4⟩, h5⟩ := h
    have hnot : ∀ {i : Nat} {l : List PStep}, memS i l = false → ∀ x ∈ l, x.i ≠ i := fun hf x hx he => by
      rw [memS_iff.2 ⟨x, hx, he⟩] at hf; cases hf
    refine ⟨o, _, ⟨ho, hnot h1, ?_, pairsB_e (fun k hk => beforeOf_e hT ho (fun _ h => h) hk) h3, ?_, ?_⟩, hT.cons ho, h5⟩
    · intro e he
      rw [List.all_eq_true] at h2
      obtain ⟨x, hx, hxe⟩ := memS_iff.1 (h2 e he)
      exact ⟨x, hx, hxe⟩
    · intro hk t ht
      rw [hk] at h4
      simp only [Bool.and_eq_true, List.all_eq_true] at h4
      have h6 := h4.1 t ht
      split at h6
      · rename_i u hu
        rw [List.any_eq_true] at h6
        obtain ⟨e, he, hne⟩ := h6
        exact ⟨u, hu, e, he, hnot (by simpa using hne)⟩
      · cases h6
    · intro hk
      rw [hk] at h4
      simp only [Bool.and_eq_true] at h4
      exact h4.2

/-- the operations in late are taken in pre's order -/
inductive Along : List Late → List PStep → Prop
  | nil : Along [] []
  | skip {l : List Late} {pre : List PStep} {p : PStep} : Along l pre → Along l (p :: pre)
  | take {l : List Late} {pre : List PStep} {p : PStep} {x : Late} : x.i = p.i → Along l pre → Along (x :: l) (p :: pre)

theorem Along.mem {l : List Late} {pre : List PStep} (h : Along l pre) : ∀ x ∈ l, ∃ p ∈ pre, p.i = x.i := by
  induction h with
  | nil => simp
  | skip _ ih => intro x hx; obtain ⟨p, h1, h2⟩ := ih x hx; exact ⟨p, by simp [h1], h2⟩
  | take he _ ih =>
    intro x hx
    rcases List.mem_cons.1 hx with rfl | hx
    · exact ⟨_, by simp, he.symm⟩
    · obtain ⟨p, h1, h2⟩ := ih x hx; exact ⟨p, by simp [h1], h2⟩

/-- of the reads that are loose: nothing since, nor they themselves, nor ds write what they look at -/
theorem readsB_e {L : List Nat} {late : List Late} {pre : List PStep} (hal : Along late pre) : ∀ {ds : List (Option Nat)}, readsB ops Γ L pre ds = true → (∀ x ∈ late, ops[x.i]? = some x.o) →
    (∀ x ∈ late, kindOf Γ x.o.op = .read → x.i ∈ L → (∀ e, x.o.dst = some e → e ∉ x.o.looksAt ops) ∧ ∀ d ∈ ds, ∀ e, d = some e → e ∉ x.o.looksAt ops) ∧
    (late.Pairwise fun y x => kindOf Γ x.o.op = .read → x.i ∈ L → ∀ e, y.o.dst = some e → e ∉ x.o.looksAt ops) := by
  induction hal with
  | nil => intro ds _ _; simp
  | skip hal ih =>
    intro ds h hget
    simp only [readsB] at h
    split at h
    · rename_i y hy
      simp only [Bool.and_eq_true] at h
      obtain ⟨g1, g2⟩ := ih h.2 hget
      exact ⟨fun z hz hk hl => ⟨(g1 z hz hk hl).1, fun d hd => (g1 z hz hk hl).2 d (by simp [hd])⟩, g2⟩
    · cases h
  | @take l pre p x he hal ih =>
    intro ds h hget
    simp only [readsB] at h
    split at h
    · rename_i y hy
      have hxy : y = x.o := by
        have := hget x (by simp)
        rw [he, hy] at this
        exact Option.some.inj this
      subst hxy
      simp only [Bool.and_eq_true] at h
      obtain ⟨h1, h2⟩ := h
      obtain ⟨g1, g2⟩ := ih h2 (fun z hz => hget z (by simp [hz]))
      refine ⟨fun z hz hk hl => ?_, List.pairwise_cons.2 ⟨fun z hz hk hl e hd => ?_, g2⟩⟩
      · rcases List.mem_cons.1 hz with rfl | hz
        · rw [hk, elemB_iff.2 (he ▸ hl)] at h1
          simp only [List.all_eq_true] at h1
          have key : ∀ d ∈ z.o.dst :: ds, ∀ e, d = some e → e ∉ z.o.looksAt ops := fun d hd e hde => by
            have := h1 d hd
            rw [hde] at this
            simpa using this
          exact ⟨key _ (by simp), fun d hd => key d (by simp [hd])⟩
        · exact ⟨(g1 z hz hk hl).1, fun d hd => (g1 z hz hk hl).2 d (by simp [hd])⟩
      · exact (g1 z hz hk hl).2 _ (by simp) e hd
    · cases h

/-! ### the engine's parts -/
def looseL (L : List Nat) : List Late → List Nat
  | [] => []
  | x :: xs => match x.k with
    | .maker b => if elemB L x.i then b :: looseL L xs else looseL L xs
    | _ => looseL L xs
theorem looseB_e {L : List Nat} : ∀ {late : List Late} {k : List Nat → Prop}, looseB L late k → k (looseL L late)
  | [], _, h => h
  | ⟨i, o, v, kx⟩ :: xs, k, h => by
    cases kx with
    | pure => exact looseB_e (late := xs) h
    | read M => exact looseB_e (late := xs) h
    | maker b =>
      simp only [looseB] at h
      simp only [looseL]
      split at h
      · rename_i e; rw [if_pos e]; exact looseB_e (late := xs) h
      · rename_i e; rw [if_neg (by rw [e]; simp)]; exact looseB_e (late := xs) h
theorem looseL_mem {L : List Nat} {b : Nat} : ∀ {late : List Late}, b ∈ looseL L late ↔ ∃ x ∈ late, x.k = .maker b ∧ x.i ∈ L
  | [] => by simp [looseL]
  | x :: xs => by
    simp only [looseL]
    split
    · rename_i c hc
      split
      · rename_i e
        rw [elemB_iff] at e
        simp only [List.mem_cons, looseL_mem]
        constructor
        · rintro (rfl | ⟨y, h1, h2⟩)
          · exact ⟨x, .inl rfl, hc, e⟩
          · exact ⟨y, .inr h1, h2⟩
        · rintro ⟨y, rfl | h1, h2, h3⟩
          · rw [hc] at h2; cases h2; exact .inl rfl
          · exact .inr ⟨y, h1, h2, h3⟩
      · rename_i e
        rw [elemB_iff] at e
        rw [looseL_mem]
        constructor
        · rintro ⟨y, h1, h2⟩; exact ⟨y, by simp [h1], h2⟩
        · rintro ⟨y, h1, h2, h3⟩
          rcases List.mem_cons.1 h1 with rfl | h1
          · exact absurd h3 e
          · exact ⟨y, h1, h2, h3⟩
    · rename_i hc
      rw [looseL_mem]
      constructor
      · rintro ⟨y, h1, h2⟩; exact ⟨y, by simp [h1], h2⟩
      · rintro ⟨y, h1, h2, h3⟩
        rcases List.mem_cons.1 h1 with rfl | h1
        · exact absurd h2 (hc b)
        · exact ⟨y, h1, h2, h3⟩

theorem reK_e {tm : List (Nat × SV)} {hp : List Blk} {L : List Nat} : ∀ {late : List Late} {p : Prop}, reK Γ tm hp L late p →
    p ∧ ∀ x ∈ late, ∀ M, x.k = .read M → x.i ∈ L → readK Γ x.o.op tm (mask M hp) fun v => v = x.v
  | [], _, h => ⟨h, by simp⟩
  | x :: xs, p, h => by
    simp only [reK] at h
    split at h
    · rename_i M hM
      split at h
      · have h1 := deadK_e h
        obtain ⟨v, h2, h3⟩ := readK_r x.o.op tm (mask M hp) _ h1
        obtain ⟨rfl, h4⟩ := same_e h2
        obtain ⟨h5, h6⟩ := reK_e h4
        refine ⟨h5, fun y hy M' hM' hl => ?_⟩
        rcases List.mem_cons.1 hy with rfl | hy
        · rw [hM] at hM'; cases hM'; exact h3 _ rfl
        · exact h6 y hy M' hM' hl
      · rename_i e
        obtain ⟨h5, h6⟩ := reK_e h
        refine ⟨h5, fun y hy M' hM' hl => ?_⟩
        rcases List.mem_cons.1 hy with rfl | hy
        · rw [elemB_iff.2 hl] at e; cases e
        · exact h6 y hy M' hM' hl
    · rename_i hk
      obtain ⟨h5, h6⟩ := reK_e h
      refine ⟨h5, fun y hy M' hM' hl => ?_⟩
      rcases List.mem_cons.1 hy with rfl | hy
      · exact absurd hM' (hk M')
      · exact h6 y hy M' hM' hl

theorem addM_mem {b : Nat} {y : Late} : ∀ {late : List Late}, y ∈ addM b late → ∃ x ∈ late, y.i = x.i ∧ y.o = x.o ∧ y.v = x.v ∧
    ((∃ M, x.k = .read M ∧ y.k = .read (b :: M)) ∨ ((∀ M, x.k ≠ .read M) ∧ y.k = x.k))
  | [], h => by simp [addM] at h
  | x :: xs, h => by
    simp only [addM, List.mem_cons] at h
    rcases h with h | h
    · refine ⟨x, by simp, ?_⟩
      split at h
      · rename_i M hM; subst h; exact ⟨rfl, rfl, rfl, .inl ⟨M, hM, rfl⟩⟩
      · rename_i hM; subst h; exact ⟨rfl, rfl, rfl, .inr ⟨hM, rfl⟩⟩
    · obtain ⟨z, h1, h2⟩ := addM_mem h
      exact ⟨z, by simp [h1], h2⟩
theorem addM_map {b : Nat} : ∀ {late : List Late}, addM b late = late.map fun x => match x.k with | .read M => ⟨x.i, x.o, x.v, .read (b :: M)⟩ | _ => x
  | [] => rfl
  | ⟨i, o, v, kx⟩ :: xs => by cases kx <;> simp [addM, addM_map]
theorem Along.addM {b : Nat} {late : List Late} {pre : List PStep} (h : Along late pre) : Along (addM b late) pre := by
  induction h with
  | nil => exact .nil
  | skip _ ih => exact .skip ih
  | take he _ ih =>
    refine .take ?_ ih
    rw [← he]
    split <;> rfl

theorem guardK_e {o : Oper} {n : Nat} {tm : List (Nat × SV)} {yes no : Prop} (h : guardK ops.toList o tm yes no) :
    (Wants Γ ops n o tm ∧ yes) ∨ ((∀ ρ a, TmRel Γ.nt ρ n tm a → Region.wanted o (yielded ops a.tmps) = false) ∧ no) := by
  unfold guardK at h
  split at h
  · rename_i hg
    exact .inl ⟨fun ρ a _ => by simp [Region.wanted, hg], h⟩
  · rename_i j want hg
    obtain ⟨g, hj, h⟩ := nthK_e h
    split at h
    · rename_i d hd
      obtain ⟨v, hv, h⟩ := lookK_e h
      split at h
      · rename_i t
        obtain ⟨h1, h2⟩ := cond_e h
        have key : ∀ (ρ : Nat → Nat) a, TmRel Γ.nt ρ n tm a → Region.wanted o (yielded ops a.tmps) = (t == want) := fun ρ a ht => by
          have hval := (ht.val d _ hv).2
          have hj' : ops[j]? = some g := by rw [← hj]; simp
          simp only [Region.wanted, hg, yielded, hj', Option.bind_some, hd, hval, SV.den]
          cases t <;> cases want <;> rfl
        cases e : (t == want) with
        | true => exact .inl ⟨fun ρ a ht => by rw [key ρ a ht, e], h1 e⟩
        | false => exact .inr ⟨fun ρ a ht => by rw [key ρ a ht, e], h2 e⟩
      · refine .inr ⟨fun ρ a ht => ?_, h⟩
        have hval := (ht.val d _ hv).2
        have hj' : ops[j]? = some g := by rw [← hj]; simp
        simp only [Region.wanted, hg, yielded, hj', Option.bind_some, hd, hval, SV.den]
        cases want <;> rfl
      · exact h.elim
    · exact h.elim
end
end Go.Sym

/-
  The symbolic engine, part 21: a region whose order is drawn does what the engine says. No program in sight; no condition beyond each lemma's own.
-/
namespace Go.Sym

section
variable {P : Program} {Γ : Ctx} {ops : Array Oper} {Q : Exit → Act → World → Prop} {K : St → Prop} {ρ0 : Nat → Nat} {hp0 : List Blk} {w0 : World}

def pend (listed : Array Bool) (late : List Late) : List Late := (late.filter fun x => !listed.getD x.i false).reverse
def pendB : List Late → List Nat
  | [] => []
  | x :: xs => match x.k with
    | .maker b => b :: pendB xs
    | _ => pendB xs
theorem pendB_mem {b : Nat} : ∀ {xs : List Late}, b ∈ pendB xs ↔ ∃ x ∈ xs, x.k = .maker b
  | [] => by simp [pendB]
  | ⟨i, o, v, kx⟩ :: xs => by cases kx <;> simp [pendB, pendB_mem, eq_comm]
theorem pend_mem {listed : Array Bool} {late : List Late} {x : Late} : x ∈ pend listed late ↔ x ∈ late ∧ listed.getD x.i false = false := by
  simp [pend]

theorem Step.sub {ρ : Nat → Nat} {hp hp' : List Blk} {w : World} (h : Step ρ0 hp0 w0 ρ hp w) (hl : hp'.length = hp.length) (hs : ∀ (k : Nat) el ps, hp'[k]? = some (Blk.mk el ps) → hp[k]? = some (.mk el ps)) : Step ρ0 hp0 w0 ρ hp' w :=
  ⟨h.rel.sub fun k el ps hk => ⟨hs k el ps hk, by rw [hl]; exact (h.rel.mem k el ps (hs k el ps hk)).1⟩, h.same, by rw [hl]; exact h.le, h.ext, fun b ⟨k, el, ps, hk, he⟩ => h.foot b ⟨k, el, ps, hs k el ps hk, he⟩⟩

structure Inv (P : Program) (Γ : Ctx) (ops : Array Oper) (K : St → Prop) (ρ0 : Nat → Nat) (hp0 : List Blk) (w0 : World) (listed : Array Bool) (a : Act) (w : World) (pre ss : List PStep) (late : List Late)
    (tm : List (Nat × SV)) (hp : List Blk) (ρ : Nat → Nat) (tmR : List (Nat × SV)) : Prop where
  size : listed.size = ops.size
  down : ∀ i o, listed.getD i false = true → ops[i]? = some o → ∀ e ∈ edgesOn o, listed.getD e false = true
  real : ∀ i, listed.getD i false = true → ∃ p ∈ pre, p.i = i
  virt : ∀ p ∈ pre, listed.getD p.i false = true ∨ ∃ x ∈ late, x.i = p.i
  get : ∀ x ∈ late, ops[x.i]? = some x.o
  along : Along late pre
  nodup : late.Pairwise fun x y => x.i ≠ y.i
  pairs : late.Pairwise fun y x => Before ops x.i y.i ∨ x.o.apart ops y.o = true
  rkind : ∀ x ∈ late, ∀ M, x.k = .read M → kindOf Γ x.o.op = .read
  rmask : ∀ x ∈ late, ∀ M, x.k = .read M → ∀ z ∈ late, ∀ b, z.k = .maker b → Before ops z.i x.i ∨ b ∈ M
  mblk : ∀ z ∈ late, ∀ b, z.k = .maker b → hp0.length ≤ b ∧ b < hp.length
  mone : ∀ y ∈ late, ∀ z ∈ late, ∀ b, y.k = .maker b → z.k = .maker b → y.i = z.i
  avoid : ∀ y ∈ pend listed late, ∀ z ∈ pend listed late, ∀ b, z.k = .maker b → y.i ≠ z.i → Before ops z.i y.i ∨
    (y.v.ok (· ≠ b) ∧ ∀ c el ps, y.k = .maker c → hp[c]? = some (.mk el ps) → okL (· ≠ b) ps)
  tmr : TmRel Γ.nt ρ hp.length tmR a
  chain : Chain P Γ ops hp tmR (pend listed late) tm
  step : Step ρ0 hp0 w0 ρ (mask (pendB (pend listed late)) hp) w
  hpok : ∀ (k : Nat) el ps, hp[k]? = some (Blk.mk el ps) → okL (· < hp.length) ps
  a1 : ∀ t v, look tmR t = some v → v.ok (· ∉ pendB (pend listed late))
  a2 : ∀ (k : Nat) el ps, k ∉ pendB (pend listed late) → hp[k]? = some (Blk.mk el ps) → okL (· ∉ pendB (pend listed late)) ps
  nsel : ∀ (j : Nat) (o : Oper) cs b, ops[j]? = some o → o.op ≠ .select cs b
  plan : ∃ T, TabOK ops T ∧ planB ops Γ pre ss T = true
  vc : vcDr Γ ops.toList ss late tm hp K

variable {listed : Array Bool} {a : Act} {w : World} {pre ss : List PStep} {s : PStep} {late : List Late} {tm : List (Nat × SV)} {hp : List Blk} {ρ : Nat → Nat} {tmR : List (Nat × SV)}

theorem chain_ok : ∀ {xs : List Late} {tm tm' : List (Nat × SV)}, Chain P Γ ops hp tm xs tm' → TmOK hp.length tm → TmOK hp.length tm' ∧ ∀ x ∈ xs, x.v.ok (· < hp.length)
  | [], _, _, h, hk => ⟨fun t v hv => hk t v (by rw [h]; exact hv), by simp⟩
  | x :: xs, _, _, ⟨_, h2, _, h4⟩, hk => by
    obtain ⟨g1, g2⟩ := chain_ok h4 (hk.put h2)
    exact ⟨g1, fun y hy => by rcases List.mem_cons.1 hy with rfl | hy; exact h2; exact g2 y hy⟩

theorem pend_cons {x : Late} (h : listed.getD x.i false = false) : pend listed (x :: late) = pend listed late ++ [x] := by
  unfold pend
  rw [List.filter_cons_of_pos (by rw [h]; rfl), List.reverse_cons]

/-- something that makes no memory, taken in thought -/
theorem Inv.absorb (I : Inv P Γ ops K ρ0 hp0 w0 listed a w pre (s :: ss) late tm hp ρ tmR) {o : Oper} {T' : Table} (S : StepOK Γ ops pre s ss o) (hT : TabOK ops T') (hpl : planB ops Γ (s :: pre) ss T' = true)
    {v : SV} {k : LateK} (hk : ∀ b, k ≠ .maker b) (hkr : ∀ M, k = .read M → kindOf Γ o.op = .read ∧ M = looseL s.loose late) (hf : Fact P Γ ops hp ⟨s.i, o, v, k⟩ tm) (hv : v.ok (· < hp.length)) (hav : v.ok (· ∉ looseL s.loose late))
    (hd : ∀ d, o.dst = some d → d < Γ.nt) (hvc : vcDr Γ ops.toList ss (⟨s.i, o, v, k⟩ :: late) (putT tm o.dst v) hp K) :
    Inv P Γ ops K ρ0 hp0 w0 listed a w (s :: pre) ss (⟨s.i, o, v, k⟩ :: late) (putT tm o.dst v) hp ρ tmR := by
  have hun : listed.getD s.i false = false := by
    cases h : listed.getD s.i false with
    | false => rfl
    | true => obtain ⟨p, hp, he⟩ := I.real _ h; exact absurd he (S.new p hp)
  have hne : ∀ x ∈ late, x.i ≠ s.i := fun x hx => by obtain ⟨p, h1, h2⟩ := I.along.mem x hx; rw [← h2]; exact S.new p h1
  have hlo : ∀ x ∈ late, (x.i ∈ s.loose ∧ x.o.apart ops o = true) ∨ (x.i ∉ s.loose ∧ Before ops x.i s.i) := fun x hx => by
    obtain ⟨p, h1, h2⟩ := I.along.mem x hx
    rcases S.pairs p h1 with ⟨g1, y, g2, g3⟩ | ⟨g1, g2⟩
    · rw [h2] at g1 g2
      rw [I.get x hx] at g2
      cases g2
      exact .inl ⟨g1, g3⟩
    · rw [h2] at g1 g2; exact .inr ⟨g1, g2⟩
  have hpe : pend listed (⟨s.i, o, v, k⟩ :: late) = pend listed late ++ [⟨s.i, o, v, k⟩] := pend_cons hun
  have hpb : ∀ b, b ∈ pendB (pend listed (⟨s.i, o, v, k⟩ :: late)) ↔ b ∈ pendB (pend listed late) := fun b => by
    rw [hpe, pendB_mem, pendB_mem]
    constructor
    · rintro ⟨x, hx, hxk⟩
      rcases List.mem_append.1 hx with hx | hx
      · exact ⟨x, hx, hxk⟩
      · simp at hx; subst hx; exact absurd hxk (hk b)
    · rintro ⟨x, hx, hxk⟩; exact ⟨x, by simp [hx], hxk⟩
  refine { I with
    real := fun i h => by obtain ⟨p, h1, h2⟩ := I.real i h; exact ⟨p, by simp [h1], h2⟩
    virt := fun p hp => ?_
    get := fun x hx => by rcases List.mem_cons.1 hx with rfl | hx; exact S.get; exact I.get x hx
    along := .take rfl I.along
    nodup := List.pairwise_cons.2 ⟨fun x hx => (hne x hx).symm, I.nodup⟩
    pairs := List.pairwise_cons.2 ⟨fun x hx => (hlo x hx).elim (fun h => .inr h.2) (fun h => .inl h.2), I.pairs⟩
    rkind := fun x hx M hM => by rcases List.mem_cons.1 hx with rfl | hx; exact (hkr M hM).1; exact I.rkind x hx M hM
    rmask := fun x hx M hM z hz b hb => ?_
    mblk := fun z hz b hb => by rcases List.mem_cons.1 hz with rfl | hz; exact absurd hb (hk b); exact I.mblk z hz b hb
    mone := fun y hy z hz b h1 h2 => ?_
    avoid := fun y hy z hz b hb hyz => ?_
    chain := by rw [hpe]; exact I.chain.snoc hf hv hd
    step := I.step.sub (by simp [mask_length]) fun c el ps hc => by rw [mask_get] at hc ⊢; exact ⟨fun h => hc.1 ((hpb c).2 h), hc.2⟩
    a1 := fun t u hu => SV.ok_mono (fun x hx h => hx ((hpb x).1 h)) u (I.a1 t u hu)
    a2 := fun c el ps hc hcc => okL_mono (fun x hx h => hx ((hpb x).1 h)) _ (I.a2 c el ps (fun h => hc ((hpb c).2 h)) hcc)
    plan := ⟨T', hT, hpl⟩
    vc := hvc }
  · rcases List.mem_cons.1 hp with rfl | hp
    · exact .inr ⟨_, List.mem_cons_self, rfl⟩
    · rcases I.virt p hp with h | ⟨x, h1, h2⟩
      · exact .inl h
      · exact .inr ⟨x, by simp [h1], h2⟩
  · rcases List.mem_cons.1 hz with rfl | hz
    · exact absurd hb (hk b)
    · rcases List.mem_cons.1 hx with rfl | hx
      · obtain ⟨_, rfl⟩ := hkr M hM
        rcases hlo z hz with ⟨g1, _⟩ | ⟨_, g2⟩
        · exact .inr (looseL_mem.2 ⟨z, hz, hb, g1⟩)
        · exact .inl g2
      · exact I.rmask x hx M hM z hz b hb
  · rcases List.mem_cons.1 hy with rfl | hy
    · exact absurd h1 (hk b)
    · rcases List.mem_cons.1 hz with rfl | hz
      · exact absurd h2 (hk b)
      · exact I.mone y hy z hz b h1 h2
  · rw [hpe] at hy hz
    rcases List.mem_append.1 hz with hz | hz
    · rcases List.mem_append.1 hy with hy | hy
      · exact I.avoid y hy z hz b hb hyz
      · simp at hy; subst hy
        have hzl := (pend_mem.1 hz).1
        rcases hlo z hzl with ⟨g1, _⟩ | ⟨_, g2⟩
        · refine .inr ⟨SV.ok_mono (fun x hx e => hx (by rw [e]; exact looseL_mem.2 ⟨z, hzl, hb, g1⟩)) v hav, fun c el ps hc => absurd hc (hk c)⟩
        · exact .inl g2
    · simp at hz; subst hz; exact absurd hb (hk b)

/-- a block made in thought -/
theorem Inv.absorbM (I : Inv P Γ ops K ρ0 hp0 w0 listed a w pre (s :: ss) late tm hp ρ tmR) {o : Oper} {T' : Table} (S : StepOK Γ ops pre s ss o) (hT : TabOK ops T') (hpl : planB ops Γ (s :: pre) ss T' = true)
    {v : SV} {el : TypeId} {ps : List SV} (hw : Wants Γ ops hp.length o tm) (hv : v.ok (· = hp.length)) (hps : okL (· < hp.length) ps)
    (hrun : ∀ ρ a, TmRel Γ.nt ρ hp.length tm a → ∀ (ρ1 : Nat → Nat) w, ρ1 hp.length = w.heap.size → (execOp a.eval o).run P w = .ok (.value (v.den ρ1)) (w.alloc (.cells (cellsL ρ ps).toArray el)))
    (hav : okL (· ∉ looseL s.loose late) ps)
    (hd : ∀ d, o.dst = some d → d < Γ.nt) (hvc : vcDr Γ ops.toList ss (⟨s.i, o, v, .maker hp.length⟩ :: addM hp.length late) (putT tm o.dst v) (hp ++ [.mk el ps]) K) :
    Inv P Γ ops K ρ0 hp0 w0 listed a w (s :: pre) ss (⟨s.i, o, v, .maker hp.length⟩ :: addM hp.length late) (putT tm o.dst v) (hp ++ [.mk el ps]) ρ tmR := by
  have hun : listed.getD s.i false = false := by
    cases h : listed.getD s.i false with
    | false => rfl
    | true => obtain ⟨p, hp, he⟩ := I.real _ h; exact absurd he (S.new p hp)
  have hne : ∀ x ∈ late, x.i ≠ s.i := fun x hx => by obtain ⟨p, h1, h2⟩ := I.along.mem x hx; rw [← h2]; exact S.new p h1
  have hlo : ∀ x ∈ late, (x.i ∈ s.loose ∧ x.o.apart ops o = true) ∨ (x.i ∉ s.loose ∧ Before ops x.i s.i) := fun x hx => by
    obtain ⟨p, h1, h2⟩ := I.along.mem x hx
    rcases S.pairs p h1 with ⟨g1, y, g2, g3⟩ | ⟨g1, g2⟩
    · rw [h2] at g1 g2
      rw [I.get x hx] at g2
      cases g2
      exact .inl ⟨g1, g3⟩
    · rw [h2] at g1 g2; exact .inr ⟨g1, g2⟩
  have hfl : ∀ l : List Late, (addM hp.length l).filter (fun x => !listed.getD x.i false) = addM hp.length (l.filter fun x => !listed.getD x.i false) := fun l => by
    induction l with
    | nil => rfl
    | cons x xs ih =>
      obtain ⟨i, o, v, kx⟩ := x
      cases kx <;> simp only [addM, List.filter_cons, ih] <;> split <;> rfl
  have hpa : pend listed (addM hp.length late) = addM hp.length (pend listed late) := by
    unfold pend
    rw [hfl, addM_map, addM_map, List.map_reverse]
  have hpe : pend listed (⟨s.i, o, v, .maker hp.length⟩ :: addM hp.length late) = addM hp.length (pend listed late) ++ [⟨s.i, o, v, .maker hp.length⟩] := by
    rw [pend_cons hun, hpa]
  have hmk : ∀ {y : Late} {l : List Late} {b : Nat}, y ∈ addM hp.length l → y.k = .maker b → ∃ x ∈ l, x.k = .maker b ∧ y.i = x.i ∧ y.v = x.v ∧ y.o = x.o := fun hy hb => by
    obtain ⟨x, h1, h2, h3, h4, h5⟩ := addM_mem hy
    rcases h5 with ⟨M, _, h6⟩ | ⟨_, h6⟩
    · rw [h6] at hb; cases hb
    · exact ⟨x, h1, by rw [← h6, hb], h2, h4, h3⟩
  have hkm : ∀ {x : Late} {l : List Late} {b : Nat}, x ∈ l → x.k = .maker b → x ∈ addM hp.length l := fun {x l b} hx hb => by
    induction l with
    | nil => cases hx
    | cons y ys ih =>
      simp only [addM, List.mem_cons]
      rcases List.mem_cons.1 hx with rfl | hx
      · left; rw [hb]
      · right; exact ih hx
  have hpb : ∀ b, b ∈ pendB (pend listed (⟨s.i, o, v, .maker hp.length⟩ :: addM hp.length late)) ↔ b ∈ pendB (pend listed late) ∨ b = hp.length := fun b => by
    rw [hpe, pendB_mem, pendB_mem]
    constructor
    · rintro ⟨x, hx, hxk⟩
      rcases List.mem_append.1 hx with hx | hx
      · obtain ⟨y, h1, h2, _⟩ := hmk hx hxk; exact .inl ⟨y, h1, h2⟩
      · simp at hx; subst hx; cases hxk; exact .inr rfl
    · rintro (⟨x, hx, hxk⟩ | rfl)
      · exact ⟨x, by simp [hkm hx hxk], hxk⟩
      · exact ⟨_, List.mem_append_right _ (List.mem_singleton.2 rfl), rfl⟩
  have hpl' : ∀ b ∈ pendB (pend listed late), b < hp.length := fun b hb => by
    obtain ⟨x, h1, h2⟩ := pendB_mem.1 hb
    exact (I.mblk x (pend_mem.1 h1).1 b h2).2
  have hlen : (hp ++ [Blk.mk el ps]).length = hp.length + 1 := by simp
  have hle : hp.length ≤ (hp ++ [Blk.mk el ps]).length := by simp
  have old : ∀ (k : Nat) el' qs, (hp ++ [Blk.mk el ps])[k]? = some (Blk.mk el' qs) → k < hp.length ∧ hp[k]? = some (.mk el' qs) ∨ k = hp.length ∧ el' = el ∧ qs = ps := fun k el' qs hk => by
    rcases Nat.lt_trichotomy k hp.length with hl | rfl | hl
    · rw [List.getElem?_append_left hl] at hk; exact .inl ⟨hl, hk⟩
    · simp at hk; exact .inr ⟨rfl, hk.1.symm, hk.2.symm⟩
    · rw [List.getElem?_eq_none (by simp; omega)] at hk; cases hk
  obtain ⟨htm, hxs⟩ := chain_ok I.chain I.tmr.okay
  have hin : ∀ {y : Late}, y ∈ addM hp.length late → ∃ x ∈ late, y.i = x.i ∧ y.o = x.o := fun hy => by obtain ⟨x, h1, h2, h3, _⟩ := addM_mem hy; exact ⟨x, h1, h2, h3⟩
  refine { I with
    real := fun i h => by obtain ⟨p, h1, h2⟩ := I.real i h; exact ⟨p, by simp [h1], h2⟩
    virt := fun p hp => ?_
    get := fun x hx => by
      rcases List.mem_cons.1 hx with rfl | hx
      · exact S.get
      · obtain ⟨y, h1, h2, h3⟩ := hin hx; rw [h2, h3]; exact I.get y h1
    along := .take rfl I.along.addM
    nodup := List.pairwise_cons.2 ⟨fun x hx => by obtain ⟨y, h1, h2, _⟩ := hin hx; rw [h2]; exact (hne y h1).symm, ?_⟩
    pairs := List.pairwise_cons.2 ⟨fun x hx => by obtain ⟨y, h1, h2, h3⟩ := hin hx; rw [h2, h3]; exact (hlo y h1).elim (fun h => .inr h.2) (fun h => .inl h.2), ?_⟩
    rkind := fun x hx M hM => ?_
    rmask := fun x hx M hM z hz b hb => ?_
    mblk := fun z hz b hb => ?_
    mone := fun y hy z hz b h1 h2 => ?_
    avoid := fun y hy z hz b hb hyz => ?_
    tmr := I.tmr.down' hle
    chain := by
      rw [hpe]
      exact (I.chain.grow I.hpok I.tmr.okay fun x hx c hc => (I.mblk x (pend_mem.1 hx).1 c hc).2).snoc ⟨fun ρ a ht => hw ρ a (ht.down htm), el, ps, by simp, okL_mono (fun x hx => Nat.lt_of_lt_of_le hx hle) _ hps, hv, okL_mono (fun x hx e => by omega) _ hps, fun ρ a ht => hrun ρ a (ht.down htm)⟩
        (SV.ok_mono (fun x hx => by rw [hx, hlen]; exact Nat.lt_succ_self _) v hv) hd
    step := I.step.grow.sub (by simp [mask_length]) fun c el' qs hc => ?_
    hpok := fun k el' qs hk => ?_
    a1 := fun t u hu => SV.ok_and (fun x (h1 : x ∉ pendB (pend listed late)) (h2 : x < hp.length) h => (hpb x |>.1 h).elim h1 (fun e => by omega)) u (I.a1 t u hu) (I.tmr.okay t u hu)
    a2 := fun c el' qs hc hcc => ?_
    plan := ⟨T', hT, hpl⟩
    vc := hvc }
  · rcases List.mem_cons.1 hp with rfl | hp
    · exact .inr ⟨_, List.mem_cons_self, rfl⟩
    · rcases I.virt p hp with h | ⟨x, h1, h2⟩
      · exact .inl h
      · right
        rw [addM_map]
        refine ⟨_, List.mem_cons_of_mem _ (List.mem_map.2 ⟨x, h1, rfl⟩), ?_⟩
        rw [← h2]
        split <;> rfl
  · rw [addM_map, List.pairwise_map]
    refine I.nodup.imp fun {x y} h => ?_
    obtain ⟨i, o, v, kx⟩ := x
    obtain ⟨i', o', v', kx'⟩ := y
    cases kx <;> cases kx' <;> exact h
  · rw [addM_map, List.pairwise_map]
    refine I.pairs.imp fun {x y} h => ?_
    obtain ⟨i, o, v, kx⟩ := x
    obtain ⟨i', o', v', kx'⟩ := y
    cases kx <;> cases kx' <;> exact h
  · rcases List.mem_cons.1 hx with rfl | hx
    · cases hM
    · obtain ⟨y, h1, h2, h3, h4, h5⟩ := addM_mem hx
      rcases h5 with ⟨M', h6, _⟩ | ⟨h6, h7⟩
      · rw [h3]; exact I.rkind y h1 M' h6
      · rw [h7] at hM; exact absurd hM (h6 M)
  · rcases List.mem_cons.1 hx with rfl | hx
    · cases hM
    · obtain ⟨y, h1, h2, h3, h4, h5⟩ := addM_mem hx
      rcases h5 with ⟨M', h6, h7⟩ | ⟨h6, h7⟩
      · rw [h7] at hM
        cases hM
        rcases List.mem_cons.1 hz with rfl | hz
        · cases hb; exact .inr (by simp)
        · obtain ⟨z', g1, g2, g3, _⟩ := hmk hz hb
          rw [g3, h2]
          rcases I.rmask y h1 M' h6 z' g1 b g2 with h | h
          · exact .inl h
          · exact .inr (by simp [h])
      · rw [h7] at hM; exact absurd hM (h6 M)
  · rw [hlen]
    rcases List.mem_cons.1 hz with rfl | hz
    · cases hb; exact ⟨by have := I.step.le; rwa [mask_length] at this, Nat.lt_succ_self _⟩
    · obtain ⟨z', g1, g2, _⟩ := hmk hz hb
      have := I.mblk z' g1 b g2
      exact ⟨this.1, by omega⟩
  · rcases List.mem_cons.1 hy with rfl | hy
    · cases h1
      rcases List.mem_cons.1 hz with rfl | hz
      · rfl
      · obtain ⟨z', g1, g2, _⟩ := hmk hz h2
        have := (I.mblk z' g1 _ g2).2; omega
    · obtain ⟨y', f1, f2, f3, _⟩ := hmk hy h1
      rcases List.mem_cons.1 hz with rfl | hz
      · cases h2
        have := (I.mblk y' f1 _ f2).2; omega
      · obtain ⟨z', g1, g2, g3, _⟩ := hmk hz h2
        rw [f3, g3]; exact I.mone y' f1 z' g1 b f2 g2
  · rw [hpe] at hy hz
    rcases List.mem_append.1 hz with hz | hz
    · obtain ⟨z', g1, g2, g3, _⟩ := hmk hz hb
      have hzl := (pend_mem.1 g1).1
      have hbl := (I.mblk z' hzl b g2).2
      rcases List.mem_append.1 hy with hy | hy
      · obtain ⟨y', f1, f2, f3, f4, f5⟩ := addM_mem hy
        rw [f2, g3] at hyz ⊢
        rcases I.avoid y' f1 z' g1 b g2 hyz with h | ⟨h, h'⟩
        · exact .inl h
        · refine .inr ⟨by rw [f4]; exact h, fun c el' qs hc hcc => ?_⟩
          obtain ⟨y2, e1, e2, _⟩ := hmk hy hc
          have hcl := (I.mblk y2 (pend_mem.1 e1).1 c e2).2
          rw [List.getElem?_append_left hcl] at hcc
          refine h' c el' qs ?_ hcc
          rcases f5 with ⟨M, _, h6⟩ | ⟨_, h6⟩
          · rw [h6] at hc; cases hc
          · rw [← h6, hc]
      · simp at hy; subst hy
        rw [g3]
        rcases hlo z' hzl with ⟨q1, _⟩ | ⟨_, q2⟩
        · refine .inr ⟨SV.ok_mono (fun x hx e => by omega) v hv, fun c el' qs hc hcc => ?_⟩
          cases hc
          simp at hcc
          obtain ⟨_, rfl⟩ := hcc
          exact okL_mono (fun x hx e => hx (by rw [e]; exact looseL_mem.2 ⟨z', hzl, g2, q1⟩)) _ hav
        · exact .inl q2
    · simp at hz; subst hz
      cases hb
      rcases List.mem_append.1 hy with hy | hy
      · obtain ⟨y', f1, f2, f3, f4, f5⟩ := addM_mem hy
        refine .inr ⟨?_, fun c el' qs hc hcc => ?_⟩
        · rw [f4]; exact SV.ok_mono (fun x hx e => by omega) _ (hxs y' f1)
        · obtain ⟨y2, e1, e2, _⟩ := hmk hy hc
          have hcl := (I.mblk y2 (pend_mem.1 e1).1 c e2).2
          rw [List.getElem?_append_left hcl] at hcc
          exact okL_mono (fun x hx e => by omega) _ (I.hpok c el' qs hcc)
      · simp at hy; subst hy; exact absurd rfl hyz
  · rw [mask_get] at hc
    obtain ⟨h1, h2⟩ := hc
    have hcn : c ∉ pendB (pend listed late) ∧ c ≠ hp.length := by
      have := fun h => h1 ((hpb c).2 h)
      exact ⟨fun h => this (.inl h), fun h => this (.inr h)⟩
    rcases old c el' qs h2 with ⟨hl, h3⟩ | ⟨h3, _⟩
    · rw [List.getElem?_append_left (by rwa [mask_length])]
      exact mask_get.2 ⟨hcn.1, h3⟩
    · exact absurd h3 hcn.2
  · rcases old k el' qs hk with ⟨hl, h3⟩ | ⟨_, _, rfl⟩
    · exact okL_mono (fun x hx => Nat.lt_of_lt_of_le hx hle) _ (I.hpok k el' qs h3)
    · exact okL_mono (fun x hx => Nat.lt_of_lt_of_le hx hle) _ hps
  · have hcn : c ∉ pendB (pend listed late) ∧ c ≠ hp.length := by
      have := fun h => hc ((hpb c).2 h)
      exact ⟨fun h => this (.inl h), fun h => this (.inr h)⟩
    rcases old c el' qs hcc with ⟨hl, h3⟩ | ⟨h3, _⟩
    · exact okL_and (fun x (g1 : x ∉ pendB (pend listed late)) (g2 : x < hp.length) h => (hpb x |>.1 h).elim g1 (fun e => by omega)) (I.a2 c el' qs hcn.1 h3) (I.hpok c el' qs h3)
    · exact absurd h3 hcn.2
end
end Go.Sym

/-
  The symbolic engine, part 22: a region whose order is drawn - what is done in truth. No program in sight; no condition beyond each lemma's own.
-/
namespace Go.Sym

section
variable {P : Program} {Γ : Ctx} {ops : Array Oper} {Q : Exit → Act → World → Prop} {K : St → Prop} {ρ0 : Nat → Nat} {hp0 : List Blk} {w0 : World}
variable {listed : Array Bool} {a : Act} {w : World} {pre ss : List PStep} {s : PStep} {late : List Late} {tm : List (Nat × SV)} {hp : List Blk} {ρ : Nat → Nat} {tmR : List (Nat × SV)}

theorem ok_none {v : SV} {p : Nat → Prop} (hv : v.ok p) : ∀ {L : List Nat}, (∀ b ∈ L, v.ok (· ≠ b)) → v.ok (· ∉ L)
  | [], _ => SV.ok_mono (fun _ _ => by simp) v hv
  | b :: L, h => SV.ok_and (fun x (h1 : x ≠ b) (h2 : x ∉ L) => by simp [h1, h2]) v (h b (by simp)) (ok_none hv fun c hc => h c (by simp [hc]))
theorem okL_none {vs : List SV} {p : Nat → Prop} (hv : okL p vs) {L : List Nat} (h : ∀ b ∈ L, okL (· ≠ b) vs) : okL (· ∉ L) vs := ok_none (v := .agg vs) hv h

theorem wpOp_value {i : Nat} {o : Oper} (ho : ops[i]? = some o) (hw : Region.wanted o (yielded ops a.tmps) = true) {v : Value} {w' : World} (hr : (execOp a.eval o).run P w = .ok (.value v) w') {Kc : Act → World → Prop} (h : Kc (a.put o.dst v) w') : wpOp P ops Q i Kc a w := by
  unfold wpOp
  simp only [ho, hw, if_true, Oper.wp, hr, Oper.upon]
  exact .inl h

theorem getD_set {i j : Nat} (h : j < listed.size) : (listed.setIfInBounds j true).getD i false = true ↔ i = j ∨ listed.getD i false = true := by
  by_cases e : i = j
  · subst e; simp [h]
  · rw [getD_set_ne false (fun x => e x.symm)]; simp [e]

theorem TmRel.re {nt n : Nat} {ρ ρ1 : Nat → Nat} {tm : List (Nat × SV)} {a : Act} (h : TmRel nt ρ n tm a) (hs : ∀ t v, look tm t = some v → v.den ρ1 = v.den ρ) : TmRel nt ρ1 n tm a :=
  ⟨h.size, h.defers, fun t v hv => ⟨(h.val t v hv).1, by rw [(h.val t v hv).2, hs t v hv]⟩⟩

theorem Inv.lt (I : Inv P Γ ops K ρ0 hp0 w0 listed a w pre ss late tm hp ρ tmR) {x : Late} (hx : x ∈ late) : x.i < listed.size := by
  rw [I.size]; exact (Array.getElem?_eq_some_iff.1 (I.get x hx)).1

/-- what is done, of what was taken in thought -/
theorem Inv.core (I : Inv P Γ ops K ρ0 hp0 w0 listed a w pre ss late tm hp ρ tmR) {x : Late} (hx : x ∈ pend listed late) (hrd : ∀ e ∈ edgesOn x.o, listed.getD e false = true) :
    ∃ A B, pend listed late = A ++ x :: B ∧ pend (listed.setIfInBounds x.i true) late = A ++ B ∧ Fact P Γ ops hp x tmR ∧ x.v.ok (· < hp.length) ∧ (∀ d, x.o.dst = some d → d < Γ.nt) ∧
      (∀ z ∈ A ++ B, ∀ b, z.k = .maker b → x.v.ok (· ≠ b) ∧ ∀ c el ps, x.k = .maker c → hp[c]? = some (.mk el ps) → okL (· ≠ b) ps) ∧
      ∀ a' w' ρ', TmRel Γ.nt ρ' hp.length (putT tmR x.o.dst x.v) a' → Step ρ0 hp0 w0 ρ' (mask (pendB (A ++ B)) hp) w' →
        Inv P Γ ops K ρ0 hp0 w0 (listed.setIfInBounds x.i true) a' w' pre ss late tm hp ρ' (putT tmR x.o.dst x.v) := by
  obtain ⟨hxl, hxu⟩ := pend_mem.1 hx
  have hlt := I.lt hxl
  obtain ⟨A, B, hAB⟩ := List.append_of_mem hx
  have hbef : ∀ {k : Nat}, Before ops k x.i → listed.getD k false = true := fun hb =>
    hb.listed (L := fun i => listed.getD i false = true) I.down fun o ho e he => hrd e (by rw [I.get x hxl] at ho; cases ho; exact he)
  have hnd : (pend listed late).Pairwise fun x y => x.i ≠ y.i := by
    unfold pend
    rw [List.pairwise_reverse]
    exact (I.nodup.filter _).imp fun h => h.symm
  have hpw : (pend listed late).Pairwise fun x y => Before ops x.i y.i ∨ x.o.apart ops y.o = true := by
    unfold pend
    rw [List.pairwise_reverse]
    exact I.pairs.filter _
  rw [hAB, List.pairwise_append] at hnd hpw
  have hnA : ∀ y ∈ A, y.i ≠ x.i := fun y hy => hnd.2.2 y hy x (by simp)
  have hnB : ∀ y ∈ B, y.i ≠ x.i := fun y hy => ((List.pairwise_cons.1 hnd.2.1).1 y hy).symm
  have hmem : ∀ {y : Late}, y ∈ A ++ B → y ∈ pend listed late ∧ y.i ≠ x.i := fun hy => by
    rw [hAB]
    rcases List.mem_append.1 hy with h | h
    · exact ⟨by simp [h], hnA _ h⟩
    · exact ⟨by simp [h], hnB _ h⟩
  have hpe : pend (listed.setIfInBounds x.i true) late = A ++ B := by
    have : pend (listed.setIfInBounds x.i true) late = (pend listed late).filter fun y => !(decide (y.i = x.i)) := by
      unfold pend
      rw [List.filter_reverse, List.filter_filter]
      congr 1
      apply List.filter_congr
      intro y hy
      by_cases e : y.i = x.i
      · have : (listed.setIfInBounds x.i true).getD y.i false = true := (getD_set hlt).2 (.inl e)
        rw [this]; simp [e]
      · rw [getD_set_ne false (fun h => e h.symm)]; simp [e]
    rw [this, hAB, List.filter_append, List.filter_cons_of_neg (by simp), List.filter_eq_self.2 (fun y hy => by simp [hnA y hy]), List.filter_eq_self.2 (fun y hy => by simp [hnB y hy])]
  have hch := I.chain
  rw [hAB] at hch
  have hns : ∀ (j : Nat) (o : Oper) cs b, ops[j]? = some o → o.op ≠ .select cs b := I.nsel
  obtain ⟨f1, f2, f3, f4⟩ := hch.bubble hns (I.get x hxl) I.tmr.okay fun y hy => by
    have hyp : y ∈ pend listed late := by rw [hAB]; simp [hy]
    obtain ⟨hyl, hyu⟩ := pend_mem.1 hyp
    refine ⟨I.get y hyl, (hpw.2.2 y hy x (by simp)).resolve_left fun hb => ?_⟩
    rw [hbef hb] at hyu; cases hyu
  have hav : ∀ z ∈ A ++ B, ∀ b, z.k = .maker b → x.v.ok (· ≠ b) ∧ ∀ c el ps, x.k = .maker c → hp[c]? = some (.mk el ps) → okL (· ≠ b) ps := fun z hz b hb => by
    obtain ⟨hzp, hzn⟩ := hmem hz
    refine (I.avoid x hx z hzp b hb (fun e => hzn e.symm)).resolve_left fun hbf => ?_
    have := (pend_mem.1 hzp).2
    rw [hbef hbf] at this; cases this
  have hsub : ∀ b, b ∈ pendB (A ++ B) → b ∈ pendB (pend listed late) := fun b hb => by
    obtain ⟨z, h1, h2⟩ := pendB_mem.1 hb
    exact pendB_mem.2 ⟨z, (hmem h1).1, h2⟩
  refine ⟨A, B, hAB, hpe, f1, f2, f3, hav, fun a' w' ρ' htm hst => ?_⟩
  refine { I with
    size := by simp [I.size]
    down := fun i o hi ho e he => ?_
    real := fun i hi => ?_
    virt := fun p hp => ?_
    avoid := fun y hy z hz b hb hyz => I.avoid y (hmem (hpe ▸ hy)).1 z (hmem (hpe ▸ hz)).1 b hb hyz
    tmr := htm
    chain := by rw [hpe]; exact f4
    step := by rw [hpe]; exact hst
    a1 := fun t v hv => ?_
    a2 := fun c el ps hc hcc => ?_ }
  · rw [getD_set hlt] at hi ⊢
    rcases hi with rfl | hi
    · rw [I.get x hxl] at ho; cases ho; exact .inr (hrd e he)
    · exact .inr (I.down i o hi ho e he)
  · rw [getD_set hlt] at hi
    rcases hi with rfl | hi
    · exact I.along.mem x hxl
    · exact I.real i hi
  · rw [getD_set hlt]
    rcases I.virt p hp with h | h
    · exact .inl (.inr h)
    · exact .inr h
  · rw [hpe]
    rw [look_putT] at hv
    split at hv
    · cases hv
      refine ok_none f2 fun b hb => ?_
      obtain ⟨z, h1, h2⟩ := pendB_mem.1 hb
      exact (hav z h1 b h2).1
    · exact SV.ok_mono (fun y hy h => hy (hsub y h)) v (I.a1 t v hv)
  · rw [hpe] at hc ⊢
    by_cases hcp : c ∈ pendB (pend listed late)
    · obtain ⟨z, h1, h2⟩ := pendB_mem.1 hcp
      have hzx : z = x := by
        rw [hAB] at h1
        rcases List.mem_append.1 h1 with h | h
        · exact absurd (pendB_mem.2 ⟨z, by simp [h], h2⟩) hc
        · rcases List.mem_cons.1 h with h | h
          · exact h
          · exact absurd (pendB_mem.2 ⟨z, by simp [h], h2⟩) hc
      subst hzx
      refine okL_none (I.hpok c el ps hcc) fun b hb => ?_
      obtain ⟨y, g1, g2⟩ := pendB_mem.1 hb
      exact (hav y g1 b g2).2 c el ps h2 hcc
    · exact okL_mono (fun y hy h => hy (hsub y h)) _ (I.a2 c el ps hcp hcc)

theorem Inv.exec (hE : ∀ w', Ext (Foot ρ0 hp0) w0 w' → Γ.E w') (I : Inv P Γ ops K ρ0 hp0 w0 listed a w pre ss late tm hp ρ tmR) {x : Late} (hx : x ∈ pend listed late) (hrd : ∀ e ∈ edgesOn x.o, listed.getD e false = true) {Kc : Act → World → Prop}
    (hK : ∀ a' w' ρ' tmR', Inv P Γ ops K ρ0 hp0 w0 (listed.setIfInBounds x.i true) a' w' pre ss late tm hp ρ' tmR' → Kc a' w') : wpOp P ops Q x.i Kc a w := by
  obtain ⟨hxl, hxu⟩ := pend_mem.1 hx
  have hbef : ∀ {k : Nat}, Before ops k x.i → listed.getD k false = true := fun hb =>
    hb.listed (L := fun i => listed.getD i false = true) I.down fun o ho e he => hrd e (by rw [I.get x hxl] at ho; cases ho; exact he)
  obtain ⟨A, B, hAB, hpe, f1, f2, f3, hav, hI⟩ := I.core hx hrd
  have hsame : (∀ b, x.k ≠ .maker b) → ∀ b, b ∈ pendB (pend listed late) → b ∈ pendB (A ++ B) := fun hk b hb => by
    obtain ⟨z, h1, h2⟩ := pendB_mem.1 hb
    rw [hAB] at h1
    rcases List.mem_append.1 h1 with h | h
    · exact pendB_mem.2 ⟨z, by simp [h], h2⟩
    · rcases List.mem_cons.1 h with h | h
      · subst h; exact absurd h2 (hk b)
      · exact pendB_mem.2 ⟨z, by simp [h], h2⟩
  unfold Fact at f1
  split at f1
  · rename_i hk
    have hst : Step ρ0 hp0 w0 ρ (mask (pendB (A ++ B)) hp) w := I.step.sub (by simp [mask_length]) fun k el ps hkk => by
      rw [mask_get] at hkk ⊢
      exact ⟨fun h => hkk.1 (hsame (fun b h => by rw [hk] at h; cases h) k h), hkk.2⟩
    exact (f1 ρ a I.tmr).wpOp (I.get x hxl) (hK _ _ _ _ (hI _ w ρ (I.tmr.put f3 f2) hst))
  · rename_i M hk
    have hst : Step ρ0 hp0 w0 ρ (mask (pendB (A ++ B)) hp) w := I.step.sub (by simp [mask_length]) fun k el ps hkk => by
      rw [mask_get] at hkk ⊢
      exact ⟨fun h => hkk.1 (hsame (fun b h => by rw [hk] at h; cases h) k h), hkk.2⟩
    have hrel : HpRel ρ (mask M hp) w := I.step.rel.sub fun k el ps hkk => by
      rw [mask_get] at hkk ⊢
      refine ⟨⟨fun h => hkk.1 ?_, hkk.2⟩, by rw [mask_length]; exact I.hpok k el ps hkk.2⟩
      obtain ⟨z, h1, h2⟩ := pendB_mem.1 h
      refine (I.rmask x hxl M hk z (pend_mem.1 h1).1 k h2).resolve_left fun hb => ?_
      have := (pend_mem.1 h1).2
      rw [hbef hb] at this; cases this
    exact wpOp_value (I.get x hxl) (f1.1 ρ a I.tmr) (f1.2 ρ a w I.tmr hrel (hE w I.step.ext)) (hK _ _ _ _ (hI _ w ρ (I.tmr.put f3 f2) hst))
  · rename_i b hk
    obtain ⟨hw, el, ps, h1, h2, h3, h4, h5⟩ := f1
    have hbp : b ∈ pendB (pend listed late) := pendB_mem.2 ⟨x, hx, hk⟩
    obtain ⟨hb0, hbl⟩ := I.mblk x hxl b hk
    have htm : TmRel Γ.nt (upd ρ b w.heap.size) hp.length tmR a := I.tmr.re fun t v hv =>
      SV.den_congr (p := (· ∉ pendB (pend listed late))) (fun k hk' => by
        have : k ≠ b := fun e => hk' (e ▸ hbp)
        simp [upd, this]) v (I.a1 t v hv)
    refine wpOp_value (I.get x hxl) (hw ρ a I.tmr) (h5 ρ a I.tmr (upd ρ b w.heap.size) w (by simp [upd])) (hK _ _ _ _ (hI _ _ (upd ρ b w.heap.size) (htm.put f3 f2) ?_))
    refine I.step.place hb0 (by rwa [mask_length]) (fun el ps h => (mask_get.1 h).1 hbp) (el := el) (by rwa [mask_length]) h4 (fun k el' qs hkk => ?_) (by simp [mask_length]) (fun k el' qs hkk => ?_)
    · rw [mask_get] at hkk
      exact okL_mono (fun y (hy : y ∉ pendB (pend listed late)) (e : y = b) => hy (by rw [e]; exact hbp)) _ (I.a2 k el' qs hkk.1 hkk.2)
    · rw [mask_get] at hkk
      by_cases hkb : k = b
      · subst hkb
        rw [h1] at hkk
        have := hkk.2
        cases this
        exact .inr ⟨rfl, rfl, rfl⟩
      · refine .inl ⟨hkb, mask_get.2 ⟨fun h => ?_, hkk.2⟩⟩
        obtain ⟨z, g1, g2⟩ := pendB_mem.1 h
        rw [hAB] at g1
        rcases List.mem_append.1 g1 with h | h
        · exact hkk.1 (pendB_mem.2 ⟨z, by simp [h], g2⟩)
        · rcases List.mem_cons.1 h with h | h
          · subst h; rw [hk] at g2; cases g2; exact hkb rfl
          · exact hkk.1 (pendB_mem.2 ⟨z, by simp [h], g2⟩)

/-! ### an anchor -/
/-- what the engine asks of an anchor -/
def AnchorVC (Γ : Ctx) (all : List Oper) (s : PStep) (ss : List PStep) (o : Oper) (late : List Late) (tm : List (Nat × SV)) (hp : List Blk) (K : St → Prop) : Prop :=
  looseB s.loose late fun M => deadK M hp fun hm => anchorK Γ o.op tm hm
          (fun v hp1 => freeV M v (freeH M hp1 (liveK hp M hp1 fun hp2 => putK Γ.nt tm hp2 o.dst v fun st => match st with | ⟨tm', hp'⟩ => reK Γ tm' hp' s.loose late (vcDr Γ all ss late tm' hp' K))))
          (fun hp1 => freeH M hp1 (liveK hp M hp1 fun hp2 => match o.dst with
            | none => reK Γ tm hp2 s.loose late (vcDr Γ all ss late tm hp2 K)
            | some _ => False))

theorem actPuts (hns : ∀ (j : Nat) (o : Oper) cs b, ops[j]? = some o → o.op ≠ .select cs b) {o : Oper} {i : Nat} (ho : ops[i]? = some o) : ∀ {xs : List Late} {tm tm' : List (Nat × SV)} {a : Act}, Chain P Γ ops hp tm xs tm' → TmRel Γ.nt ρ hp.length tm a →
    (∀ y ∈ xs, ∀ d, y.o.dst = some d → d ∉ o.looksAt ops) →
    ∃ a', TmRel Γ.nt ρ hp.length tm' a' ∧ execOp a'.eval o = execOp a.eval o ∧ Region.wanted o (yielded ops a'.tmps) = Region.wanted o (yielded ops a.tmps)
  | [], _, _, a, h, ht, _ => ⟨a, ht.same fun t => (h t).symm, rfl, rfl⟩
  | x :: xs, _, _, a, ⟨_, h2, h3, h4⟩, ht, hd => by
    obtain ⟨a', g1, g2, g3⟩ := actPuts hns ho h4 (ht.put h3 h2) (fun y hy => hd y (by simp [hy]))
    exact ⟨a', g1, by rw [g2, execOp_put o (fun cs b => hns _ _ cs b ho) a _ _ (hd x (by simp))], by rw [g3, wanted_put o a _ _ (hd x (by simp))]⟩

theorem Inv.anchor (hΓ : CtxOK P Γ) (I : Inv P Γ ops K ρ0 hp0 w0 listed a w pre (s :: ss) late tm hp ρ tmR) {o : Oper} {T' : Table} (S : StepOK Γ ops pre s ss o) (hT : TabOK ops T') (hpl : planB ops Γ (s :: pre) ss T' = true)
    (hka : kindOf Γ o.op = .anchor) (hw : Wants Γ ops hp.length o tm) (hvc : AnchorVC Γ ops.toList s ss o late tm hp K) (hrd : ∀ e ∈ edgesOn o, listed.getD e false = true) {Kc : Act → World → Prop}
    (hK : ∀ a' w' hp' ρ' tm' tmR', Inv P Γ ops K ρ0 hp0 w0 (listed.setIfInBounds s.i true) a' w' (s :: pre) ss late tm' hp' ρ' tmR' → Kc a' w') : wpOp P ops Q s.i Kc a w := by
  have hns : ∀ (j : Nat) (o : Oper) cs b, ops[j]? = some o → o.op ≠ .select cs b := I.nsel
  have hlt : s.i < listed.size := by rw [I.size]; exact (Array.getElem?_eq_some_iff.1 S.get).1
  have hne : ∀ x ∈ late, x.i ≠ s.i := fun x hx => by obtain ⟨p, h1, h2⟩ := I.along.mem x hx; rw [← h2]; exact S.new p h1
  have hbef : ∀ {k : Nat}, Before ops k s.i → listed.getD k false = true := fun hb =>
    hb.listed (L := fun i => listed.getD i false = true) I.down fun o' ho' e he => hrd e (by rw [S.get] at ho'; cases ho'; exact he)
  have hlo : ∀ x ∈ pend listed late, x.i ∈ s.loose ∧ x.o.apart ops o = true := fun x hx => by
    obtain ⟨hxl, hxu⟩ := pend_mem.1 hx
    obtain ⟨p, h1, h2⟩ := I.along.mem x hxl
    rcases S.pairs p h1 with ⟨g1, y, g2, g3⟩ | ⟨g1, g2⟩
    · rw [h2] at g1 g2
      rw [I.get x hxl] at g2
      cases g2
      exact ⟨g1, g3⟩
    · rw [h2] at g2; rw [hbef g2] at hxu; cases hxu
  have hpe : pend (listed.setIfInBounds s.i true) late = pend listed late := by
    unfold pend
    congr 1
    apply List.filter_congr
    intro y hy
    rw [getD_set_ne false (fun h => hne y hy h.symm)]
  obtain ⟨htm, hxs⟩ := chain_ok I.chain I.tmr.okay
  obtain ⟨a1, ha1, hex, hwa⟩ := actPuts hns S.get I.chain I.tmr fun y hy d hd => (Oper.apart_spec (hlo y hy).2).1 d hd
  have hwant : Region.wanted o (yielded ops a.tmps) = true := by rw [← hwa]; exact hw ρ a1 ha1
  have hD : ∀ b ∈ pendB (pend listed late), b ∈ looseL s.loose late := fun b hb => by
    obtain ⟨z, h1, h2⟩ := pendB_mem.1 hb
    exact looseL_mem.2 ⟨z, (pend_mem.1 h1).1, h2, (hlo z h1).1⟩
  have hM : ∀ b ∈ looseL s.loose late, b < hp.length := fun b hb => by
    obtain ⟨z, h1, h2, _⟩ := looseL_mem.1 hb
    exact (I.mblk z h1 b h2).2
  have h1 := deadK_e (looseB_e hvc)
  clear hvc
  generalize hMd : looseL s.loose late = M at *
  have hrel : HpRel ρ (mask M hp) w := I.step.rel.sub fun k el ps hk => by
    rw [mask_get] at hk ⊢
    exact ⟨⟨fun h => hk.1 (hD k h), hk.2⟩, by rw [mask_length]; exact I.hpok k el ps hk.2⟩
  have core : ∀ (v : SV) (ρ' : Nat → Nat) (hp1 : List Blk) (w' : World) (tm' : List (Nat × SV)), v.ok (· < hp1.length) → v.ok (· ∉ M) → Step ρ (mask M hp) w ρ' hp1 w' → (∀ d, o.dst = some d → d < Γ.nt) →
      freeH M hp1 (liveK hp M hp1 fun hp2 => tm' = putT tm o.dst v ∧ reK Γ tm' hp2 s.loose late (vcDr Γ ops.toList ss late tm' hp2 K)) → Kc (a.put o.dst (v.den ρ')) w' := by
    intro v ρ' hp1 w' tm' hv hvM T hd hf
    obtain ⟨hf, hfree⟩ := freeH_e hf
    obtain ⟨⟨rfl, hf⟩, hMl⟩ := liveK_e hf
    obtain ⟨hvc, hre⟩ := reK_e hf
    have hget : ∀ k, (unmask hp M hp1)[k]? = if k ∈ M then hp[k]? else hp1[k]? := fun k => unmask_get hMl
    have hlen : (unmask hp M hp1).length = hp1.length := unmask_length
    have hle : hp.length ≤ (unmask hp M hp1).length := by have := T.le; rw [mask_length] at this; omega
    have hsame : ∀ k, k < hp.length → ρ' k = ρ k := fun k hk => T.same k (by rwa [mask_length])
    have hst := I.step.through hD hM T hlen hget
    have htm' : TmRel Γ.nt ρ' (unmask hp M hp1).length (putT tmR o.dst v) (a.put o.dst (v.den ρ')) := (I.tmr.later hsame hle).put hd (by rw [hlen]; exact hv)
    refine hK _ _ _ ρ' _ (putT tmR o.dst v) { I with
      size := by simp [I.size]
      down := fun i o' hi ho e he => ?_
      real := fun i hi => ?_
      virt := fun p hp => ?_
      along := .skip I.along
      mblk := fun z hz b hb => by have := I.mblk z hz b hb; exact ⟨this.1, by omega⟩
      avoid := fun y hy z hz b hb hyz => ?_
      tmr := htm'
      chain := ?_
      step := by rw [hpe]; exact hst
      hpok := fun k el ps hk => ?_
      a1 := fun t u hu => ?_
      a2 := fun c el ps hc hcc => ?_
      plan := ⟨T', hT, hpl⟩
      vc := hvc }
    · rw [getD_set hlt] at hi ⊢
      rcases hi with rfl | hi
      · rw [S.get] at ho; cases ho; exact .inr (hrd e he)
      · exact .inr (I.down i o' hi ho e he)
    · rw [getD_set hlt] at hi
      rcases hi with rfl | hi
      · exact ⟨s, by simp, rfl⟩
      · obtain ⟨p, h1, h2⟩ := I.real i hi; exact ⟨p, by simp [h1], h2⟩
    · rw [getD_set hlt]
      rcases List.mem_cons.1 hp with rfl | hp
      · exact .inl (.inl rfl)
      · rcases I.virt p hp with h | h
        · exact .inl (.inr h)
        · exact .inr h
    · rw [hpe] at hy hz
      rcases I.avoid y hy z hz b hb hyz with h | ⟨h, h'⟩
      · exact .inl h
      · refine .inr ⟨h, fun c el ps hc hcc => h' c el ps hc ?_⟩
        rw [hget, if_pos (hD c (pendB_mem.2 ⟨y, hy, hc⟩))] at hcc
        exact hcc
    · rw [hpe]
      obtain ⟨hself, hpair⟩ : (∀ x ∈ pend listed late, ∀ M, x.k = .read M → (∀ e, x.o.dst = some e → e ∉ x.o.looksAt ops)) ∧
          ((pend listed late).Pairwise fun x y => ∀ M, x.k = .read M → ∀ e, y.o.dst = some e → e ∉ x.o.looksAt ops) := by
        obtain ⟨g1, g2⟩ := readsB_e I.along (S.reads hka) I.get
        refine ⟨fun x hx M' hM' => (g1 x (pend_mem.1 hx).1 (I.rkind x (pend_mem.1 hx).1 M' hM') (hlo x hx).1).1, ?_⟩
        have g3 : (pend listed late).Pairwise fun x y => kindOf Γ x.o.op = .read → x.i ∈ s.loose → ∀ e, y.o.dst = some e → e ∉ x.o.looksAt ops := by
          unfold pend
          rw [List.pairwise_reverse]
          exact g2.filter _
        refine g3.imp_of_mem fun {x y} hx hy h M' hM' => h (I.rkind x (pend_mem.1 hx).1 M' hM') (hlo x hx).1
      refine I.chain.anchor hns hle rfl hd (by rw [hlen]; exact hv) I.tmr.okay (fun x hx => ⟨I.get x (pend_mem.1 hx).1, (hlo x hx).2⟩) (fun x hx b hb => by rw [hget, if_pos (hD b (pendB_mem.2 ⟨x, hx, hb⟩))])
        (fun x hx M' hM' ρ2 a2 w2 ht2 hw2 hE2 => ?_) hpair hself
      obtain ⟨u, rfl, _, hr⟩ := readK_e (P := P) hΓ hw2 (by rw [mask_length]; exact ht2) x.o (hre x (pend_mem.1 hx).1 M' hM' (hlo x hx).1)
      exact hr hE2
    · rw [hlen]
      rw [hget] at hk
      split at hk
      · exact okL_mono (fun x hx => by omega) _ (I.hpok k el ps hk)
      · exact (T.rel.mem k el ps hk).1
    · rw [hpe]
      rw [look_putT] at hu
      split at hu
      · cases hu; exact SV.ok_mono (fun x hx h => hx (hD x h)) v hvM
      · exact I.a1 t u hu
    · rw [hpe] at hc ⊢
      rw [hget] at hcc
      split at hcc
      · exact I.a2 c el ps hc hcc
      · exact okL_mono (fun x hx h => hx (hD x h)) _ (hfree c el ps _ hcc (T.rel.mem c el ps hcc).1)
  have hval : ∀ (v : SV) (ρ' : Nat → Nat) (hp1 : List Blk) (w' : World), v.ok (· < hp1.length) → Step ρ (mask M hp) w ρ' hp1 w' →
      freeV M v (freeH M hp1 (liveK hp M hp1 fun hp2 => putK Γ.nt tm hp2 o.dst v fun st => match st with | ⟨tm', hp'⟩ => reK Γ tm' hp' s.loose late (vcDr Γ ops.toList ss late tm' hp' K))) → Kc (a.put o.dst (v.den ρ')) w' := by
    intro v ρ' hp1 w' hv T hf
    obtain ⟨hvM, hf⟩ := freeV_e hv hf
    have hd : ∀ d, o.dst = some d → d < Γ.nt := (putK_e' (liveK_e (freeH_e hf).1).1).1
    refine core v ρ' hp1 w' (putT tm o.dst v) hv hvM T hd ?_
    have h2 : ∀ hp2, (putK Γ.nt tm hp2 o.dst v fun st => match st with | ⟨tm', hp'⟩ => reK Γ tm' hp' s.loose late (vcDr Γ ops.toList ss late tm' hp' K)) →
        (putT tm o.dst v = putT tm o.dst v ∧ reK Γ (putT tm o.dst v) hp2 s.loose late (vcDr Γ ops.toList ss late (putT tm o.dst v) hp2 K)) := fun hp2 h => ⟨rfl, (putK_e' h).2⟩
    exact freeH_imp hf fun h => liveK_imp h h2
  rcases anchorK_e hΓ hrel (by rw [mask_length]; exact ha1) o h1 with ⟨v, ρ', hp1, w', hr, hv, T, hf⟩ | ⟨hp1, w', hr, T, hf⟩ | ⟨f, args, hr, hc⟩
  · rw [hex] at hr
    exact wpOp_value S.get hwant hr (hval v ρ' hp1 w' hv T hf)
  · rw [hex] at hr
    unfold wpOp
    simp only [S.get, hwant, if_true, Oper.wp, hr, Oper.upon]
    refine .inl ?_
    have hdn : o.dst = none := by
      have := (liveK_e (freeH_e hf).1).1
      cases hd : o.dst with
      | none => rfl
      | some d => rw [hd] at this; exact this.elim
    have := core (.tup []) ρ hp1 w' tm (by simp [SV.ok, okL]) (by simp [SV.ok, okL]) (by
      exact T) (fun d hd => by rw [hdn] at hd; cases hd) (freeH_imp hf fun h => liveK_imp h fun hp2 h => by
        rw [hdn] at h; rw [hdn]; exact ⟨rfl, h⟩)
    rw [hdn] at this ⊢
    exact this
  · rw [hex] at hr
    unfold wpOp
    simp only [S.get, hwant, if_true, Oper.wp, hr, Oper.upon]
    refine .inl (hc.mono fun e w' ⟨v, ρ', hp1, he, hv, T, hf⟩ => ?_)
    subst he
    exact hval v ρ' hp1 w' hv T hf
end
end Go.Sym

/-
  The symbolic engine, part 23: a region whose order is drawn - all together. No program in sight; no condition beyond each lemma's own.
-/
namespace Go.Sym

section
variable {P : Program} {Γ : Ctx} {ops : Array Oper} {Q : Exit → Act → World → Prop} {K : St → Prop} {ρ0 : Nat → Nat} {hp0 : List Blk} {w0 : World}
variable {listed : Array Bool} {a : Act} {w : World} {pre ss : List PStep} {s : PStep} {late : List Late} {tm : List (Nat × SV)} {hp : List Blk} {ρ : Nat → Nat} {tmR : List (Nat × SV)}

theorem chain_act : ∀ {xs : List Late} {tm tm' : List (Nat × SV)} {a : Act}, Chain P Γ ops hp tm xs tm' → TmRel Γ.nt ρ hp.length tm a → ∃ a', TmRel Γ.nt ρ hp.length tm' a'
  | [], _, _, a, h, ht => ⟨a, ht.same fun t => (h t).symm⟩
  | _ :: _, _, _, _, ⟨_, h2, h3, h4⟩, ht => chain_act h4 (ht.put h3 h2)
theorem TmRel.any {nt n : Nat} (h : TmRel nt ρ n tm a) (ρ' : Nat → Nat) : ∃ a', TmRel nt ρ' n tm a' := by
  refine ⟨{ a with tmps := (Array.range nt).map fun t => ((look tm t).map (SV.den ρ')).getD undef }, by simp, h.defers, fun t v hv => ⟨(h.val t v hv).1, ?_⟩⟩
  have ht : t < nt := by
    have := (Array.getElem?_eq_some_iff.1 (h.val t v hv).2).1
    rwa [h.size] at this
  simp [ht, hv]

/-- a world in which the blocks are as a heap says -/
def worldOf (w : World) (hp : List Blk) : World := { w with heap := (hp.map fun b => match b with
  | .mk el ps => Obj.cells (cellsL id ps).toArray el (0, 0)
  | .dead => Obj.cells #[] 0 (0, 0)).toArray }
theorem worldOf_rel (hok : ∀ (k : Nat) el ps, hp[k]? = some (Blk.mk el ps) → okL (· < hp.length) ps) : HpRel id hp (worldOf w hp) :=
  ⟨fun k el ps hk => ⟨hok k el ps hk, el, (0, 0), by simp [worldOf, hk], .inl (Nat.le_refl _)⟩, fun _ _ _ _ _ _ _ _ h => h⟩

theorem Inv.saturate (hΓ : CtxOK P Γ) : ∀ {ss : List PStep} {pre : List PStep} {late : List Late} {tm : List (Nat × SV)} {hp : List Blk}, Inv P Γ ops K ρ0 hp0 w0 listed a w pre ss late tm hp ρ tmR →
    ∃ pre' ss' late' tm' hp', pre'.reverse ++ ss' = pre.reverse ++ ss ∧ Inv P Γ ops K ρ0 hp0 w0 listed a w pre' ss' late' tm' hp' ρ tmR ∧ (ss' = [] ∨ ∃ s ss'' o T', ss' = s :: ss'' ∧ StepOK Γ ops pre' s ss'' o ∧ TabOK ops T' ∧ planB ops Γ (s :: pre') ss'' T' = true ∧
      kindOf Γ o.op = .anchor ∧ Wants Γ ops hp'.length o tm' ∧ AnchorVC Γ ops.toList s ss'' o late' tm' hp' K)
  | [], pre, late, tm, hp, I => ⟨pre, [], late, tm, hp, rfl, I, .inl rfl⟩
  | s :: ss, pre, late, tm, hp, I => by
    obtain ⟨T, hT, hpl⟩ := I.plan
    obtain ⟨o, T', S, hT', hpl'⟩ := planB_e hT hpl
    have hvc := I.vc
    rw [vcDr_cons] at hvc
    obtain ⟨o', ho', hvc⟩ := nthK_e hvc
    have : o' = o := by
      have := S.get
      rw [← Array.getElem?_toList, ho'] at this
      exact Option.some.inj this
    subst this
    obtain ⟨htm, hxs⟩ := chain_ok I.chain I.tmr.okay
    obtain ⟨a1, ha1⟩ := chain_act I.chain I.tmr
    have again : ∀ {late' : List Late} {tm' : List (Nat × SV)} {hp' : List Blk}, Inv P Γ ops K ρ0 hp0 w0 listed a w (s :: pre) ss late' tm' hp' ρ tmR →
        ∃ pre' ss' late' tm' hp', pre'.reverse ++ ss' = pre.reverse ++ (s :: ss) ∧ Inv P Γ ops K ρ0 hp0 w0 listed a w pre' ss' late' tm' hp' ρ tmR ∧ (ss' = [] ∨ ∃ s ss'' o T', ss' = s :: ss'' ∧ StepOK Γ ops pre' s ss'' o ∧ TabOK ops T' ∧ planB ops Γ (s :: pre') ss'' T' = true ∧
          kindOf Γ o.op = .anchor ∧ Wants Γ ops hp'.length o tm' ∧ AnchorVC Γ ops.toList s ss'' o late' tm' hp' K) := fun J => by
      obtain ⟨p, q, l, t, h, e, r⟩ := J.saturate hΓ
      exact ⟨p, q, l, t, h, by rw [e]; simp, r⟩
    rcases guardK_e (Γ := Γ) (n := hp.length) hvc with ⟨hw, hy⟩ | ⟨hw, hn⟩
    · cases hk : kindOf Γ o'.op with
      | anchor =>
        rw [hk] at hy
        exact ⟨pre, s :: ss, late, tm, hp, rfl, I, .inr ⟨s, ss, o', T', rfl, S, hT', hpl', hk, hw, hy⟩⟩
      | pure =>
        rw [hk] at hy
        dsimp only at hy
        obtain ⟨v, h1, h2⟩ := pureK_r o'.op tm _ hy
        have h3 := looseB_e h1
        obtain ⟨u, hu, hv, _⟩ := pureK_e (P := P) hΓ ha1 o' (h2 (fun u => u = v) rfl)
        subst hu
        obtain ⟨hvM, h4⟩ := freeV_e hv h3
        obtain ⟨hd, h5⟩ := putK_e' h4
        refine again (I.absorb S hT' hpl' (v := u) (k := .pure) (fun b h => by cases h) (fun M h => by cases h) (fun ρ a ht => .inl ⟨hw ρ a ht, ?_⟩) hv hvM hd h5)
        obtain ⟨x, hx, _, hr⟩ := pureK_e (P := P) hΓ ht o' (h2 (fun x => x = u) rfl)
        subst hx
        exact hr
      | read =>
        rw [hk] at hy
        dsimp only at hy
        have h0 := deadK_e (looseB_e hy)
        obtain ⟨v, h1, h2⟩ := readK_r o'.op tm (mask (looseL s.loose late) hp) _ h0
        have hokm : ∀ (k : Nat) el ps, (mask (looseL s.loose late) hp)[k]? = some (Blk.mk el ps) → okL (· < (mask (looseL s.loose late) hp).length) ps := fun k el ps hk => by
          rw [mask_length]; exact I.hpok k el ps (mask_get.1 hk).2
        obtain ⟨a2, ha2⟩ := ha1.any id
        obtain ⟨u, hu, hv, _⟩ := readK_e (P := P) hΓ (worldOf_rel (w := w) hokm) (by rw [mask_length]; exact ha2) o' (h2 (fun u => u = v) rfl)
        subst hu
        rw [mask_length] at hv
        obtain ⟨hvM, h4⟩ := freeV_e hv h1
        obtain ⟨hd, h5⟩ := putK_e' h4
        refine again (I.absorb S hT' hpl' (v := u) (k := .read (looseL s.loose late)) (fun b h => by cases h) (fun M h => by cases h; exact ⟨hk, rfl⟩) ⟨hw, fun ρ a w ht hwr hE => ?_⟩ hv hvM hd h5)
        obtain ⟨x, hx, _, hr⟩ := readK_e (P := P) hΓ hwr (by rw [mask_length]; exact ht) o' (h2 (fun x => x = u) rfl)
        subst hx
        exact hr hE
      | maker =>
        rw [hk] at hy
        dsimp only at hy
        have h0 := lenK_e (looseB_e hy)
        obtain ⟨⟨v, b⟩, h1, h2⟩ := makerK_r o'.op tm hp.length (fun p : SV × Blk => match p.2 with
          | .mk el ps => freeV (looseL s.loose late) (.agg ps) (snocK hp (.mk el ps) fun hp1 => putK Γ.nt tm hp1 o'.dst p.1 fun st => match st with | ⟨tm', hp'⟩ => vcDr Γ ops.toList ss (⟨s.i, o', p.1, .maker hp.length⟩ :: addM hp.length late) tm' hp' K)
          | .dead => False) h0
        cases b with
        | dead => exact h1.elim
        | mk el ps =>
          dsimp only at h1
          have key : ∀ (ρ : Nat → Nat) a, TmRel Γ.nt ρ hp.length tm a → v.ok (· = hp.length) ∧ okL (· < hp.length) ps ∧ ∀ (ρ1 : Nat → Nat) w, ρ1 hp.length = w.heap.size → (execOp a.eval o').run P w = .ok (.value (v.den ρ1)) (w.alloc (.cells (cellsL ρ ps).toArray el)) := fun ρ a ht => by
            obtain ⟨u, el', qs, hu, hv, hq, hr⟩ := makerK_e (P := P) hΓ ht o' (h2 (fun p => p = (v, .mk el ps)) rfl)
            cases hu
            exact ⟨hv, hq, hr⟩
          obtain ⟨hv, hq, _⟩ := key ρ a1 ha1
          obtain ⟨hvM, h4⟩ := freeV_e (v := .agg ps) hq h1
          have h5 := snocK_e h4
          obtain ⟨hd, h6⟩ := putK_e' h5
          exact again (I.absorbM S hT' hpl' hw hv hq (fun ρ a ht => (key ρ a ht).2.2) hvM hd h6)
    · obtain ⟨hd, h5⟩ := putK_e' hn
      exact again (I.absorb S hT' hpl' (v := .tup []) (k := .pure) (fun b h => by cases h) (fun M h => by cases h) (fun ρ a ht => .inr ⟨hw ρ a ht, rfl⟩) (by simp [SV.ok, okL]) (by simp [SV.ok, okL]) hd h5)

def unl (listed : Array Bool) (n : Nat) : Nat := (List.range n).countP fun i => !listed.getD i false
theorem countP_lt {p q : Nat → Bool} : ∀ {l : List Nat} {i : Nat}, (∀ x, q x = true → p x = true) → i ∈ l → p i = true → q i = false → l.countP q < l.countP p
  | x :: xs, i, h, hi, hp, hq => by
    have hle : xs.countP q ≤ xs.countP p := List.countP_mono_left fun x _ hx => h x hx
    rw [List.countP_cons, List.countP_cons]
    rcases List.mem_cons.1 hi with rfl | hi
    · rw [hp, hq]; simp; omega
    · have := countP_lt h hi hp hq
      cases hqx : q x with
      | true => rw [h x hqx]; simp; omega
      | false => cases p x <;> simp <;> omega
theorem unl_set {i : Nat} (hi : i < ops.size) (hs : listed.size = ops.size) (hu : listed.getD i false = false) : unl (listed.setIfInBounds i true) ops.size < unl listed ops.size := by
  refine countP_lt (i := i) (fun x hx => ?_) (List.mem_range.2 hi) (by rw [hu]; rfl) ?_
  · cases h : listed.getD x false with
    | false => rfl
    | true =>
      rw [(getD_set (by rw [hs]; exact hi)).2 (.inr h)] at hx; cases hx
  · rw [(getD_set (by rw [hs]; exact hi)).2 (.inl rfl)]; rfl

theorem getD_tf (hs : listed.size = ops.size) {i : Nat} (hi : i < ops.size) : listed.getD i true = listed.getD i false := by
  have : i < listed.size := by rw [hs]; exact hi
  simp [this]

theorem Inv.any (hΓ : CtxOK P Γ) (hE : ∀ w', Ext (Foot ρ0 hp0) w0 w' → Γ.E w') (order : List PStep) (hall : ∀ i < ops.size, ∃ p ∈ order, p.i = i) (hord : ∀ (l r : List PStep) p, order = l ++ p :: r → ∃ o, ops[p.i]? = some o ∧ ∀ e ∈ edgesOn o, ∃ x ∈ l, x.i = e)
    (hQ : ∀ a' w' ρ' tm' hp', K ⟨tm', hp'⟩ → TmRel Γ.nt ρ' hp'.length tm' a' → Step ρ0 hp0 w0 ρ' hp' w' → Q .normal a' w') :
    ∀ (fuel : Nat) {listed : Array Bool} {a : Act} {w : World} {pre ss : List PStep} {late : List Late} {tm : List (Nat × SV)} {hp : List Blk} {ρ : Nat → Nat} {tmR : List (Nat × SV)},
      Inv P Γ ops K ρ0 hp0 w0 listed a w pre ss late tm hp ρ tmR → order = pre.reverse ++ ss → unl listed ops.size ≤ fuel → wpAny P .any ops Q fuel listed a w := by
  -- an order: what is not listed, has something ready
  have some_ready : ∀ {listed : Array Bool}, listed.size = ops.size → Region.ready .any ops listed = [] → ∀ i < ops.size, listed.getD i false = true := by
    intro listed hs hr
    have key : ∀ (n : Nat) (l r : List PStep) (p : PStep), order = l ++ p :: r → l.length < n → listed.getD p.i false = true := by
      intro n
      induction n with
      | zero => intro l r p _ h; omega
      | succ n ih =>
        intro l r p he hn
        obtain ⟨o, ho, hedge⟩ := hord l r p he
        have hpl : p.i < ops.size := (Array.getElem?_eq_some_iff.1 ho).1
        cases h : listed.getD p.i false with
        | true => rfl
        | false =>
          have : p.i ∈ Region.ready .any ops listed := mem_ready.2 ⟨by rw [getD_tf hs hpl, h], o, ho, fun e he2 hb => by
            obtain ⟨x, hx, hxe⟩ := hedge e.on (edgesOn_mem.2 ⟨e, he2, hb, rfl⟩)
            obtain ⟨l1, l2, rfl⟩ := List.append_of_mem hx
            rw [← hxe]
            refine ih l1 (l2 ++ p :: r) x (by rw [he]; simp) ?_
            simp at hn; omega⟩
          rw [hr] at this; cases this
    intro i hi
    obtain ⟨p, hp, rfl⟩ := hall i hi
    obtain ⟨l, r, he⟩ := List.append_of_mem hp
    exact key (l.length + 1) l r p he (by omega)
  intro fuel
  induction fuel with
  | zero =>
    intro listed a w pre ss late tm hp ρ tmR I hpart hf
    have hlist : ∀ i < ops.size, listed.getD i false = true := fun i hi => by
      have : unl listed ops.size = 0 := by omega
      unfold unl at this
      rw [List.countP_eq_zero] at this
      simpa using this i (List.mem_range.2 hi)
    obtain ⟨pre', ss', late', tm', hp', hord', I', hsat⟩ := I.saturate hΓ
    rw [← hpart] at hord'
    have hpend : pend listed late' = [] := by
      unfold pend
      rw [List.filter_eq_nil_iff.2, List.reverse_nil]
      intro x hx
      have := (Array.getElem?_eq_some_iff.1 (I'.get x hx)).1
      rw [hlist _ this]; simp
    refine ⟨List.filter_eq_nil_iff.2 fun i hi => ?_, ?_⟩
    · rw [List.mem_range] at hi
      rw [getD_tf I.size hi, hlist i hi]; simp
    · rcases hsat with rfl | ⟨s, ss'', o, T', rfl, S, _⟩
      · have hc := I'.chain
        have hst := I'.step
        rw [hpend] at hc hst
        exact hQ _ _ ρ tm' hp' I'.vc (I'.tmr.same fun t => (hc t).symm) hst
      · have := hlist s.i (Array.getElem?_eq_some_iff.1 S.get).1
        obtain ⟨p, h1, h2⟩ := I'.real _ this
        exact absurd h2 (S.new p h1)
  | succ fuel ih =>
    intro listed a w pre ss late tm hp ρ tmR I hpart hf
    obtain ⟨pre', ss', late', tm', hp', hord', I', hsat⟩ := I.saturate hΓ
    rw [← hpart] at hord'
    refine ⟨fun hr => ?_, fun i hi => ?_⟩
    · have hlist := some_ready I.size hr
      have hpend : pend listed late' = [] := by
        unfold pend
        rw [List.filter_eq_nil_iff.2, List.reverse_nil]
        intro x hx
        have := (Array.getElem?_eq_some_iff.1 (I'.get x hx)).1
        rw [hlist _ this]; simp
      rcases hsat with rfl | ⟨s, ss'', o, T', rfl, S, _⟩
      · have hc := I'.chain
        have hst := I'.step
        rw [hpend] at hc hst
        exact hQ _ _ ρ tm' hp' I'.vc (I'.tmr.same fun t => (hc t).symm) hst
      · have := hlist s.i (Array.getElem?_eq_some_iff.1 S.get).1
        obtain ⟨p, h1, h2⟩ := I'.real _ this
        exact absurd h2 (S.new p h1)
    · obtain ⟨hun, o, ho, hall'⟩ := mem_ready.1 hi
      have hil : i < ops.size := (Array.getElem?_eq_some_iff.1 ho).1
      rw [getD_tf I.size hil] at hun
      have hrd : ∀ e ∈ edgesOn o, listed.getD e false = true := fun e he => by
        obtain ⟨x, h1, h2, h3⟩ := edgesOn_mem.1 he
        rw [← h3]; exact hall' x h1 h2
      have hdec := unl_set (listed := listed) hil I.size hun
      by_cases hip : ∃ p ∈ pre', p.i = i
      · obtain ⟨p, hp1, hp2⟩ := hip
        rcases I'.virt p hp1 with h | ⟨x, hx, hxi⟩
        · rw [hp2, hun] at h; cases h
        · have hxi' : x.i = i := by rw [hxi, hp2]
          subst hxi'
          have hxo : x.o = o := by
            have := I'.get x hx
            rw [ho] at this; exact (Option.some.inj this).symm
          exact I'.exec hE (pend_mem.2 ⟨hx, hun⟩) (by rw [hxo]; exact hrd) fun a' w' ρ' tmR' J => ih J hord'.symm (by omega)
      · rcases hsat with rfl | ⟨s, ss'', o', T', rfl, S, hT', hpl', hka, hw, hav⟩
        · obtain ⟨p, hp, hpi⟩ := hall i hil
          rw [← hord', List.append_nil, List.mem_reverse] at hp
          exact absurd ⟨p, hp, hpi⟩ hip
        · have hsi : i = s.i := by
            obtain ⟨p, hp, hpi⟩ := hall i hil
            rw [← hord'] at hp
            rcases List.mem_append.1 hp with hp | hp
            · exact absurd ⟨p, List.mem_reverse.1 hp, hpi⟩ hip
            · rcases List.mem_cons.1 hp with rfl | hp
              · exact hpi.symm
              · obtain ⟨u, hu, e, he, hne⟩ := S.forced hka p hp
                rw [hpi, ho] at hu
                cases hu
                obtain ⟨x, hx, hxe⟩ := I'.real e (hrd e he)
                exact absurd hxe (hne x hx)
          subst hsi
          have : o' = o := by have := S.get; rw [ho] at this; exact (Option.some.inj this).symm
          subst this
          exact I'.anchor hΓ S hT' hpl' hka hw hav hrd fun a' w' hp2 ρ' tm2 tmR' J => ih J (by rw [← hord']; simp) (by omega)

theorem planB_order {order : List PStep} : ∀ {ss pre : List PStep} {T : Table}, planB ops Γ pre ss T = true → (∀ i, (∃ x ∈ pre, x.i = i) ↔ ∃ x ∈ order, x.i = i) →
    ∀ (l r : List PStep) p, ss = l ++ p :: r → ∃ o, ops[p.i]? = some o ∧ ∀ e ∈ edgesOn o, ∃ x ∈ order ++ l, x.i = e
  | [], _, _, _, _, l, r, p, h => by simp at h
  | s :: ss, pre, T, h, hpre, l, r, p, he => by
    simp only [planB] at h
    split at h
    · cases h
    · rename_i o ho
      simp only [Bool.and_eq_true] at h
      obtain ⟨⟨⟨⟨_, h2⟩, _⟩, _⟩, h5⟩ := h
      cases l with
      | nil =>
        simp at he
        obtain ⟨rfl, rfl⟩ := he
        refine ⟨o, ho, fun e hee => ?_⟩
        rw [List.all_eq_true] at h2
        obtain ⟨x, hx, hxe⟩ := memS_iff.1 (h2 e hee)
        obtain ⟨y, hy, hye⟩ := (hpre e).1 ⟨x, hx, hxe⟩
        exact ⟨y, by simp [hy], hye⟩
      | cons q l =>
        simp at he
        obtain ⟨rfl, he⟩ := he
        obtain ⟨o', h1, h3⟩ := planB_order (order := order ++ [s]) h5 (fun i => by
          constructor
          · rintro ⟨x, hx, hxi⟩
            rcases List.mem_cons.1 hx with rfl | hx
            · exact ⟨x, by simp, hxi⟩
            · obtain ⟨y, hy, hyi⟩ := (hpre i).1 ⟨x, hx, hxi⟩
              exact ⟨y, by simp [hy], hyi⟩
          · rintro ⟨x, hx, hxi⟩
            rcases List.mem_append.1 hx with hx | hx
            · obtain ⟨y, hy, hyi⟩ := (hpre i).2 ⟨x, hx, hxi⟩
              exact ⟨y, by simp [hy], hyi⟩
            · simp at hx; subst hx; exact ⟨x, by simp, hxi⟩) l r p he
        exact ⟨o', h1, fun e hee => by obtain ⟨x, hx, hxe⟩ := h3 e hee; exact ⟨x, by simpa using hx, hxe⟩⟩

/-- a region whose order is drawn -/
theorem draw_e (hΓ : CtxOK P Γ) (hm : P.follows .mixedOrders = true) {id : Nat} {steps : List PStep} (hok : planOK ops Γ steps = true) {tm : List (Nat × SV)} {hp : List Blk} {ρ : Nat → Nat} {a : Act} {w : World}
    (hE : ∀ w', Ext (Foot ρ hp) w w' → Γ.E w') (ht : TmRel Γ.nt ρ hp.length tm a) (hr : HpRel ρ hp w) (h : vcDr Γ ops.toList steps [] tm hp K)
    (hQ : ∀ a' w' ρ' tm' hp', K ⟨tm', hp'⟩ → TmRel Γ.nt ρ' hp'.length tm' a' → Step ρ hp w ρ' hp' w' → Q .normal a' w') : (Code.region id ops true).wp P Q a w := by
  unfold planOK at hok
  simp only [Bool.and_eq_true, List.all_eq_true, List.mem_range] at hok
  obtain ⟨⟨hns, hall⟩, hpl⟩ := hok
  refine wp_region_any hm ?_
  have I : Inv P Γ ops K ρ hp w (Array.replicate ops.size false) a { w with drawn := w.drawn + 1 } [] steps [] tm hp ρ tm :=
    { size := by simp
      down := fun i o hi => by
        rw [Array.getD_eq_getD_getElem?, Array.getElem?_replicate] at hi
        split at hi <;> simp at hi
      real := fun i hi => by
        rw [Array.getD_eq_getD_getElem?, Array.getElem?_replicate] at hi
        split at hi <;> simp at hi
      virt := fun p hp => by cases hp
      get := fun x hx => by cases hx
      along := .nil
      nodup := .nil
      pairs := .nil
      rkind := fun x hx => by cases hx
      rmask := fun x hx => by cases hx
      mblk := fun x hx => by cases hx
      mone := fun x hx => by cases hx
      avoid := fun y hy => by simp [pend] at hy
      tmr := ht
      chain := fun t => rfl
      step := Step.world hr rfl rfl rfl rfl
      hpok := fun k el ps hk => (hr.mem k el ps hk).1
      a1 := fun t v hv => SV.ok_mono (fun x _ => by simp [pend, pendB]) v (ht.okay t v hv)
      a2 := fun k el ps _ hk => okL_mono (fun x _ => by simp [pend, pendB]) _ (hr.mem k el ps hk).1
      nsel := fun j o cs b ho => Region.noSelect_spec hns j o cs b ho
      plan := ⟨[], fun i k hk => by simp [tabOf] at hk, hpl⟩
      vc := h }
  refine I.any hΓ hE steps (fun i hi => memS_iff.1 (hall i hi)) (fun l r p he => ?_) hQ ops.size (by simp) ?_
  · obtain ⟨o, h1, h2⟩ := planB_order (order := []) hpl (fun i => by simp) l r p he
    exact ⟨o, h1, fun e hee => by simpa using h2 e hee⟩
  · unfold unl
    exact Nat.le_trans List.countP_le_length (by simp)
end
end Go.Sym

/-
  The symbolic engine, part 24: code - what the engine computes of it. No program in sight; no condition.
-/
namespace Go.Sym

/-- operations in text order -/
noncomputable def vcRg (Γ : Ctx) (all : List Oper) (os : List Oper) : List (Nat × SV) → List Blk → (St → Prop) → Prop :=
  List.rec (motive := fun _ => List (Nat × SV) → List Blk → (St → Prop) → Prop) (fun tm hp K => K ⟨tm, hp⟩) (fun o _ ih tm hp K => guardK all o tm
    (vcOp Γ o tm hp fun st => match st with | ⟨tm', hp'⟩ => ih tm' hp' K)
    (putK Γ.nt tm hp o.dst (.tup []) fun st => match st with | ⟨tm', hp'⟩ => ih tm' hp' K)) os
theorem vcRg_nil (Γ : Ctx) (all : List Oper) (tm : List (Nat × SV)) (hp : List Blk) (K : St → Prop) : vcRg Γ all [] tm hp K = K ⟨tm, hp⟩ := rfl
theorem vcRg_cons (Γ : Ctx) (all : List Oper) (o : Oper) (os : List Oper) (tm : List (Nat × SV)) (hp : List Blk) (K : St → Prop) : vcRg Γ all (o :: os) tm hp K = guardK all o tm
    (vcOp Γ o tm hp fun st => match st with | ⟨tm', hp'⟩ => vcRg Γ all os tm' hp' K)
    (putK Γ.nt tm hp o.dst (.tup []) fun st => match st with | ⟨tm', hp'⟩ => vcRg Γ all os tm' hp' K) := rfl

/-! ### one state is (more than) another, with its blocks renumbered -/
def preB : Nat → List Nat → Nat → Bool
  | 0, _, _ => true
  | _ + 1, [], _ => false
  | n + 1, g :: gs, k => match Nat.beq g k with | true => preB n gs (k + 1) | false => false
def eqLen : List Nat → List Blk → Bool
  | [], [] => true
  | _ :: gs, _ :: bs => eqLen gs bs
  | _, _ => false
def entHp (gl : List Nat) (n : Nat) (hp : List Blk) : List Nat → List Blk → Prop → Prop
  | g :: gs, b :: bs, p => match b with
    | .dead => entHp gl n hp gs bs p
    | .mk _ ps => match allL (fun k => Nat.blt k n) ps with
      | true => nthK hp g fun b' => match b' with
        | .mk _ qs => Same (.agg qs) ((SV.agg ps).ren (fwd gl 0)) (entHp gl n hp gs bs p)
        | .dead => False
      | false => False
  | _, _, p => p
def entTm (gl : List Nat) (n : Nat) (tm : List (Nat × SV)) : List (Nat × SV) → Prop → Prop
  | [], p => p
  | (t, v) :: r, p => match v.all (fun k => Nat.blt k n) with
    | true => lookK tm t fun u => Same u (v.ren (fwd gl 0)) (entTm gl n tm r p)
    | false => False
def entK (n0 : Nat) (gl : List Nat) (tm : List (Nat × SV)) (hp : List Blk) (tm' : List (Nat × SV)) (hp' : List Blk) (p : Prop) : Prop :=
  match eqLen gl hp', nodupB gl, preB n0 gl 0 with
  | true, true, true => lenK gl fun n => entHp gl n hp gl hp' (entTm gl n tm tm' p)
  | _, _, _ => False

/-- a loop: a family of states, one of which stands at its head; each round leads to a lesser one, or out -/
def LoopVC (n0 : Nat) (f : St → (St → Prop) → Prop) (st : St) : Prop :=
  ∃ (ι : Type) (I : ι → St) (μ : ι → Nat), (∃ i gl, entK n0 gl st.tm st.hp (I i).tm (I i).hp True) ∧
    ∀ i, f (I i) fun st' => ∃ j gl, μ j < μ i ∧ entK n0 gl st'.tm st'.hp (I j).tm (I j).hp True
/-- the end: the result and the heap, without what nobody needs -/
def FinalVC (n0 : Nat) (r : SV) (hp : List Blk) (K : SV → List Blk → Prop) : Prop :=
  ∃ gl r' hp', entK n0 gl [(0, r)] hp [(0, r')] hp' (K r' hp')
attribute [irreducible] LoopVC FinalVC
theorem loop_i {n0 : Nat} {f : St → (St → Prop) → Prop} {st : St} (ι : Type) (I : ι → St) (μ : ι → Nat) (i : ι) (gl : List Nat) (h0 : entK n0 gl st.tm st.hp (I i).tm (I i).hp True)
    (h : ∀ i, f (I i) fun st' => ∃ j gl, μ j < μ i ∧ entK n0 gl st'.tm st'.hp (I j).tm (I j).hp True) : LoopVC n0 f st := by
  unfold LoopVC; exact ⟨ι, I, μ, ⟨i, gl, h0⟩, h⟩
theorem loop_e {n0 : Nat} {f : St → (St → Prop) → Prop} {st : St} (h : LoopVC n0 f st) : ∃ (ι : Type) (I : ι → St) (μ : ι → Nat), (∃ i gl, entK n0 gl st.tm st.hp (I i).tm (I i).hp True) ∧
    ∀ i, f (I i) fun st' => ∃ j gl, μ j < μ i ∧ entK n0 gl st'.tm st'.hp (I j).tm (I j).hp True := by unfold LoopVC at h; exact h
theorem final_i {n0 : Nat} {r : SV} {hp : List Blk} {K : SV → List Blk → Prop} (gl : List Nat) (r' : SV) (hp' : List Blk) (h : entK n0 gl [(0, r)] hp [(0, r')] hp' (K r' hp')) : FinalVC n0 r hp K := by
  unfold FinalVC; exact ⟨gl, r', hp', h⟩
theorem final_e {n0 : Nat} {r : SV} {hp : List Blk} {K : SV → List Blk → Prop} (h : FinalVC n0 r hp K) : ∃ gl r' hp', entK n0 gl [(0, r)] hp [(0, r')] hp' (K r' hp') := by unfold FinalVC at h; exact h

/-- (by the code's own recursor) -/
noncomputable def vc (Γ : Ctx) (D : List (Nat × List PStep)) (n0 : Nat) (c : Code) : List (Nat × SV) → List Blk → (St → Prop) → (Nat → St → Prop) → (St → Prop) → Prop :=
  Code.rec (motive := fun _ => List (Nat × SV) → List Blk → (St → Prop) → (Nat → St → Prop) → (St → Prop) → Prop)
    (fun tm hp N _ _ => N ⟨tm, hp⟩)
    (fun id ops dr tm hp N _ _ => match dr with
      | false => vcRg Γ ops.toList ops.toList tm hp N
      | true => lookK D id fun steps => Pre (planOK ops Γ steps = true) (vcDr Γ ops.toList steps [] tm hp N))
    (fun _ _ iha ihb tm hp N X R => iha tm hp (fun st => match st with | ⟨tm', hp'⟩ => ihb tm' hp' N X R) X R)
    (fun c _ _ iha ihb tm hp N X R => evK tm c fun v => match v with
      | .bool t => CondVC t (iha tm hp N X R) (ihb tm hp N X R)
      | _ => False)
    (fun id _ ih tm hp N X R => ih tm hp N (fun i st => match Nat.beq i id with | true => N st | false => X i st) R)
    (fun _ ih tm hp _ X R => LoopVC n0 (fun st N' => match st with | ⟨tm', hp'⟩ => ih tm' hp' N' X R) ⟨tm, hp⟩)
    (fun _ _ _ _ _ _ _ _ _ _ _ => False)
    (fun id tm hp _ X _ => X id ⟨tm, hp⟩)
    (fun _ _ _ _ _ _ _ => False)
    (fun _ tm hp N _ _ => N ⟨tm, hp⟩)
    (fun _ _ _ _ _ _ => False)
    (fun tm hp _ _ R => R ⟨tm, hp⟩)
    (fun _ _ _ _ _ _ => False)
    c

section
variable {Γ : Ctx} {D : List (Nat × List PStep)} {n0 : Nat} {tm : List (Nat × SV)} {hp : List Blk} {N : St → Prop} {X : Nat → St → Prop} {R : St → Prop}
theorem vc_cond {c : Operand} {a b : Code} : vc Γ D n0 (.cond c a b) tm hp N X R = (evK tm c fun v => match v with
    | .bool t => CondVC t (vc Γ D n0 a tm hp N X R) (vc Γ D n0 b tm hp N X R)
    | _ => False) := rfl
theorem vc_loop {c : Code} : vc Γ D n0 (.loop c) tm hp N X R = LoopVC n0 (fun st N' => match st with | ⟨tm', hp'⟩ => vc Γ D n0 c tm' hp' N' X R) ⟨tm, hp⟩ := rfl
end

def resK (Γ : Ctx) (tm : List (Nat × SV)) (hp : List Blk) : List ResultVar → (List SV → Prop) → Prop
  | [], k => k []
  | .tmp t :: r, k => lookK tm t fun v => resK Γ tm hp r fun vs => k (v :: vs)
  | .cell a t :: r, k => lookK Γ.ty t fun ti => lookK tm a fun v => match v with
    | .ptr q j b oo => partsK hp q fun _ ps => loadK ti ps j b oo fun v => resK Γ tm hp r fun vs => k (v :: vs)
    | _ => False
def oneK (vs : List SV) (k : SV → Prop) : Prop :=
  match vs with
  | [v] => k v
  | vs => k (.tup vs)
def entryK : List SV → Nat → (List (Nat × SV) → Prop) → Prop
  | [], _, k => k []
  | v :: vs, i, k => entryK vs (i + 1) fun tm => k ((i, v) :: tm)

/-- what is left to prove of a function's body -/
noncomputable def fnVC (Γ : Ctx) (D : List (Nat × List PStep)) (c : Code) (res : List ResultVar) (args : List SV) (hp : List Blk) (K : SV → List Blk → Prop) : Prop :=
  entryK args 0 fun tm => lenK hp fun n0 =>
    vc Γ D n0 c tm hp (fun st => match st with | ⟨tm', hp'⟩ => resK Γ tm' hp' res fun vs => oneK vs fun r => FinalVC n0 r hp' K)
      (fun _ _ => False) (fun st => match st with | ⟨tm', hp'⟩ => resK Γ tm' hp' res fun vs => oneK vs fun r => FinalVC n0 r hp' K)

end Go.Sym

/-
  The symbolic engine, part 25: code does what the engine says. No program in sight; no condition beyond each lemma's own.
-/
namespace Go.Sym

section
variable {P : Program} {Γ : Ctx} {ops : Array Oper} {Q : Exit → Act → World → Prop} {ρ0 : Nat → Nat} {hp0 : List Blk} {w0 : World}
variable {a : Act} {w : World} {tm : List (Nat × SV)} {hp : List Blk} {ρ : Nat → Nat}

/-- an act and a world that are as a symbolic state says; hp0, w0: where the function began -/
def Rel (Γ : Ctx) (ρ0 : Nat → Nat) (hp0 : List Blk) (w0 : World) (st : St) (a : Act) (w : World) : Prop :=
  ∃ ρ, TmRel Γ.nt ρ st.hp.length st.tm a ∧ Step ρ0 hp0 w0 ρ st.hp w

theorem vcOp_e (hΓ : CtxOK P Γ) (hE : ∀ w', Ext (Foot ρ0 hp0) w0 w' → Γ.E w') {i : Nat} {o : Oper} (ho : ops[i]? = some o) (hw : Region.wanted o (yielded ops a.tmps) = true) (ht : TmRel Γ.nt ρ hp.length tm a) (S : Step ρ0 hp0 w0 ρ hp w) {K : St → Prop} (h : vcOp Γ o tm hp K)
    {Kc : Act → World → Prop} (hK : ∀ a' w' st, K st → Rel Γ ρ0 hp0 w0 st a' w' → Kc a' w') : wpOp P ops Q i Kc a w := by
  have hval : ∀ (v : SV) (ρ' : Nat → Nat) (hp1 : List Blk) (w' : World), v.ok (· < hp1.length) → Step ρ hp w ρ' hp1 w' → putK Γ.nt tm hp1 o.dst v K → Kc (a.put o.dst (v.den ρ')) w' := fun v ρ' hp1 w' hv T hk => by
    obtain ⟨hd, hk⟩ := putK_e' hk
    exact hK _ _ _ hk ⟨ρ', (ht.later T.same T.le).put hd hv, S.trans T⟩
  unfold vcOp at h
  split at h
  · obtain ⟨v, h1, hv, hr⟩ := pureK_e (P := P) hΓ ht o h
    exact wpOp_value ho hw (hr w) (hval v ρ hp w hv (Step.refl S.rel) h1)
  · obtain ⟨v, h1, hv, hr⟩ := readK_e (P := P) hΓ S.rel ht o h
    exact wpOp_value ho hw (hr (hE w S.ext)) (hval v ρ hp w hv (Step.refl S.rel) h1)
  · have h := lenK_e h
    obtain ⟨v, el, ps, h1, hv, hps, hr⟩ := makerK_e (P := P) hΓ ht o h
    have h1 := snocK_e h1
    refine wpOp_value ho hw (hr (bump ρ hp.length w.heap.size) w bump_self) (hval v _ _ _ (SV.ok_mono (fun x hx => by rw [hx]; simp) v hv) (Step.alloc (el0 := el) (fz := (0, 0)) S.rel hps rfl (.inl (Nat.le_refl _)) rfl rfl rfl) h1)
  · rcases anchorK_e (P := P) hΓ S.rel ht o h with ⟨v, ρ', hp1, w', hr, hv, T, hf⟩ | ⟨hp1, w', hr, T, hf⟩ | ⟨f, args, hr, hc⟩
    · exact wpOp_value ho hw hr (hval v ρ' hp1 w' hv T hf)
    · unfold wpOp
      simp only [ho, hw, if_true, Oper.wp, hr, Oper.upon]
      refine .inl ?_
      cases hd : o.dst with
      | none => rw [hd] at hf; exact hK _ _ _ hf ⟨ρ, ht.later T.same T.le, S.trans T⟩
      | some d => rw [hd] at hf; exact hf.elim
    · unfold wpOp
      simp only [ho, hw, if_true, Oper.wp, hr, Oper.upon]
      refine .inl (hc.mono fun e w' ⟨v, ρ', hp1, he, hv, T, hf⟩ => ?_)
      subst he
      exact hval v ρ' hp1 w' hv T hf

theorem vcRg_e (hΓ : CtxOK P Γ) (hE : ∀ w', Ext (Foot ρ0 hp0) w0 w' → Γ.E w') {K : St → Prop} (hK : ∀ a' w' st, K st → Rel Γ ρ0 hp0 w0 st a' w' → Q .normal a' w') :
    ∀ (os : List Oper) (n : Nat) {tm : List (Nat × SV)} {hp : List Blk} {ρ : Nat → Nat} {a : Act} {w : World}, (∀ k, os[k]? = ops[n + k]?) → TmRel Γ.nt ρ hp.length tm a → Step ρ0 hp0 w0 ρ hp w → vcRg Γ ops.toList os tm hp K →
      wpOps P ops Q (List.range' n os.length) a w
  | [], n, tm, hp, ρ, a, w, _, ht, S, h => hK a w _ h ⟨ρ, ht, S⟩
  | o :: os, n, tm, hp, ρ, a, w, hos, ht, S, h => by
    have ho : ops[n]? = some o := by simpa using (hos 0).symm
    have hos' : ∀ k, os[k]? = ops[n + 1 + k]? := fun k => by
      have := hos (k + 1)
      rw [List.getElem?_cons_succ] at this
      rw [this]; congr 1; omega
    rw [List.length_cons, List.range'_succ, wpOps_cons]
    rw [vcRg_cons] at h
    rcases guardK_e (Γ := Γ) (n := hp.length) h with ⟨hw, h⟩ | ⟨hw, h⟩
    · refine vcOp_e (ρ0 := ρ0) (hp0 := hp0) (w0 := w0) hΓ hE ho (hw ρ a ht) ht S h fun a' w' st hst hrel => ?_
      obtain ⟨ρ', ht', S'⟩ := hrel
      exact vcRg_e hΓ hE hK os (n + 1) hos' ht' S' hst
    · obtain ⟨hd, h⟩ := putK_e' h
      unfold wpOp
      simp only [ho, hw ρ a ht, Bool.false_eq_true, if_false]
      exact vcRg_e hΓ hE hK os (n + 1) hos' (ht.put hd (v := .tup []) (by simp [SV.ok, okL])) S h

/-! ### renumbering -/
theorem SV.ok_unren {p : Nat → Prop} (g : Nat → Nat) : ∀ v : SV, (v.ren g).ok p → v.ok (fun k => p (g k)) := by
  intro v
  refine SV.rec (motive_1 := fun v => (v.ren g).ok p → v.ok (fun k => p (g k))) (motive_2 := fun vs => okL p (renL g vs) → okL (fun k => p (g k)) vs)
    ?_ ?_ ?_ ?_ ?_ ?_ ?_ ?_ ?_ ?_ ?_ ?_ ?_ ?_ ?_ ?_ ?_ ?_ ?_ ?_ ?_ ?_ ?_ ?_ ?_ ?_ ?_ v
  case refine_26 => intro _; trivial
  case refine_27 => intro v vs ihv ihs h; exact ⟨ihv h.1, ihs h.2⟩
  all_goals first
    | (intros; rename_i h; first | exact h | trivial)
    | (intro ps ih h; exact ih h)
    | (intro a ps ih h; exact ih h)

theorem preB_e : ∀ {n : Nat} {gl : List Nat} {k : Nat}, preB n gl k = true → n ≤ gl.length ∧ ∀ i, i < n → gl[i]? = some (k + i)
  | 0, _, _, _ => ⟨Nat.zero_le _, fun i hi => by omega⟩
  | n + 1, [], _, h => by simp [preB] at h
  | n + 1, g :: gs, k, h => by
    simp only [preB] at h
    split at h
    · rename_i e
      obtain ⟨h1, h2⟩ := preB_e h
      refine ⟨by simp; omega, fun i hi => ?_⟩
      cases i with
      | zero => simp [Nat.eq_of_beq_eq_true e]
      | succ i => rw [List.getElem?_cons_succ, h2 i (by omega)]; congr 1; omega
    · cases h
theorem eqLen_e : ∀ {gl : List Nat} {hp : List Blk}, eqLen gl hp = true → gl.length = hp.length
  | [], [], _ => rfl
  | _ :: gs, _ :: bs, h => by simp [eqLen_e (gl := gs) (hp := bs) h]
  | [], _ :: _, h => by simp [eqLen] at h
  | _ :: _, [], h => by simp [eqLen] at h

theorem entHp_e {gl : List Nat} {n : Nat} {hp : List Blk} : ∀ {gs : List Nat} {bs : List Blk} {p : Prop}, gs.length = bs.length → entHp gl n hp gs bs p →
    p ∧ ∀ (k : Nat) el ps, bs[k]? = some (Blk.mk el ps) → allL (fun k => Nat.blt k n) ps = true ∧ ∃ g el', gs[k]? = some g ∧ hp[g]? = some (.mk el' (renL (fwd gl 0) ps))
  | [], [], p, _, h => ⟨h, by simp⟩
  | g :: gs, b :: bs, p, hl, h => by
    simp only [entHp] at h
    simp at hl
    split at h
    · obtain ⟨h1, h2⟩ := entHp_e hl h
      refine ⟨h1, fun k el ps hk => ?_⟩
      cases k with
      | zero => simp at hk
      | succ k => simpa using h2 k el ps (by simpa using hk)
    · rename_i el qs
      split at h
      · rename_i hall
        obtain ⟨b', hb', h⟩ := nthK_e h
        split at h
        · rename_i el' rs
          obtain ⟨he, h⟩ := same_e h
          obtain ⟨h1, h2⟩ := entHp_e hl h
          refine ⟨h1, fun k el ps hk => ?_⟩
          cases k with
          | zero =>
            simp at hk
            obtain ⟨rfl, rfl⟩ := hk
            simp only [SV.ren] at he
            cases he
            exact ⟨hall, g, el', by simp, hb'⟩
          | succ k => simpa using h2 k el ps (by simpa using hk)
        · exact h.elim
      · exact h.elim
theorem entTm_e {gl : List Nat} {n : Nat} {tm : List (Nat × SV)} : ∀ {r : List (Nat × SV)} {p : Prop}, entTm gl n tm r p →
    p ∧ ∀ t v, look r t = some v → v.all (fun k => Nat.blt k n) = true ∧ look tm t = some (v.ren (fwd gl 0))
  | [], p, h => ⟨h, fun t v hv => by cases hv⟩
  | (t, v) :: r, p, h => by
    simp only [entTm] at h
    split at h
    · rename_i hall
      obtain ⟨u, hu, h⟩ := lookK_e h
      obtain ⟨hs, hn⟩ := same_e h
      subst hs
      obtain ⟨h1, h2⟩ := entTm_e (tm := tm) (gl := gl) (n := n) hn
      refine ⟨h1, fun t' v' hv' => ?_⟩
      simp only [look] at hv'
      split at hv'
      · rename_i e; subst e; cases hv'; exact ⟨hall, hu⟩
      · exact h2 t' v' hv'
    · exact h.elim

theorem entK_e {gl : List Nat} {tm' : List (Nat × SV)} {hp' : List Blk} {p : Prop} (h : entK hp0.length gl tm hp tm' hp' p) (ht : TmRel Γ.nt ρ hp.length tm a) (S : Step ρ0 hp0 w0 ρ hp w) :
    p ∧ TmRel Γ.nt (fun k => ρ (fwd gl 0 k)) hp'.length tm' a ∧ Step ρ0 hp0 w0 (fun k => ρ (fwd gl 0 k)) hp' w ∧
      ∀ t v, look tm' t = some v → v.ok (· < hp'.length) ∧ look tm t = some (v.ren (fwd gl 0)) := by
  unfold entK at h
  split at h
  · rename_i h1 h2 h3
    have hlen := eqLen_e h1
    have h := lenK_e h
    obtain ⟨h, hb⟩ := entHp_e hlen h
    obtain ⟨hp_, htm⟩ := entTm_e h
    obtain ⟨hle, hpre⟩ := preB_e h3
    have hblk : ∀ (k : Nat) el ps, hp'[k]? = some (Blk.mk el ps) → ∃ el', hp[fwd gl 0 k]? = some (Blk.mk el' (renL (fwd gl 0) ps)) ∧ gl[k]? = some (fwd gl 0 k) ∧ okL (· < hp'.length) ps := fun k el ps hk => by
      obtain ⟨hall, g, el', hg, hh⟩ := hb k el ps hk
      have hf : fwd gl 0 k = g := fwd_get hg
      refine ⟨el', by rw [hf]; exact hh, by rw [hf]; exact hg, ?_⟩
      have hok := (S.rel.mem g el' _ hh).1
      have := SV.ok_all (SV.agg ps) (SV.ok_unren (fwd gl 0) (.agg ps) hok) hall
      rw [hlen] at this
      exact okL_mono (fun x hx => Nat.le_of_ble_eq_true hx) _ this
    have hv : ∀ t v, look tm' t = some v → v.ok (· < hp'.length) ∧ look tm t = some (v.ren (fwd gl 0)) := fun t v hv => by
      obtain ⟨hall, hl⟩ := htm t v hv
      have := SV.ok_all v (SV.ok_unren (fwd gl 0) v (ht.val t _ hl).1) hall
      rw [hlen] at this
      exact ⟨SV.ok_mono (fun x hx => Nat.le_of_ble_eq_true hx) v this, hl⟩
    refine ⟨hp_, ⟨ht.size, ht.defers, fun t v hv' => ?_⟩, ⟨⟨fun k el ps hk => ?_, fun k k' el ps el' ps' hk hk' he => ?_⟩, fun k hk => ?_, by rw [← hlen]; exact hle, S.ext, ?_⟩, hv⟩
    · obtain ⟨h5, h6⟩ := hv t v hv'
      refine ⟨h5, ?_⟩
      rw [(ht.val t _ h6).2, SV.den_ren]
    · obtain ⟨el', hh, _, hok⟩ := hblk k el ps hk
      obtain ⟨_, el2, fz, g1, g2⟩ := S.rel.mem _ _ _ hh
      rw [cellsL_ren] at g1 g2
      exact ⟨hok, el2, fz, g1, g2⟩
    · obtain ⟨e1, f1, g1, _⟩ := hblk k el ps hk
      obtain ⟨e2, f2, g2, _⟩ := hblk k' el' ps' hk'
      have := S.rel.inj _ _ _ _ _ _ f1 f2 he
      rw [this] at g1
      exact nodup_inj h2 g1 g2
    · have := hpre k hk
      rw [Nat.zero_add] at this
      show ρ (fwd gl 0 k) = ρ0 k
      rw [fwd_get this]; exact S.same k hk
    · rintro b ⟨k, el, ps, hk, rfl⟩
      obtain ⟨e1, f1, _⟩ := hblk k el ps hk
      exact S.foot _ ⟨_, _, _, f1, rfl⟩
  · exact h.elim

/-! ### code -/
theorem least {p : Nat → Prop} (h : ∃ n, p n) : ∃ n, p n ∧ ∀ m, p m → n ≤ m := by
  obtain ⟨n, hn⟩ := h
  induction n using Nat.strongRecOn with
  | _ n ih =>
    by_cases hl : ∃ m, m < n ∧ p m
    · obtain ⟨m, hm, hp⟩ := hl; exact ih m hm hp
    · exact ⟨n, hn, fun m hp => Nat.le_of_not_lt fun hlt => hl ⟨m, hlt, hp⟩⟩
theorem vc_e (hΓ : CtxOK P Γ) (hE : ∀ w', Ext (Foot ρ0 hp0) w0 w' → Γ.E w') (hm : P.follows .mixedOrders = true) {D : List (Nat × List PStep)} : ∀ (c : Code) {tm : List (Nat × SV)} {hp : List Blk} {ρ : Nat → Nat} {a : Act} {w : World} {N : St → Prop} {X : Nat → St → Prop} {R : St → Prop} {Q : Exit → Act → World → Prop},
    vc Γ D hp0.length c tm hp N X R → TmRel Γ.nt ρ hp.length tm a → Step ρ0 hp0 w0 ρ hp w →
    (∀ st a w, N st → Rel Γ ρ0 hp0 w0 st a w → Q .normal a w) → (∀ id st a w, X id st → Rel Γ ρ0 hp0 w0 st a w → Q (.exit id) a w) → (∀ st a w, R st → Rel Γ ρ0 hp0 w0 st a w → Q .ret a w) → c.wp P Q a w
  | .skip, _, _, ρ, _, _, _, _, _, _, h, ht, S, hN, _, _ => wp_skip (hN _ _ _ h ⟨ρ, ht, S⟩)
  | .label _, _, _, ρ, _, _, _, _, _, _, h, ht, S, hN, _, _ => wp_label (hN _ _ _ h ⟨ρ, ht, S⟩)
  | .exit id, _, _, ρ, _, _, _, _, _, _, h, ht, S, _, hX, _ => wp_exit (hX id _ _ _ h ⟨ρ, ht, S⟩)
  | .ret, _, _, ρ, _, _, _, _, _, _, h, ht, S, _, _, hR => wp_ret (hR _ _ _ h ⟨ρ, ht, S⟩)
  | .region id ops dr, tm, hp, ρ, a, w, N, X, R, Q, h, ht, S, hN, _, _ => by
    cases dr with
    | false =>
      refine wp_region ?_
      have h : vcRg Γ ops.toList ops.toList tm hp N := h
      have := vcRg_e (Q := Q) hΓ hE (fun a' w' st => hN st a' w') ops.toList 0 (fun k => by simp) ht S h
      rw [List.range_eq_range']
      simpa using this
    | true =>
      have h : lookK D id fun steps => Pre (planOK ops Γ steps = true) (vcDr Γ ops.toList steps [] tm hp N) := h
      obtain ⟨steps, _, h⟩ := lookK_e h
      obtain ⟨hok, h⟩ := pre_e h
      exact draw_e hΓ hm hok (fun w' hx => hE w' (S.ext.trans hx S.foot)) ht S.rel h fun a' w' ρ' tm' hp' hk ht' T => hN _ _ _ hk ⟨ρ', ht', S.trans T⟩
  | .seq x y, tm, hp, ρ, a, w, N, X, R, Q, h, ht, S, hN, hX, hR => by
    refine wp_seq (vc_e hΓ hE hm x (N := fun st => match st with | ⟨tm', hp'⟩ => vc Γ D hp0.length y tm' hp' N X R) h ht S (fun st a w hst hrel => ?_) (fun id st a w hst hrel => hX id st a w hst hrel) (fun st a w hst hrel => hR st a w hst hrel))
    obtain ⟨ρ', ht', S'⟩ := hrel
    exact vc_e hΓ hE hm y hst ht' S' hN hX hR
  | .cond c x y, tm, hp, ρ, a, w, N, X, R, Q, h, ht, S, hN, hX, hR => by
    rw [vc_cond] at h
    obtain ⟨v, hok, hv, h⟩ := evK_e ht h
    clear hok
    split at h
    · rename_i t
      obtain ⟨h1, h2⟩ := cond_e h
      exact wp_cond_split (t := t) (by rw [hv]; rfl) (fun e => vc_e hΓ hE hm x (h1 e) ht S hN hX hR) (fun e => vc_e hΓ hE hm y (h2 e) ht S hN hX hR)
    · exact h.elim
  | .block id c, tm, hp, ρ, a, w, N, X, R, Q, h, ht, S, hN, hX, hR => by
    refine wp_block (vc_e hΓ hE hm c h ht S (fun st a w hst hrel => hN st a w hst hrel) (fun i st a w hst hrel => ?_) (fun st a w hst hrel => hR st a w hst hrel))
    split at hst
    · rename_i e
      have : i = id := Nat.eq_of_beq_eq_true e
      simp only [Exit.inBlock, this, if_true]
      exact hN st a w hst hrel
    · rename_i e
      have : i ≠ id := Nat.ne_of_beq_eq_false e
      simp only [Exit.inBlock, this, if_false]
      exact hX i st a w hst hrel
  | .loop c, tm, hp, ρ, a, w, N, X, R, Q, h, ht, S, hN, hX, hR => by
    rw [vc_loop] at h
    obtain ⟨ι, I, μ, ⟨i, gl, h0⟩, hr⟩ := loop_e h
    obtain ⟨_, ht0, S0, _⟩ := entK_e h0 ht S
    classical
    have hex : ∀ a w, (∃ i, Rel Γ ρ0 hp0 w0 (I i) a w) → ∃ n i, Rel Γ ρ0 hp0 w0 (I i) a w ∧ μ i = n := fun a w ⟨i, hi⟩ => ⟨μ i, i, hi, rfl⟩
    let M : Act → World → Nat := fun a w => if h : ∃ n i, Rel Γ ρ0 hp0 w0 (I i) a w ∧ μ i = n then Classical.choose (least h) else 0
    refine wp_loop (fun a w => ∃ i, Rel Γ ρ0 hp0 w0 (I i) a w) M ⟨i, _, ht0, S0⟩ fun a w hI => ?_
    have hne := hex a w hI
    have hM : M a w = Classical.choose (least hne) := by simp only [M]; rw [dif_pos hne]
    obtain ⟨i, ⟨ρ1, ht1, S1⟩, hi⟩ := (Classical.choose_spec (least hne)).1
    refine vc_e hΓ hE hm c (hr i) ht1 S1 (fun st a' w' hst hrel => ?_) (fun id st a w hst hrel => hX id st a w hst hrel) (fun st a w hst hrel => hR st a w hst hrel)
    obtain ⟨j, gl, hlt, hent⟩ := hst
    obtain ⟨ρ2, ht2, S2⟩ := hrel
    obtain ⟨_, ht3, S3, _⟩ := entK_e hent ht2 S2
    have hj : Rel Γ ρ0 hp0 w0 (I j) a' w' := ⟨_, ht3, S3⟩
    refine ⟨⟨j, hj⟩, ?_⟩
    have hne' := hex a' w' ⟨j, hj⟩
    have : M a' w' ≤ μ j := by
      simp only [M]; rw [dif_pos hne']
      exact (Classical.choose_spec (least hne')).2 _ ⟨j, hj, rfl⟩
    rw [hM, ← hi]
    omega
  | .rangeFunc .., _, _, _, _, _, _, _, _, _, h, _, _, _, _, _ => h.elim
  | .scope _, _, _, _, _, _, _, _, _, _, h, _, _, _, _, _ => h.elim
  | .goto _, _, _, _, _, _, _, _, _, _, h, _, _, _, _, _ => h.elim
end
end Go.Sym

/-
  The symbolic engine, part 26: functions. No program in sight; no condition beyond each lemma's own.
-/
namespace Go.Sym

section
variable {P : Program} {Γ : Ctx} {ρ0 : Nat → Nat} {hp0 : List Blk} {w0 : World}
variable {a : Act} {w : World} {tm : List (Nat × SV)} {hp : List Blk} {ρ : Nat → Nat}

/-- what a result variable holds -/
def resVal (a : Act) : ResultVar → Sem Value
  | .tmp t => pure (a.tmps.getD t undef)
  | .cell c t => do loadVar t (← asAddr (a.tmps.getD c undef))

theorem resK_e (hΓ : CtxOK P Γ) (hr : HpRel ρ hp w) (ht : TmRel Γ.nt ρ hp.length tm a) : ∀ {rs : List ResultVar} {k : List SV → Prop}, resK Γ tm hp rs k →
    ∃ vs, k vs ∧ okL (· < hp.length) vs ∧ (rs.mapM (resVal a)).run P w = .ok (denL ρ vs) w
  | [], k, h => ⟨[], h, trivial, by simp [denL, Sem.run_pure]⟩
  | .tmp t :: rs, k, h => by
    simp only [resK] at h
    obtain ⟨v, hv, h⟩ := lookK_e h
    obtain ⟨vs, h1, h2, h3⟩ := resK_e hΓ hr ht h
    obtain ⟨g1, g2⟩ := ht.val t v hv
    refine ⟨v :: vs, h1, ⟨g1, h2⟩, ?_⟩
    have : a.tmps.getD t undef = v.den ρ := by simp [g2]
    rw [List.mapM_cons]
    simp only [resVal, this, Sem.run_bind, Sem.run_pure, Result.andThen_ok, h3, denL]
  | .cell c t :: rs, k, h => by
    simp only [resK] at h
    obtain ⟨ti, hti, h⟩ := lookK_e h
    obtain ⟨v, hv, h⟩ := lookK_e h
    obtain ⟨g1, g2⟩ := ht.val c v hv
    split at h
    · rename_i q j b oo
      obtain ⟨el, ps, hk, h⟩ := partsK_e h
      obtain ⟨hok, _⟩ := hr.mem q el ps hk
      obtain ⟨u, h, hu, hl⟩ := loadK_e (ρ := ρ) hok h
      obtain ⟨vs, h1, h2, h3⟩ := resK_e hΓ hr ht h
      refine ⟨u :: vs, h1, ⟨hu, h2⟩, ?_⟩
      have : a.tmps.getD c undef = .pointer (some ⟨ρ q, b + off oo, none⟩) := by simp [g2, SV.den]
      rw [List.mapM_cons]
      have hload := run_loadVar' (P := P) (hΓ.ty t ti hti) (fun i => hr.cell hk i) hl
      simp only [resVal, this, Sem.run_bind, asAddr, Sem.run_pure, Result.andThen_ok, hload, h3, denL]
    · exact h.elim

theorem oneK_e {vs : List SV} {k : SV → Prop} (h : oneK vs k) (hok : okL (· < hp.length) vs) : ∃ r, k r ∧ r.ok (· < hp.length) ∧ r.den ρ = (if h : (denL ρ vs).toArray.size = 1 then (denL ρ vs).toArray[0] else .tuple (denL ρ vs).toArray) := by
  unfold oneK at h
  split at h
  · rename_i v
    exact ⟨v, h, hok.1, by simp [denL]⟩
  · rename_i hne
    refine ⟨.tup vs, h, hok, ?_⟩
    have : ¬ (denL ρ vs).toArray.size = 1 := by
      rw [List.size_toArray, denL_length]
      intro h1
      match vs, h1 with
      | [v], _ => exact hne v rfl
    rw [dif_neg this]; rfl

theorem run_results {fn : Func} {vs : List SV} (h : (fn.results.toList.mapM (resVal a)).run P w = .ok (denL ρ vs) w) :
    (results fn a.tmps).run P w = .ok (if h : (denL ρ vs).toArray.size = 1 then (denL ρ vs).toArray[0] else .tuple (denL ρ vs).toArray) w := by
  have e2 : (fn.results.mapM (resVal a) : Sem (Array Value)) = List.toArray <$> fn.results.toList.mapM (resVal a) := by
    rw [Array.mapM_eq_mapM_toList]
  have e3 : (List.toArray <$> fn.results.toList.mapM (resVal a) : Sem (Array Value)).run P w = .ok (denL ρ vs).toArray w := by
    rw [← bind_pure_comp, Sem.run_bind, h]; rfl
  show Sem.run P (fn.results.mapM (resVal a) >>= fun vs => pure (if h : vs.size = 1 then vs[0] else .tuple vs)) w = _
  rw [Sem.run_bind, e2, e3]
  rfl

theorem entryK_e : ∀ {args : List SV} {i : Nat} {k : List (Nat × SV) → Prop}, entryK args i k → ∃ tm, k tm ∧ ∀ t v, look tm t = some v → i ≤ t ∧ args[t - i]? = some v
  | [], i, k, h => ⟨[], h, fun t v hv => by cases hv⟩
  | x :: xs, i, k, h => by
    simp only [entryK] at h
    obtain ⟨tm, h1, h2⟩ := entryK_e h
    refine ⟨(i, x) :: tm, h1, fun t v hv => ?_⟩
    simp only [look] at hv
    split at hv
    · rename_i e; subst e; cases hv; simp
    · obtain ⟨g1, g2⟩ := h2 t v hv
      refine ⟨by omega, ?_⟩
      have : t - i = (t - (i + 1)) + 1 := by omega
      rw [this, List.getElem?_cons_succ]; exact g2

/-- a call whose body the engine has been through -/
theorem call_fn (hΓ : CtxOK P Γ) (hm : P.follows .mixedOrders = true) {f : FuncId} {fn : Func} {c : Code} (hf : P.funcs[f]? = some fn) (hb : fn.body = some c)
    (hnt : fn.ntmps = Γ.nt) {D : List (Nat × List PStep)} {args : List SV} {hp : List Blk} {K : SV → List Blk → Prop} (hl : args.length ≤ Γ.nt)
    (hv : fnVC Γ D c fn.results.toList args hp K) {ρ : Nat → Nat} {w : World} (hE : ∀ w', Ext (Foot ρ hp) w w' → Γ.E w') (hr : HpRel ρ hp w) (hargs : okL (· < hp.length) args) :
    Calls P f (denL ρ args).toArray w fun e w' => ∃ r ρ' hp', e = .returned (r.den ρ') ∧ Post K ρ hp w r ρ' hp' w' := by
  refine calls_of_wp hf hb ?_
  unfold fnVC at hv
  obtain ⟨tm, hv, htm⟩ := entryK_e hv
  have hv := lenK_e hv
  have hsz : ((denL ρ args).toArray).size = args.length := by rw [List.size_toArray, denL_length]
  have ht : TmRel Γ.nt ρ hp.length tm { tmps := (denL ρ args).toArray ++ Array.replicate (fn.ntmps - (denL ρ args).toArray.size) undef, defers := [] } := by
    refine ⟨?_, rfl, fun t v hlk => ?_⟩
    · simp only [Array.size_append, Array.size_replicate, hsz, hnt]; omega
    · obtain ⟨_, h2⟩ := htm t v hlk
      rw [Nat.sub_zero] at h2
      refine ⟨okL_get hargs h2, ?_⟩
      have hden := denL_get (ρ := ρ) h2
      have hlt : t < (denL ρ args).toArray.size := by rw [hsz]; exact (List.getElem?_eq_some_iff.1 h2).1
      rw [Array.getElem?_append_left hlt]
      simpa using hden
  have fin : ∀ (st : St) (a : Act) (w' : World), (match st with | ⟨tm', hp'⟩ => resK Γ tm' hp' fn.results.toList fun vs => oneK vs fun r => FinalVC hp.length r hp' K) → Rel Γ ρ hp w st a w' →
      a.defers = [] ∧ ∃ v, (results fn a.tmps).run P w' = .ok v w' ∧ ∃ r ρ' hp', Ending.returned v = .returned (r.den ρ') ∧ Post K ρ hp w r ρ' hp' w' := by
    rintro ⟨tm', hp'⟩ a w' hst ⟨ρ1, ht1, S1⟩
    obtain ⟨vs, h1, h2, h3⟩ := resK_e hΓ S1.rel ht1 hst
    obtain ⟨r, h4, h5, h6⟩ := oneK_e (ρ := ρ1) h1 h2
    obtain ⟨gl, r', hp2, h7⟩ := final_e h4
    -- an act whose only slot is the result
    let b : Act := { tmps := #[r.den ρ1], defers := [] }
    have htb : TmRel 1 ρ1 hp'.length [(0, r)] b := ⟨rfl, rfl, fun t v hv => by
      simp only [look] at hv
      split at hv
      · rename_i e; subst e; cases hv; exact ⟨h5, rfl⟩
      · cases hv⟩
    obtain ⟨h8, htb', S2, h9⟩ := entK_e (Γ := { Γ with nt := 1 }) h7 htb S1
    obtain ⟨h10, h11⟩ := h9 0 r' rfl
    have hr' : r = r'.ren (fwd gl 0) := by
      simp only [look] at h11
      exact Option.some.inj h11
    refine ⟨ht1.defers, r.den ρ1, ?_, r', _, hp2, ?_, h8, h10, S2⟩
    · rw [run_results h3, h6]
    · rw [hr', SV.den_ren]
  refine vc_e hΓ hE hm c hv ht (Step.refl hr) (fun st a w' hst hrel => ?_) (fun id st a w' hst hrel => hst.elim) (fun st a w' hst hrel => ?_)
  · exact fin st a w' hst hrel
  · exact fin st a w' hst hrel

/-- a function whose body the engine has been through -/
theorem sound_fn (hΓ : CtxOK P Γ) (hE : ∀ w, Γ.E w) (hm : P.follows .mixedOrders = true) {f : FuncId} {fn : Func} {c : Code} (hf : P.funcs[f]? = some fn) (hb : fn.body = some c) (hcall : ∀ args w, (callFunc f args).run P w = .ok (.enter f args) w)
    (hnt : fn.ntmps = Γ.nt) {D : List (Nat × List PStep)} {S : Spec} (hlen : ∀ args hp K, S args hp K → args.length ≤ Γ.nt)
    (h : ∀ args hp K, S args hp K → fnVC Γ D c fn.results.toList args hp K) : SoundC P f S := by
  intro args hp K hS ρ w hr hargs
  exact .inr ⟨hcall _ _, call_fn hΓ hm hf hb hnt (hlen _ _ _ hS) (h _ _ _ hS) (fun w' _ => hE w') hr hargs⟩

/-! ### the end of a function -/
theorem nthK_imp {α : Type} {g g' : α → Prop} (hg : ∀ b, g b → g' b) : ∀ {l : List α} {i : Nat}, nthK l i g → nthK l i g'
  | [], _, h => h
  | _ :: _, 0, h => hg _ h
  | _ :: xs, i + 1, h => nthK_imp hg (l := xs) (i := i) h
theorem lookK_imp {α : Type} {g g' : α → Prop} (hg : ∀ b, g b → g' b) : ∀ {l : List (Nat × α)} {i : Nat}, lookK l i g → lookK l i g'
  | [], _, h => h
  | (j, v) :: xs, i, h => by
    simp only [lookK] at h ⊢
    split
    · rename_i e; rw [e] at h; exact hg _ h
    · rename_i e; rw [e] at h; exact lookK_imp hg h
theorem entHp_imp {gl : List Nat} {n : Nat} {hp : List Blk} {p q : Prop} (f : p → q) : ∀ {gs : List Nat} {bs : List Blk}, entHp gl n hp gs bs p → entHp gl n hp gs bs q
  | [], _, h => f h
  | _ :: _, [], h => f h
  | g :: gs, b :: bs, h => by
    cases b with
    | dead => exact entHp_imp f (gs := gs) (bs := bs) h
    | mk el ps =>
      simp only [entHp] at h ⊢
      split
      · rename_i e
        rw [e] at h
        refine nthK_imp (fun b' hb => ?_) h
        cases b' with
        | dead => exact hb
        | mk el' qs =>
          obtain ⟨h1, h2⟩ := same_e hb
          dsimp only
          rw [h1]
          exact same_i (entHp_imp f h2)
      · rename_i e; rw [e] at h; exact h
theorem entTm_imp {gl : List Nat} {n : Nat} {tm : List (Nat × SV)} {p q : Prop} (f : p → q) : ∀ {r : List (Nat × SV)}, entTm gl n tm r p → entTm gl n tm r q
  | [], h => f h
  | (t, v) :: r, h => by
    simp only [entTm] at h ⊢
    split
    · rename_i e
      rw [e] at h
      refine lookK_imp (fun u hu => ?_) h
      obtain ⟨h1, h2⟩ := same_e hu
      rw [h1]
      exact same_i (entTm_imp f h2)
    · rename_i e; rw [e] at h; exact h
theorem entK_imp {n0 : Nat} {gl : List Nat} {tm tm' : List (Nat × SV)} {hp hp' : List Blk} {p q : Prop} (h : entK n0 gl tm hp tm' hp' p) (f : p → q) : entK n0 gl tm hp tm' hp' q := by
  unfold entK at h ⊢
  split
  · rename_i e1 e2 e3
    rw [e1, e2, e3] at h
    dsimp only at h
    rw [lenK_eq] at h ⊢
    exact entHp_imp (entTm_imp f) h
  · rename_i hn
    split at h
    · rename_i e1 e2 e3; exact (hn e1 e2 e3).elim
    · exact h
/-- the result and the heap that are asked for -/
theorem final_h {n0 : Nat} {r r' : SV} {hp hp' : List Blk} {K : SV → List Blk → Prop} (gl : List Nat) (hk : K r' hp') (h : entK n0 gl [(0, r)] hp [(0, r')] hp' True) : FinalVC n0 r hp K :=
  final_i gl r' hp' (entK_imp h fun _ => hk)
theorem loop_h {n0 : Nat} {f : St → (St → Prop) → Prop} {st : St} (ι : Type) (I : ι → St) (μ : ι → Nat) (i : ι) (gl : List Nat) (h0 : entK n0 gl st.tm st.hp (I i).tm (I i).hp True)
    (h : ∀ i, f (I i) fun st' => ∃ j gl, μ j < μ i ∧ entK n0 gl st'.tm st'.hp (I j).tm (I j).hp True) : LoopVC n0 f st := loop_i ι I μ i gl h0 h

/-! ### a program's own facts -/
theorem info_of {t : TypeId} {i : TypeInfo} (h : ∀ w, (typeInfo t).run P w = .ok i w) : P.info? t = some i := by
  have h : Sem.run P (match P.info? t with | some i => (pure i : Sem TypeInfo) | none => stuck "no such type") default = .ok i default := h default
  cases e : P.info? t with
  | none => rw [e] at h; cases h
  | some j => rw [e] at h; simp only [Sem.run_pure] at h; cases h; rfl
end

/-! ### tables of contracts -/
theorem fnok_nil {P : Program} : ∀ f S, look ([] : List (Nat × Spec)) f = some S → SoundC P f S := fun f S h => by cases h
theorem fnok_cons {P : Program} {g : FuncId} {T : Spec} {l : List (Nat × Spec)} (h : SoundC P g T) (hl : ∀ f S, look l f = some S → SoundC P f S) :
    ∀ f S, look ((g, T) :: l) f = some S → SoundC P f S := by
  intro f S hf
  simp only [look] at hf
  split at hf
  · rename_i e; subst e; cases hf; exact h
  · exact hl f S hf
theorem tyok_nil {P : Program} : ∀ t i, look ([] : List (Nat × TyI)) t = some i → TyOK P t i := fun t i h => by cases h
theorem tyok_cons {P : Program} {g : TypeId} {T : TyI} {l : List (Nat × TyI)} (h : TyOK P g T) (hl : ∀ t i, look l t = some i → TyOK P t i) :
    ∀ t i, look ((g, T) :: l) t = some i → TyOK P t i := by
  intro f S hf
  simp only [look] at hf
  split at hf
  · rename_i e; subst e; cases hf; exact h
  · exact hl f S hf
/-- a context without rows that lie outside -/
def ctx (ty : List (Nat × TyI)) (nt : Nat) (fn : List (Nat × Spec)) : Ctx := { nt := nt, ty := ty, fn := fn }
theorem ctxOK {P : Program} {ty : List (Nat × TyI)} {nt : Nat} {fn : List (Nat × Spec)} (ht : ∀ t i, look ty t = some i → TyOK P t i) (hf : ∀ f S, look fn f = some S → SoundC P f S) : CtxOK P (ctx ty nt fn) :=
  ⟨ht, hf, fun _ _ _ h => h.elim⟩
/-- a function that reads nothing outside -/
theorem sound_f {P : Program} {ty : List (Nat × TyI)} {fs : List (Nat × Spec)} (ht : ∀ t i, look ty t = some i → TyOK P t i) (hfs : ∀ f S, look fs f = some S → SoundC P f S)
    (hm : P.follows .mixedOrders = true) {f : FuncId} {fn : Func} {c : Code} (hf : P.funcs[f]? = some fn) (hb : fn.body = some c) (hcall : ∀ args w, (callFunc f args).run P w = .ok (.enter f args) w)
    {D : List (Nat × List PStep)} {S : Spec} (hlen : ∀ args hp K, S args hp K → args.length ≤ fn.ntmps)
    (h : ∀ args hp K, S args hp K → fnVC (ctx ty fn.ntmps fs) D c fn.results.toList args hp K) : SoundC P f S :=
  sound_fn (Γ := ctx ty fn.ntmps fs) (ctxOK ht hfs) (fun _ => trivial) hm hf hb hcall rfl hlen h
end Go.Sym
