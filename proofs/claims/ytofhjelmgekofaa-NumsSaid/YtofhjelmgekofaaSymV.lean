/-
  The symbolic engine, part 19: a region whose order is drawn - what is known of operations that may still be to come. No program in sight; no condition beyond each lemma's own.
-/
import Derived.Test.YtofhjelmgekofaaSymU
set_option linter.unusedSimpArgs false
set_option linter.unusedVariables false
namespace Go.Sym

section
variable {P : Program} {Γ : Ctx} {ops : Array Oper}

def TmOK (n : Nat) (tm : List (Nat × SV)) : Prop := ∀ t v, look tm t = some v → v.ok (· < n)
theorem TmRel.okay {nt n : Nat} {ρ : Nat → Nat} {tm : List (Nat × SV)} {a : Act} (h : TmRel nt ρ n tm a) : TmOK n tm := fun t v hv => (h.val t v hv).1
theorem TmOK.mono {n m : Nat} {tm : List (Nat × SV)} (h : TmOK n tm) (hm : n ≤ m) : TmOK m tm := fun t v hv => SV.ok_mono (fun _ hk => Nat.lt_of_lt_of_le hk hm) v (h t v hv)
theorem TmRel.down' {nt n m : Nat} {ρ : Nat → Nat} {tm : List (Nat × SV)} {a : Act} (h : TmRel nt ρ n tm a) (hm : n ≤ m) : TmRel nt ρ m tm a :=
  ⟨h.size, h.defers, fun t v hv => ⟨SV.ok_mono (fun _ hk => Nat.lt_of_lt_of_le hk hm) v (h.val t v hv).1, (h.val t v hv).2⟩⟩
theorem TmRel.down {nt n m : Nat} {ρ : Nat → Nat} {tm : List (Nat × SV)} {a : Act} (h : TmRel nt ρ m tm a) (hk : TmOK n tm) : TmRel nt ρ n tm a :=
  ⟨h.size, h.defers, fun t v hv => ⟨hk t v hv, (h.val t v hv).2⟩⟩
theorem TmRel.same {nt n : Nat} {ρ : Nat → Nat} {tm tm' : List (Nat × SV)} {a : Act} (h : TmRel nt ρ n tm a) (hk : ∀ t, look tm' t = look tm t) : TmRel nt ρ n tm' a :=
  ⟨h.size, h.defers, fun t v hv => h.val t v (by rw [← hk]; exact hv)⟩

def putT (tm : List (Nat × SV)) (d : Option Nat) (v : SV) : List (Nat × SV) :=
  match d with
  | some d => (d, v) :: tm
  | none => tm
theorem look_putT {tm : List (Nat × SV)} {d : Option Nat} {v : SV} {t : Nat} : look (putT tm d v) t = if d = some t then some v else look tm t := by
  cases d with
  | none => simp [putT]
  | some d => simp [putT, look]
theorem putT_same {tm tm' : List (Nat × SV)} (h : ∀ t, look tm t = look tm' t) (d : Option Nat) (v : SV) : ∀ t, look (putT tm d v) t = look (putT tm' d v) t := fun t => by
  rw [look_putT, look_putT, h]
theorem TmOK.put {n : Nat} {tm : List (Nat × SV)} (h : TmOK n tm) {d : Option Nat} {v : SV} (hv : v.ok (· < n)) : TmOK n (putT tm d v) := fun t u hu => by
  rw [look_putT] at hu
  split at hu
  · cases hu; exact hv
  · exact h t u hu
theorem TmRel.put {nt n : Nat} {ρ : Nat → Nat} {tm : List (Nat × SV)} {a : Act} (h : TmRel nt ρ n tm a) {d : Option Nat} {v : SV} (hd : ∀ x, d = some x → x < nt) (hv : v.ok (· < n)) :
    TmRel nt ρ n (putT tm d v) (a.put d (v.den ρ)) := by
  cases d with
  | none => exact h
  | some d =>
    refine ⟨by simp [Act.put, h.size], h.defers, fun t u hu => ?_⟩
    rw [look_putT] at hu
    split at hu
    · rename_i e; cases e; cases hu
      exact ⟨hv, by simp [Act.put, h.size, hd d rfl]⟩
    · rename_i e
      obtain ⟨g1, g2⟩ := h.val t u hu
      exact ⟨g1, by simp only [Act.put]; rw [Array.getElem?_setIfInBounds_ne (fun x => e (by rw [x]))]; exact g2⟩
theorem putK_e' {nt : Nat} {tm : List (Nat × SV)} {hp : List Blk} {d : Option Nat} {v : SV} {K : St → Prop} (h : putK nt tm hp d v K) : (∀ x, d = some x → x < nt) ∧ K ⟨putT tm d v, hp⟩ := by
  unfold putK at h
  split at h
  · split at h
    · rename_i d _ e
      exact ⟨fun x hx => by cases hx; exact Nat.le_of_ble_eq_true e, h⟩
    · exact h.elim
  · exact ⟨fun x hx => (by cases hx), h⟩
/-- the slot d set back to what tm says of it -/
theorem TmRel.unput {nt n : Nat} {ρ : Nat → Nat} {tm : List (Nat × SV)} {a : Act} {d : Option Nat} {v : SV} (h : TmRel nt ρ n (putT tm d v) a) (hk : TmOK n tm) : ∃ u, TmRel nt ρ n tm (a.put d u) := by
  cases d with
  | none => exact ⟨.bool true, h⟩
  | some d =>
    cases hu : look tm d with
    | none =>
      refine ⟨.bool true, by simp [Act.put, h.size], h.defers, fun t u ht => ?_⟩
      have hne : d ≠ t := fun e => by rw [← e, hu] at ht; cases ht
      refine ⟨hk t u ht, ?_⟩
      simp only [Act.put]
      rw [Array.getElem?_setIfInBounds_ne hne]
      exact (h.val t u (by rw [look_putT, if_neg (fun e => hne (Option.some.inj e))]; exact ht)).2
    | some x =>
      have hd : d < nt := by
        have := (h.val d v (by rw [look_putT, if_pos rfl])).2
        have := (Array.getElem?_eq_some_iff.1 this).1
        rwa [h.size] at this
      refine ⟨x.den ρ, by simp [Act.put, h.size], h.defers, fun t u ht => ⟨hk t u ht, ?_⟩⟩
      by_cases hne : d = t
      · subst hne
        rw [hu] at ht; cases ht
        simp [Act.put, h.size, hd]
      · simp only [Act.put]
        rw [Array.getElem?_setIfInBounds_ne hne]
        exact (h.val t u (by rw [look_putT, if_neg (fun e => hne (Option.some.inj e))]; exact ht)).2

def Wants (Γ : Ctx) (ops : Array Oper) (n : Nat) (o : Oper) (tm : List (Nat × SV)) : Prop := ∀ ρ a, TmRel Γ.nt ρ n tm a → Region.wanted o (yielded ops a.tmps) = true

/-- what is known of an operation that the engine has taken, once what it looks at stands as in tm -/
def Fact (P : Program) (Γ : Ctx) (ops : Array Oper) (hp : List Blk) (x : Late) (tm : List (Nat × SV)) : Prop :=
  match x.k with
  | .pure => ∀ ρ a, TmRel Γ.nt ρ hp.length tm a → Yields P ops x.o (x.v.den ρ) a
  | .read M => Wants Γ ops hp.length x.o tm ∧ ∀ ρ a w, TmRel Γ.nt ρ hp.length tm a → HpRel ρ (mask M hp) w → Γ.E w → (execOp a.eval x.o).run P w = .ok (.value (x.v.den ρ)) w
  | .maker b => Wants Γ ops hp.length x.o tm ∧ ∃ el ps, hp[b]? = some (.mk el ps) ∧ okL (· < hp.length) ps ∧ x.v.ok (· = b) ∧ okL (· ≠ b) ps ∧
      ∀ ρ a, TmRel Γ.nt ρ hp.length tm a → ∀ (ρ1 : Nat → Nat) w, ρ1 b = w.heap.size → (execOp a.eval x.o).run P w = .ok (.value (x.v.den ρ1)) (w.alloc (.cells (cellsL ρ ps).toArray el))

variable {hp : List Blk}

theorem Fact.same {x : Late} {tm tm' : List (Nat × SV)} (h : Fact P Γ ops hp x tm) (he : ∀ t, look tm t = look tm' t) : Fact P Γ ops hp x tm' := by
  unfold Fact Wants at *
  split
  all_goals rename_i hk; simp only [hk] at h
  · exact fun ρ a ht => h ρ a (ht.same he)
  · exact ⟨fun ρ a ht => h.1 ρ a (ht.same he), fun ρ a w ht => h.2 ρ a w (ht.same he)⟩
  · obtain ⟨h0, el, ps, h1, h2, h3, h5, h4⟩ := h
    exact ⟨fun ρ a ht => h0 ρ a (ht.same he), el, ps, h1, h2, h3, h5, fun ρ a ht => h4 ρ a (ht.same he)⟩

/-- nothing of it hangs on a slot that it does not look at -/
theorem Fact.move {x : Late} {tm tm' : List (Nat × SV)} (h : Fact P Γ ops hp x tm) (hs : ∀ cs b, x.o.op ≠ .select cs b)
    (hm : ∀ (ρ : Nat → Nat) a, TmRel Γ.nt ρ hp.length tm' a → ∃ (d : Option Nat) (u : Value), (∀ y, d = some y → y ∉ x.o.looksAt ops) ∧ TmRel Γ.nt ρ hp.length tm (a.put d u)) : Fact P Γ ops hp x tm' := by
  unfold Fact Wants at *
  have ex : ∀ (a : Act) (d : Option Nat) (u : Value), (∀ y, d = some y → y ∉ x.o.looksAt ops) → execOp (a.put d u).eval x.o = execOp a.eval x.o ∧ Region.wanted x.o (yielded ops (a.put d u).tmps) = Region.wanted x.o (yielded ops a.tmps) :=
    fun a d u hd => ⟨execOp_put x.o hs a d u hd, wanted_put x.o a d u hd⟩
  split
  all_goals rename_i hk; simp only [hk] at h
  · intro ρ a ht
    obtain ⟨d, u, hd, ht'⟩ := hm ρ a ht
    exact (h ρ _ ht').of_same (ex a d u hd).1.symm (ex a d u hd).2.symm
  · refine ⟨fun ρ a ht => ?_, fun ρ a w ht hw hE => ?_⟩
    · obtain ⟨d, u, hd, ht'⟩ := hm ρ a ht
      rw [← (ex a d u hd).2]; exact h.1 ρ _ ht'
    · obtain ⟨d, u, hd, ht'⟩ := hm ρ a ht
      rw [← (ex a d u hd).1]; exact h.2 ρ _ w ht' hw hE
  · obtain ⟨h0, el, ps, h1, h2, h3, h5, h4⟩ := h
    refine ⟨fun ρ a ht => ?_, el, ps, h1, h2, h3, h5, fun ρ a ht => ?_⟩
    · obtain ⟨d, u, hd, ht'⟩ := hm ρ a ht
      rw [← (ex a d u hd).2]; exact h0 ρ _ ht'
    · obtain ⟨d, u, hd, ht'⟩ := hm ρ a ht
      rw [← (ex a d u hd).1]; exact h4 ρ _ ht'
theorem Fact.back {x : Late} {tm : List (Nat × SV)} {d : Option Nat} {v : SV} (h : Fact P Γ ops hp x (putT tm d v)) (hs : ∀ cs b, x.o.op ≠ .select cs b) (hd : ∀ y, d = some y → y ∉ x.o.looksAt ops)
    (hn : ∀ y, d = some y → y < Γ.nt) (hv : v.ok (· < hp.length)) : Fact P Γ ops hp x tm :=
  h.move hs fun ρ _ ht => ⟨d, v.den ρ, hd, ht.put hn hv⟩
theorem Fact.forth {x : Late} {tm : List (Nat × SV)} {d : Option Nat} {v : SV} (h : Fact P Γ ops hp x tm) (hs : ∀ cs b, x.o.op ≠ .select cs b) (hd : ∀ y, d = some y → y ∉ x.o.looksAt ops)
    (hk : TmOK hp.length tm) : Fact P Γ ops hp x (putT tm d v) :=
  h.move hs fun _ _ ht => by obtain ⟨u, hu⟩ := ht.unput hk; exact ⟨d, u, hd, hu⟩

def Chain (P : Program) (Γ : Ctx) (ops : Array Oper) (hp : List Blk) : List (Nat × SV) → List Late → List (Nat × SV) → Prop
  | tm, [], tm' => ∀ t, look tm t = look tm' t
  | tm, x :: xs, tm' => Fact P Γ ops hp x tm ∧ x.v.ok (· < hp.length) ∧ (∀ d, x.o.dst = some d → d < Γ.nt) ∧ Chain P Γ ops hp (putT tm x.o.dst x.v) xs tm'

theorem Chain.same : ∀ {xs : List Late} {tm tm1 tm' : List (Nat × SV)}, Chain P Γ ops hp tm xs tm' → (∀ t, look tm t = look tm1 t) → Chain P Γ ops hp tm1 xs tm'
  | [], _, _, _, h, he => fun t => by rw [← he]; exact h t
  | _ :: _, _, _, _, ⟨h1, h2, h3, h4⟩, he => ⟨h1.same he, h2, h3, Chain.same h4 (putT_same he _ _)⟩
theorem Chain.snoc : ∀ {xs : List Late} {tm tm' : List (Nat × SV)} {x : Late}, Chain P Γ ops hp tm xs tm' → Fact P Γ ops hp x tm' → x.v.ok (· < hp.length) → (∀ d, x.o.dst = some d → d < Γ.nt) →
    Chain P Γ ops hp tm (xs ++ [x]) (putT tm' x.o.dst x.v)
  | [], _, _, _, h, hf, hv, hd => ⟨hf.same fun t => (h t).symm, hv, hd, putT_same h _ _⟩
  | _ :: _, _, _, _, ⟨h1, h2, h3, h4⟩, hf, hv, hd => ⟨h1, h2, h3, Chain.snoc h4 hf hv hd⟩
/-- what is apart from all that is still to come ahead of it may come first -/
theorem Chain.bubble (hs : ∀ (j : Nat) (o : Oper) cs b, ops[j]? = some o → o.op ≠ .select cs b) {x : Late} (hx : ops[x.i]? = some x.o) {B : List Late} : ∀ {A : List Late} {tm tm' : List (Nat × SV)}, Chain P Γ ops hp tm (A ++ x :: B) tm' → TmOK hp.length tm →
    (∀ y ∈ A, ops[y.i]? = some y.o ∧ y.o.apart ops x.o = true) → Chain P Γ ops hp tm (x :: (A ++ B)) tm'
  | [], _, _, h, _, _ => h
  | y :: A, tm, tm', ⟨h1, h2, h3, h4⟩, hk, hA => by
    obtain ⟨g1, g2, g3, g4⟩ := Chain.bubble hs hx h4 (hk.put h2) (fun z hz => hA z (by simp [hz]))
    obtain ⟨hy, hap⟩ := hA y (by simp)
    obtain ⟨p1, p2, p3⟩ := Oper.apart_spec hap
    refine ⟨g1.back (fun cs b => hs _ _ cs b hx) p1 h3 h2, g2, g3, h1.forth (fun cs b => hs _ _ cs b hy) p3 hk, h2, h3, g4.same fun t => ?_⟩
    rw [look_putT, look_putT, look_putT, look_putT]
    by_cases e1 : x.o.dst = some t
    · have : y.o.dst ≠ some t := fun e => p2 t e e1
      rw [if_pos e1, if_neg this, if_pos e1]
    · simp [e1]

/-- all of tm's later slots -/
def puts (tm : List (Nat × SV)) : List Late → List (Nat × SV)
  | [] => tm
  | x :: xs => puts (putT tm x.o.dst x.v) xs
theorem puts_same : ∀ {xs : List Late} {tm tm' : List (Nat × SV)}, (∀ t, look tm t = look tm' t) → ∀ t, look (puts tm xs) t = look (puts tm' xs) t
  | [], _, _, h => h
  | _ :: xs, _, _, h => puts_same (xs := xs) (putT_same h _ _)
theorem Chain.end_ : ∀ {xs : List Late} {tm tm' : List (Nat × SV)}, Chain P Γ ops hp tm xs tm' → ∀ t, look (puts tm xs) t = look tm' t
  | [], _, _, h => h
  | _ :: xs, _, _, ⟨_, _, _, h4⟩ => Chain.end_ (xs := xs) h4
theorem Fact.backs {hp' : List Blk} (hle : hp.length ≤ hp'.length) {x : Late} (hs : ∀ cs b, x.o.op ≠ .select cs b) : ∀ {xs : List Late} {tm tm' : List (Nat × SV)}, Chain P Γ ops hp tm xs tm' → Fact P Γ ops hp' x (puts tm xs) →
    (∀ y ∈ xs, ∀ d, y.o.dst = some d → d ∉ x.o.looksAt ops) → Fact P Γ ops hp' x tm
  | [], _, _, _, h, _ => h
  | y :: xs, tm, tm', ⟨h1, h2, h3, h4⟩, h, hd =>
    (Fact.backs hle hs h4 h (fun z hz => hd z (by simp [hz]))).back hs (hd y (by simp)) h3 (SV.ok_mono (fun _ hk => Nat.lt_of_lt_of_le hk hle) _ h2)

/-- a later heap, in which what is still to be made stands as it did: all but the reads -/
theorem Fact.later {hp' : List Blk} (hle : hp.length ≤ hp'.length) {x : Late} {tm : List (Nat × SV)} (h : Fact P Γ ops hp x tm) (hk : TmOK hp.length tm)
    (hb : ∀ b, x.k = .maker b → hp'[b]? = hp[b]?)
    (hr : ∀ M, x.k = .read M → ∀ ρ a w, TmRel Γ.nt ρ hp'.length tm a → HpRel ρ (mask M hp') w → Γ.E w → (execOp a.eval x.o).run P w = .ok (.value (x.v.den ρ)) w) : Fact P Γ ops hp' x tm := by
  unfold Fact Wants at *
  split
  all_goals rename_i hk'; simp only [hk'] at h
  · exact fun ρ a ht => h ρ a (ht.down hk)
  · exact ⟨fun ρ a ht => h.1 ρ a (ht.down hk), hr _ hk'⟩
  · obtain ⟨h0, el, ps, h1, h2, h3, h5, h4⟩ := h
    exact ⟨fun ρ a ht => h0 ρ a (ht.down hk), el, ps, by rw [hb _ hk', h1], okL_mono (fun _ h => Nat.lt_of_lt_of_le h hle) _ h2, h3, h5, fun ρ a ht => h4 ρ a (ht.down hk)⟩

/-- behind an anchor, which put v into d -/
theorem Chain.anchor (hs : ∀ (j : Nat) (o : Oper) cs b, ops[j]? = some o → o.op ≠ .select cs b) {hp' : List Blk} (hle : hp.length ≤ hp'.length) {d : Option Nat} {v : SV} {o : Oper} (hd : o.dst = d) (hn : ∀ y, d = some y → y < Γ.nt) (hv : v.ok (· < hp'.length)) :
    ∀ {xs : List Late} {tm tm' : List (Nat × SV)}, Chain P Γ ops hp tm xs tm' → TmOK hp.length tm → (∀ x ∈ xs, ops[x.i]? = some x.o ∧ x.o.apart ops o = true) →
    (∀ x ∈ xs, ∀ b, x.k = .maker b → hp'[b]? = hp[b]?) →
    (∀ x ∈ xs, ∀ M, x.k = .read M → ∀ ρ a w, TmRel Γ.nt ρ hp'.length (putT tm' d v) a → HpRel ρ (mask M hp') w → Γ.E w → (execOp a.eval x.o).run P w = .ok (.value (x.v.den ρ)) w) →
    (xs.Pairwise fun x y => ∀ M, x.k = .read M → ∀ e, y.o.dst = some e → e ∉ x.o.looksAt ops) →
    (∀ x ∈ xs, ∀ M, x.k = .read M → (∀ e, x.o.dst = some e → e ∉ x.o.looksAt ops)) →
    Chain P Γ ops hp' (putT tm d v) xs (putT tm' d v)
  | [], _, _, h, _, _, _, _, _, _ => putT_same h _ _
  | x :: xs, tm, tm', h, hk, hap, hb, hr, hpw, hself => by
    obtain ⟨h1, h2, h3, h4⟩ := h
    obtain ⟨hx, hxa⟩ := hap x (by simp)
    obtain ⟨p1, p2, p3⟩ := Oper.apart_spec hxa
    have hsx : ∀ cs b, x.o.op ≠ .select cs b := fun cs b => hs _ _ cs b hx
    have hk' : TmOK hp'.length tm := hk.mono hle
    have h2' : x.v.ok (· < hp'.length) := SV.ok_mono (fun _ hk => Nat.lt_of_lt_of_le hk hle) _ h2
    have f : Fact P Γ ops hp' x tm := by
      refine h1.later hle hk (hb x (by simp)) fun M hM => ?_
      -- the read, taken again at the end, and brought back
      have hr0 := hr x (by simp) M hM
      let x' : Late := ⟨x.i, { x.o with guard := none }, x.v, .read M⟩
      have la : ∀ y, y ∈ x'.o.looksAt ops → y ∈ x.o.looksAt ops := fun y hy => by
        simp only [x', Oper.looksAt, List.append_nil, List.mem_append] at hy ⊢
        exact .inl hy
      have ex : ∀ a : Act, execOp a.eval x'.o = execOp a.eval x.o := fun a => by
        simp only [x']
        obtain ⟨dst, op, type, pos, after, guard⟩ := x.o
        cases op <;> rfl
      have f' : Fact P Γ ops hp' x' (putT tm' d v) := by
        unfold Fact
        simp only [x']
        refine ⟨fun ρ a _ => rfl, fun ρ a w ht hw hE => ?_⟩
        have := ex a
        simp only [x'] at this
        rw [this]; exact hr0 ρ a w ht hw hE
      have f'' : Fact P Γ ops hp' x' tm := by
        have g1 : Fact P Γ ops hp' x' tm' := f'.back hsx (fun y hy hl => p3 y (by rw [hd]; exact hy) (la y hl)) hn hv
        have g2 : Fact P Γ ops hp' x' (puts (putT tm x.o.dst x.v) xs) := g1.same fun t => (h4.end_ t).symm
        have g3 : Fact P Γ ops hp' x' (putT tm x.o.dst x.v) := Fact.backs (x := x') hle hsx h4 g2 (fun y hy e he hl => (List.pairwise_cons.1 hpw).1 y hy M hM e he (la e hl))
        exact g3.back hsx (fun y hy hl => hself x (by simp) M hM y hy (la y hl)) h3 h2'
      unfold Fact at f''
      simp only [x'] at f''
      intro ρ a w ht hw hE
      have := ex a
      simp only [x'] at this
      rw [← this]; exact f''.2 ρ a w ht hw hE
    refine ⟨f.forth hsx (fun y hy => p3 y (by rw [hd]; exact hy)) hk', h2', h3, ?_⟩
    have ih := Chain.anchor hs hle hd hn hv h4 (hk.put h2) (fun y hy => hap y (by simp [hy])) (fun y hy => hb y (by simp [hy])) (fun y hy => hr y (by simp [hy])) (List.pairwise_cons.1 hpw).2 (fun y hy => hself y (by simp [hy]))
    refine ih.same fun t => ?_
    rw [look_putT, look_putT, look_putT, look_putT]
    by_cases e1 : d = some t
    · have : x.o.dst ≠ some t := fun e => p2 t e (by rw [hd]; exact e1)
      rw [if_pos e1, if_neg this, if_pos e1]
    · simp [e1]

/-- a new block -/
theorem Chain.grow {b : Blk} (hok : ∀ (k : Nat) el ps, hp[k]? = some (Blk.mk el ps) → okL (· < hp.length) ps) :
    ∀ {xs : List Late} {tm tm' : List (Nat × SV)}, Chain P Γ ops hp tm xs tm' → TmOK hp.length tm → (∀ x ∈ xs, ∀ c, x.k = .maker c → c < hp.length) → Chain P Γ ops (hp ++ [b]) tm (addM hp.length xs) tm'
  | [], _, _, h, _, _ => h
  | x :: xs, tm, tm', ⟨h1, h2, h3, h4⟩, hk, hc => by
    have hle : hp.length ≤ (hp ++ [b]).length := by simp
    have ih := Chain.grow (b := b) hok h4 (hk.put h2) (fun y hy => hc y (by simp [hy]))
    have h2' : x.v.ok (· < (hp ++ [b]).length) := SV.ok_mono (fun _ hk => Nat.lt_of_lt_of_le hk hle) _ h2
    obtain ⟨i, o, v, kx⟩ := x
    cases kx with
    | pure => exact ⟨h1.later hle hk (fun _ h => by cases h) (fun _ h => by cases h), h2', h3, ih⟩
    | maker c =>
      refine ⟨h1.later hle hk (fun b' h => ?_) (fun _ h => by cases h), h2', h3, ih⟩
      cases h
      rw [List.getElem?_append_left (hc ⟨i, o, v, .maker c⟩ (by simp) c rfl)]
    | read M =>
      refine ⟨?_, h2', h3, ih⟩
      refine ⟨fun ρ a ht => h1.1 ρ a (ht.down hk), fun ρ a w ht hw => h1.2 ρ a w (ht.down hk) (hw.sub fun k el ps hkk => ?_)⟩
      rw [mask_get] at hkk
      have hkl : k < hp.length := (List.getElem?_eq_some_iff.1 hkk.2).1
      refine ⟨mask_get.2 ⟨?_, by rw [List.getElem?_append_left hkl]; exact hkk.2⟩, by rw [mask_length]; exact hok k el ps hkk.2⟩
      simp only [List.mem_cons, not_or]
      exact ⟨Nat.ne_of_lt hkl, hkk.1⟩
end
end Go.Sym
