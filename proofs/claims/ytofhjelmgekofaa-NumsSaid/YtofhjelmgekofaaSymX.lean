/-
  The symbolic engine, part 21: a region whose order is drawn does what the engine says. No program in sight; no condition beyond each lemma's own.
-/
import Derived.Test.YtofhjelmgekofaaSymW
set_option linter.unusedSimpArgs false
set_option linter.unusedVariables false
namespace Go.Sym

section
variable {P : Program} {Γ : Ctx} {ops : Array Oper} {Q : Exit → Act → World → Prop} {K : St → Prop} {ρ0 : Nat → Nat} {hp0 : List Blk} {w0 : World}

def pend (listed : Array Bool) (late : List Late) : List Late := (late.filter fun x => !listed.getD x.i false).reverse
def pendB : List Late → List Nat
  | [] => []
  | x :: xs => match x.k with
    | .maker b => b :: pendB xs
    | _ => pendB xs
theorem pendB_mem {b : Nat} : ∀ {xs : List Late}, b ∈ pendB xs ↔ ∃ x ∈ xs, x.k = .maker b
  | [] => by simp [pendB]
  | ⟨i, o, v, kx⟩ :: xs => by cases kx <;> simp [pendB, pendB_mem, eq_comm]
theorem pend_mem {listed : Array Bool} {late : List Late} {x : Late} : x ∈ pend listed late ↔ x ∈ late ∧ listed.getD x.i false = false := by
  simp [pend]

theorem Step.sub {ρ : Nat → Nat} {hp hp' : List Blk} {w : World} (h : Step ρ0 hp0 w0 ρ hp w) (hl : hp'.length = hp.length) (hs : ∀ (k : Nat) el ps, hp'[k]? = some (Blk.mk el ps) → hp[k]? = some (.mk el ps)) : Step ρ0 hp0 w0 ρ hp' w :=
  ⟨h.rel.sub fun k el ps hk => ⟨hs k el ps hk, by rw [hl]; exact (h.rel.mem k el ps (hs k el ps hk)).1⟩, h.same, by rw [hl]; exact h.le, h.ext, fun b ⟨k, el, ps, hk, he⟩ => h.foot b ⟨k, el, ps, hs k el ps hk, he⟩⟩

structure Inv (P : Program) (Γ : Ctx) (ops : Array Oper) (K : St → Prop) (ρ0 : Nat → Nat) (hp0 : List Blk) (w0 : World) (listed : Array Bool) (a : Act) (w : World) (pre ss : List PStep) (late : List Late)
    (tm : List (Nat × SV)) (hp : List Blk) (ρ : Nat → Nat) (tmR : List (Nat × SV)) : Prop where
  size : listed.size = ops.size
  down : ∀ i o, listed.getD i false = true → ops[i]? = some o → ∀ e ∈ edgesOn o, listed.getD e false = true
  real : ∀ i, listed.getD i false = true → ∃ p ∈ pre, p.i = i
  virt : ∀ p ∈ pre, listed.getD p.i false = true ∨ ∃ x ∈ late, x.i = p.i
  get : ∀ x ∈ late, ops[x.i]? = some x.o
  along : Along late pre
  nodup : late.Pairwise fun x y => x.i ≠ y.i
  pairs : late.Pairwise fun y x => Before ops x.i y.i ∨ x.o.apart ops y.o = true
  rkind : ∀ x ∈ late, ∀ M, x.k = .read M → kindOf Γ x.o.op = .read
  rmask : ∀ x ∈ late, ∀ M, x.k = .read M → ∀ z ∈ late, ∀ b, z.k = .maker b → Before ops z.i x.i ∨ b ∈ M
  mblk : ∀ z ∈ late, ∀ b, z.k = .maker b → hp0.length ≤ b ∧ b < hp.length
  mone : ∀ y ∈ late, ∀ z ∈ late, ∀ b, y.k = .maker b → z.k = .maker b → y.i = z.i
  avoid : ∀ y ∈ pend listed late, ∀ z ∈ pend listed late, ∀ b, z.k = .maker b → y.i ≠ z.i → Before ops z.i y.i ∨
    (y.v.ok (· ≠ b) ∧ ∀ c el ps, y.k = .maker c → hp[c]? = some (.mk el ps) → okL (· ≠ b) ps)
  tmr : TmRel Γ.nt ρ hp.length tmR a
  chain : Chain P Γ ops hp tmR (pend listed late) tm
  step : Step ρ0 hp0 w0 ρ (mask (pendB (pend listed late)) hp) w
  hpok : ∀ (k : Nat) el ps, hp[k]? = some (Blk.mk el ps) → okL (· < hp.length) ps
  a1 : ∀ t v, look tmR t = some v → v.ok (· ∉ pendB (pend listed late))
  a2 : ∀ (k : Nat) el ps, k ∉ pendB (pend listed late) → hp[k]? = some (Blk.mk el ps) → okL (· ∉ pendB (pend listed late)) ps
  nsel : ∀ (j : Nat) (o : Oper) cs b, ops[j]? = some o → o.op ≠ .select cs b
  plan : ∃ T, TabOK ops T ∧ planB ops Γ pre ss T = true
  vc : vcDr Γ ops.toList ss late tm hp K

variable {listed : Array Bool} {a : Act} {w : World} {pre ss : List PStep} {s : PStep} {late : List Late} {tm : List (Nat × SV)} {hp : List Blk} {ρ : Nat → Nat} {tmR : List (Nat × SV)}

theorem chain_ok : ∀ {xs : List Late} {tm tm' : List (Nat × SV)}, Chain P Γ ops hp tm xs tm' → TmOK hp.length tm → TmOK hp.length tm' ∧ ∀ x ∈ xs, x.v.ok (· < hp.length)
  | [], _, _, h, hk => ⟨fun t v hv => hk t v (by rw [h]; exact hv), by simp⟩
  | x :: xs, _, _, ⟨_, h2, _, h4⟩, hk => by
    obtain ⟨g1, g2⟩ := chain_ok h4 (hk.put h2)
    exact ⟨g1, fun y hy => by rcases List.mem_cons.1 hy with rfl | hy; exact h2; exact g2 y hy⟩

theorem pend_cons {x : Late} (h : listed.getD x.i false = false) : pend listed (x :: late) = pend listed late ++ [x] := by
  unfold pend
  rw [List.filter_cons_of_pos (by rw [h]; rfl), List.reverse_cons]

/-- something that makes no memory, taken in thought -/
theorem Inv.absorb (I : Inv P Γ ops K ρ0 hp0 w0 listed a w pre (s :: ss) late tm hp ρ tmR) {o : Oper} {T' : Table} (S : StepOK Γ ops pre s ss o) (hT : TabOK ops T') (hpl : planB ops Γ (s :: pre) ss T' = true)
    {v : SV} {k : LateK} (hk : ∀ b, k ≠ .maker b) (hkr : ∀ M, k = .read M → kindOf Γ o.op = .read ∧ M = looseL s.loose late) (hf : Fact P Γ ops hp ⟨s.i, o, v, k⟩ tm) (hv : v.ok (· < hp.length)) (hav : v.ok (· ∉ looseL s.loose late))
    (hd : ∀ d, o.dst = some d → d < Γ.nt) (hvc : vcDr Γ ops.toList ss (⟨s.i, o, v, k⟩ :: late) (putT tm o.dst v) hp K) :
    Inv P Γ ops K ρ0 hp0 w0 listed a w (s :: pre) ss (⟨s.i, o, v, k⟩ :: late) (putT tm o.dst v) hp ρ tmR := by
  have hun : listed.getD s.i false = false := by
    cases h : listed.getD s.i false with
    | false => rfl
    | true => obtain ⟨p, hp, he⟩ := I.real _ h; exact absurd he (S.new p hp)
  have hne : ∀ x ∈ late, x.i ≠ s.i := fun x hx => by obtain ⟨p, h1, h2⟩ := I.along.mem x hx; rw [← h2]; exact S.new p h1
  have hlo : ∀ x ∈ late, (x.i ∈ s.loose ∧ x.o.apart ops o = true) ∨ (x.i ∉ s.loose ∧ Before ops x.i s.i) := fun x hx => by
    obtain ⟨p, h1, h2⟩ := I.along.mem x hx
    rcases S.pairs p h1 with ⟨g1, y, g2, g3⟩ | ⟨g1, g2⟩
    · rw [h2] at g1 g2
      rw [I.get x hx] at g2
      cases g2
      exact .inl ⟨g1, g3⟩
    · rw [h2] at g1 g2; exact .inr ⟨g1, g2⟩
  have hpe : pend listed (⟨s.i, o, v, k⟩ :: late) = pend listed late ++ [⟨s.i, o, v, k⟩] := pend_cons hun
  have hpb : ∀ b, b ∈ pendB (pend listed (⟨s.i, o, v, k⟩ :: late)) ↔ b ∈ pendB (pend listed late) := fun b => by
    rw [hpe, pendB_mem, pendB_mem]
    constructor
    · rintro ⟨x, hx, hxk⟩
      rcases List.mem_append.1 hx with hx | hx
      · exact ⟨x, hx, hxk⟩
      · simp at hx; subst hx; exact absurd hxk (hk b)
    · rintro ⟨x, hx, hxk⟩; exact ⟨x, by simp [hx], hxk⟩
  refine { I with
    real := fun i h => by obtain ⟨p, h1, h2⟩ := I.real i h; exact ⟨p, by simp [h1], h2⟩
    virt := fun p hp => ?_
    get := fun x hx => by rcases List.mem_cons.1 hx with rfl | hx; exact S.get; exact I.get x hx
    along := .take rfl I.along
    nodup := List.pairwise_cons.2 ⟨fun x hx => (hne x hx).symm, I.nodup⟩
    pairs := List.pairwise_cons.2 ⟨fun x hx => (hlo x hx).elim (fun h => .inr h.2) (fun h => .inl h.2), I.pairs⟩
    rkind := fun x hx M hM => by rcases List.mem_cons.1 hx with rfl | hx; exact (hkr M hM).1; exact I.rkind x hx M hM
    rmask := fun x hx M hM z hz b hb => ?_
    mblk := fun z hz b hb => by rcases List.mem_cons.1 hz with rfl | hz; exact absurd hb (hk b); exact I.mblk z hz b hb
    mone := fun y hy z hz b h1 h2 => ?_
    avoid := fun y hy z hz b hb hyz => ?_
    chain := by rw [hpe]; exact I.chain.snoc hf hv hd
    step := I.step.sub (by simp [mask_length]) fun c el ps hc => by rw [mask_get] at hc ⊢; exact ⟨fun h => hc.1 ((hpb c).2 h), hc.2⟩
    a1 := fun t u hu => SV.ok_mono (fun x hx h => hx ((hpb x).1 h)) u (I.a1 t u hu)
    a2 := fun c el ps hc hcc => okL_mono (fun x hx h => hx ((hpb x).1 h)) _ (I.a2 c el ps (fun h => hc ((hpb c).2 h)) hcc)
    plan := ⟨T', hT, hpl⟩
    vc := hvc }
  · rcases List.mem_cons.1 hp with rfl | hp
    · exact .inr ⟨_, List.mem_cons_self, rfl⟩
    · rcases I.virt p hp with h | ⟨x, h1, h2⟩
      · exact .inl h
      · exact .inr ⟨x, by simp [h1], h2⟩
  · rcases List.mem_cons.1 hz with rfl | hz
    · exact absurd hb (hk b)
    · rcases List.mem_cons.1 hx with rfl | hx
      · obtain ⟨_, rfl⟩ := hkr M hM
        rcases hlo z hz with ⟨g1, _⟩ | ⟨_, g2⟩
        · exact .inr (looseL_mem.2 ⟨z, hz, hb, g1⟩)
        · exact .inl g2
      · exact I.rmask x hx M hM z hz b hb
  · rcases List.mem_cons.1 hy with rfl | hy
    · exact absurd h1 (hk b)
    · rcases List.mem_cons.1 hz with rfl | hz
      · exact absurd h2 (hk b)
      · exact I.mone y hy z hz b h1 h2
  · rw [hpe] at hy hz
    rcases List.mem_append.1 hz with hz | hz
    · rcases List.mem_append.1 hy with hy | hy
      · exact I.avoid y hy z hz b hb hyz
      · simp at hy; subst hy
        have hzl := (pend_mem.1 hz).1
        rcases hlo z hzl with ⟨g1, _⟩ | ⟨_, g2⟩
        · refine .inr ⟨SV.ok_mono (fun x hx e => hx (by rw [e]; exact looseL_mem.2 ⟨z, hzl, hb, g1⟩)) v hav, fun c el ps hc => absurd hc (hk c)⟩
        · exact .inl g2
    · simp at hz; subst hz; exact absurd hb (hk b)

/-- a block made in thought -/
theorem Inv.absorbM (I : Inv P Γ ops K ρ0 hp0 w0 listed a w pre (s :: ss) late tm hp ρ tmR) {o : Oper} {T' : Table} (S : StepOK Γ ops pre s ss o) (hT : TabOK ops T') (hpl : planB ops Γ (s :: pre) ss T' = true)
    {v : SV} {el : TypeId} {ps : List SV} (hw : Wants Γ ops hp.length o tm) (hv : v.ok (· = hp.length)) (hps : okL (· < hp.length) ps)
    (hrun : ∀ ρ a, TmRel Γ.nt ρ hp.length tm a → ∀ (ρ1 : Nat → Nat) w, ρ1 hp.length = w.heap.size → (execOp a.eval o).run P w = .ok (.value (v.den ρ1)) (w.alloc (.cells (cellsL ρ ps).toArray el)))
    (hav : okL (· ∉ looseL s.loose late) ps)
    (hd : ∀ d, o.dst = some d → d < Γ.nt) (hvc : vcDr Γ ops.toList ss (⟨s.i, o, v, .maker hp.length⟩ :: addM hp.length late) (putT tm o.dst v) (hp ++ [.mk el ps]) K) :
    Inv P Γ ops K ρ0 hp0 w0 listed a w (s :: pre) ss (⟨s.i, o, v, .maker hp.length⟩ :: addM hp.length late) (putT tm o.dst v) (hp ++ [.mk el ps]) ρ tmR := by
  have hun : listed.getD s.i false = false := by
    cases h : listed.getD s.i false with
    | false => rfl
    | true => obtain ⟨p, hp, he⟩ := I.real _ h; exact absurd he (S.new p hp)
  have hne : ∀ x ∈ late, x.i ≠ s.i := fun x hx => by obtain ⟨p, h1, h2⟩ := I.along.mem x hx; rw [← h2]; exact S.new p h1
  have hlo : ∀ x ∈ late, (x.i ∈ s.loose ∧ x.o.apart ops o = true) ∨ (x.i ∉ s.loose ∧ Before ops x.i s.i) := fun x hx => by
    obtain ⟨p, h1, h2⟩ := I.along.mem x hx
    rcases S.pairs p h1 with ⟨g1, y, g2, g3⟩ | ⟨g1, g2⟩
    · rw [h2] at g1 g2
      rw [I.get x hx] at g2
      cases g2
      exact .inl ⟨g1, g3⟩
    · rw [h2] at g1 g2; exact .inr ⟨g1, g2⟩
  have hfl : ∀ l : List Late, (addM hp.length l).filter (fun x => !listed.getD x.i false) = addM hp.length (l.filter fun x => !listed.getD x.i false) := fun l => by
    induction l with
    | nil => rfl
    | cons x xs ih =>
      obtain ⟨i, o, v, kx⟩ := x
      cases kx <;> simp only [addM, List.filter_cons, ih] <;> split <;> rfl
  have hpa : pend listed (addM hp.length late) = addM hp.length (pend listed late) := by
    unfold pend
    rw [hfl, addM_map, addM_map, List.map_reverse]
  have hpe : pend listed (⟨s.i, o, v, .maker hp.length⟩ :: addM hp.length late) = addM hp.length (pend listed late) ++ [⟨s.i, o, v, .maker hp.length⟩] := by
    rw [pend_cons hun, hpa]
  have hmk : ∀ {y : Late} {l : List Late} {b : Nat}, y ∈ addM hp.length l → y.k = .maker b → ∃ x ∈ l, x.k = .maker b ∧ y.i = x.i ∧ y.v = x.v ∧ y.o = x.o := fun hy hb => by
    obtain ⟨x, h1, h2, h3, h4, h5⟩ := addM_mem hy
    rcases h5 with ⟨M, _, h6⟩ | ⟨_, h6⟩
    · rw [h6] at hb; cases hb
    · exact ⟨x, h1, by rw [← h6, hb], h2, h4, h3⟩
  have hkm : ∀ {x : Late} {l : List Late} {b : Nat}, x ∈ l → x.k = .maker b → x ∈ addM hp.length l := fun {x l b} hx hb => by
    induction l with
    | nil => cases hx
    | cons y ys ih =>
      simp only [addM, List.mem_cons]
      rcases List.mem_cons.1 hx with rfl | hx
      · left; rw [hb]
      · right; exact ih hx
  have hpb : ∀ b, b ∈ pendB (pend listed (⟨s.i, o, v, .maker hp.length⟩ :: addM hp.length late)) ↔ b ∈ pendB (pend listed late) ∨ b = hp.length := fun b => by
    rw [hpe, pendB_mem, pendB_mem]
    constructor
    · rintro ⟨x, hx, hxk⟩
      rcases List.mem_append.1 hx with hx | hx
      · obtain ⟨y, h1, h2, _⟩ := hmk hx hxk; exact .inl ⟨y, h1, h2⟩
      · simp at hx; subst hx; cases hxk; exact .inr rfl
    · rintro (⟨x, hx, hxk⟩ | rfl)
      · exact ⟨x, by simp [hkm hx hxk], hxk⟩
      · exact ⟨_, List.mem_append_right _ (List.mem_singleton.2 rfl), rfl⟩
  have hpl' : ∀ b ∈ pendB (pend listed late), b < hp.length := fun b hb => by
    obtain ⟨x, h1, h2⟩ := pendB_mem.1 hb
    exact (I.mblk x (pend_mem.1 h1).1 b h2).2
  have hlen : (hp ++ [Blk.mk el ps]).length = hp.length + 1 := by simp
  have hle : hp.length ≤ (hp ++ [Blk.mk el ps]).length := by simp
  have old : ∀ (k : Nat) el' qs, (hp ++ [Blk.mk el ps])[k]? = some (Blk.mk el' qs) → k < hp.length ∧ hp[k]? = some (.mk el' qs) ∨ k = hp.length ∧ el' = el ∧ qs = ps := fun k el' qs hk => by
    rcases Nat.lt_trichotomy k hp.length with hl | rfl | hl
    · rw [List.getElem?_append_left hl] at hk; exact .inl ⟨hl, hk⟩
    · simp at hk; exact .inr ⟨rfl, hk.1.symm, hk.2.symm⟩
    · rw [List.getElem?_eq_none (by simp; omega)] at hk; cases hk
  obtain ⟨htm, hxs⟩ := chain_ok I.chain I.tmr.okay
  have hin : ∀ {y : Late}, y ∈ addM hp.length late → ∃ x ∈ late, y.i = x.i ∧ y.o = x.o := fun hy => by obtain ⟨x, h1, h2, h3, _⟩ := addM_mem hy; exact ⟨x, h1, h2, h3⟩
  refine { I with
    real := fun i h => by obtain ⟨p, h1, h2⟩ := I.real i h; exact ⟨p, by simp [h1], h2⟩
    virt := fun p hp => ?_
    get := fun x hx => by
      rcases List.mem_cons.1 hx with rfl | hx
      · exact S.get
      · obtain ⟨y, h1, h2, h3⟩ := hin hx; rw [h2, h3]; exact I.get y h1
    along := .take rfl I.along.addM
    nodup := List.pairwise_cons.2 ⟨fun x hx => by obtain ⟨y, h1, h2, _⟩ := hin hx; rw [h2]; exact (hne y h1).symm, ?_⟩
    pairs := List.pairwise_cons.2 ⟨fun x hx => by obtain ⟨y, h1, h2, h3⟩ := hin hx; rw [h2, h3]; exact (hlo y h1).elim (fun h => .inr h.2) (fun h => .inl h.2), ?_⟩
    rkind := fun x hx M hM => ?_
    rmask := fun x hx M hM z hz b hb => ?_
    mblk := fun z hz b hb => ?_
    mone := fun y hy z hz b h1 h2 => ?_
    avoid := fun y hy z hz b hb hyz => ?_
    tmr := I.tmr.down' hle
    chain := by
      rw [hpe]
      exact (I.chain.grow I.hpok I.tmr.okay fun x hx c hc => (I.mblk x (pend_mem.1 hx).1 c hc).2).snoc ⟨fun ρ a ht => hw ρ a (ht.down htm), el, ps, by simp, okL_mono (fun x hx => Nat.lt_of_lt_of_le hx hle) _ hps, hv, okL_mono (fun x hx e => by omega) _ hps, fun ρ a ht => hrun ρ a (ht.down htm)⟩
        (SV.ok_mono (fun x hx => by rw [hx, hlen]; exact Nat.lt_succ_self _) v hv) hd
    step := I.step.grow.sub (by simp [mask_length]) fun c el' qs hc => ?_
    hpok := fun k el' qs hk => ?_
    a1 := fun t u hu => SV.ok_and (fun x (h1 : x ∉ pendB (pend listed late)) (h2 : x < hp.length) h => (hpb x |>.1 h).elim h1 (fun e => by omega)) u (I.a1 t u hu) (I.tmr.okay t u hu)
    a2 := fun c el' qs hc hcc => ?_
    plan := ⟨T', hT, hpl⟩
    vc := hvc }
  · rcases List.mem_cons.1 hp with rfl | hp
    · exact .inr ⟨_, List.mem_cons_self, rfl⟩
    · rcases I.virt p hp with h | ⟨x, h1, h2⟩
      · exact .inl h
      · right
        rw [addM_map]
        refine ⟨_, List.mem_cons_of_mem _ (List.mem_map.2 ⟨x, h1, rfl⟩), ?_⟩
        rw [← h2]
        split <;> rfl
  · rw [addM_map, List.pairwise_map]
    refine I.nodup.imp fun {x y} h => ?_
    obtain ⟨i, o, v, kx⟩ := x
    obtain ⟨i', o', v', kx'⟩ := y
    cases kx <;> cases kx' <;> exact h
  · rw [addM_map, List.pairwise_map]
    refine I.pairs.imp fun {x y} h => ?_
    obtain ⟨i, o, v, kx⟩ := x
    obtain ⟨i', o', v', kx'⟩ := y
    cases kx <;> cases kx' <;> exact h
  · rcases List.mem_cons.1 hx with rfl | hx
    · cases hM
    · obtain ⟨y, h1, h2, h3, h4, h5⟩ := addM_mem hx
      rcases h5 with ⟨M', h6, _⟩ | ⟨h6, h7⟩
      · rw [h3]; exact I.rkind y h1 M' h6
      · rw [h7] at hM; exact absurd hM (h6 M)
  · rcases List.mem_cons.1 hx with rfl | hx
    · cases hM
    · obtain ⟨y, h1, h2, h3, h4, h5⟩ := addM_mem hx
      rcases h5 with ⟨M', h6, h7⟩ | ⟨h6, h7⟩
      · rw [h7] at hM
        cases hM
        rcases List.mem_cons.1 hz with rfl | hz
        · cases hb; exact .inr (by simp)
        · obtain ⟨z', g1, g2, g3, _⟩ := hmk hz hb
          rw [g3, h2]
          rcases I.rmask y h1 M' h6 z' g1 b g2 with h | h
          · exact .inl h
          · exact .inr (by simp [h])
      · rw [h7] at hM; exact absurd hM (h6 M)
  · rw [hlen]
    rcases List.mem_cons.1 hz with rfl | hz
    · cases hb; exact ⟨by have := I.step.le; rwa [mask_length] at this, Nat.lt_succ_self _⟩
    · obtain ⟨z', g1, g2, _⟩ := hmk hz hb
      have := I.mblk z' g1 b g2
      exact ⟨this.1, by omega⟩
  · rcases List.mem_cons.1 hy with rfl | hy
    · cases h1
      rcases List.mem_cons.1 hz with rfl | hz
      · rfl
      · obtain ⟨z', g1, g2, _⟩ := hmk hz h2
        have := (I.mblk z' g1 _ g2).2; omega
    · obtain ⟨y', f1, f2, f3, _⟩ := hmk hy h1
      rcases List.mem_cons.1 hz with rfl | hz
      · cases h2
        have := (I.mblk y' f1 _ f2).2; omega
      · obtain ⟨z', g1, g2, g3, _⟩ := hmk hz h2
        rw [f3, g3]; exact I.mone y' f1 z' g1 b f2 g2
  · rw [hpe] at hy hz
    rcases List.mem_append.1 hz with hz | hz
    · obtain ⟨z', g1, g2, g3, _⟩ := hmk hz hb
      have hzl := (pend_mem.1 g1).1
      have hbl := (I.mblk z' hzl b g2).2
      rcases List.mem_append.1 hy with hy | hy
      · obtain ⟨y', f1, f2, f3, f4, f5⟩ := addM_mem hy
        rw [f2, g3] at hyz ⊢
        rcases I.avoid y' f1 z' g1 b g2 hyz with h | ⟨h, h'⟩
        · exact .inl h
        · refine .inr ⟨by rw [f4]; exact h, fun c el' qs hc hcc => ?_⟩
          obtain ⟨y2, e1, e2, _⟩ := hmk hy hc
          have hcl := (I.mblk y2 (pend_mem.1 e1).1 c e2).2
          rw [List.getElem?_append_left hcl] at hcc
          refine h' c el' qs ?_ hcc
          rcases f5 with ⟨M, _, h6⟩ | ⟨_, h6⟩
          · rw [h6] at hc; cases hc
          · rw [← h6, hc]
      · simp at hy; subst hy
        rw [g3]
        rcases hlo z' hzl with ⟨q1, _⟩ | ⟨_, q2⟩
        · refine .inr ⟨SV.ok_mono (fun x hx e => by omega) v hv, fun c el' qs hc hcc => ?_⟩
          cases hc
          simp at hcc
          obtain ⟨_, rfl⟩ := hcc
          exact okL_mono (fun x hx e => hx (by rw [e]; exact looseL_mem.2 ⟨z', hzl, g2, q1⟩)) _ hav
        · exact .inl q2
    · simp at hz; subst hz
      cases hb
      rcases List.mem_append.1 hy with hy | hy
      · obtain ⟨y', f1, f2, f3, f4, f5⟩ := addM_mem hy
        refine .inr ⟨?_, fun c el' qs hc hcc => ?_⟩
        · rw [f4]; exact SV.ok_mono (fun x hx e => by omega) _ (hxs y' f1)
        · obtain ⟨y2, e1, e2, _⟩ := hmk hy hc
          have hcl := (I.mblk y2 (pend_mem.1 e1).1 c e2).2
          rw [List.getElem?_append_left hcl] at hcc
          exact okL_mono (fun x hx e => by omega) _ (I.hpok c el' qs hcc)
      · simp at hy; subst hy; exact absurd rfl hyz
  · rw [mask_get] at hc
    obtain ⟨h1, h2⟩ := hc
    have hcn : c ∉ pendB (pend listed late) ∧ c ≠ hp.length := by
      have := fun h => h1 ((hpb c).2 h)
      exact ⟨fun h => this (.inl h), fun h => this (.inr h)⟩
    rcases old c el' qs h2 with ⟨hl, h3⟩ | ⟨h3, _⟩
    · rw [List.getElem?_append_left (by rwa [mask_length])]
      exact mask_get.2 ⟨hcn.1, h3⟩
    · exact absurd h3 hcn.2
  · rcases old k el' qs hk with ⟨hl, h3⟩ | ⟨_, _, rfl⟩
    · exact okL_mono (fun x hx => Nat.lt_of_lt_of_le hx hle) _ (I.hpok k el' qs h3)
    · exact okL_mono (fun x hx => Nat.lt_of_lt_of_le hx hle) _ hps
  · have hcn : c ∉ pendB (pend listed late) ∧ c ≠ hp.length := by
      have := fun h => hc ((hpb c).2 h)
      exact ⟨fun h => this (.inl h), fun h => this (.inr h)⟩
    rcases old c el' qs hcc with ⟨hl, h3⟩ | ⟨h3, _⟩
    · exact okL_and (fun x (g1 : x ∉ pendB (pend listed late)) (g2 : x < hp.length) h => (hpb x |>.1 h).elim g1 (fun e => by omega)) (I.a2 c el' qs hcn.1 h3) (I.hpok c el' qs h3)
    · exact absurd h3 hcn.2
end
end Go.Sym
