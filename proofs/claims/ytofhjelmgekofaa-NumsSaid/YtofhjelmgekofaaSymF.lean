/-
  The symbolic engine, part 6: steps of the symbolic heap; operands; what a symbolic specification of a function promises. No program in sight; no condition beyond each lemma's own.
-/
import Derived.Test.YtofhjelmgekofaaSymE
set_option linter.unusedSimpArgs false
set_option linter.unusedVariables false
namespace Go.Sym

section steps
variable {ρ : Nat → Nat} {hp : List Blk} {w : World}

theorem HpRel.lt (h : HpRel ρ hp w) {k : Nat} {el : TypeId} {ps : List SV} (hk : hp[k]? = some (.mk el ps)) : ρ k < w.heap.size := by
  obtain ⟨_, _, fz, h1, _⟩ := h.mem k el ps hk
  exact (Array.getElem?_eq_some_iff.1 h1).1

/-- a world with the same memory and outside -/
theorem Step.world (h : HpRel ρ hp w) {w' : World} (hh : w'.heap = w.heap) (ho : w'.os = w.os) (hu : w'.output = w.output) (ht : w'.tape = w.tape) : Step ρ hp w ρ hp w' :=
  ⟨⟨fun k el ps hk => by rw [hh]; exact h.mem k el ps hk, h.inj⟩, fun _ _ => rfl, Nat.le_refl _, ⟨by rw [hh]; exact Nat.le_refl _, fun b _ _ => by rw [hh], ho, hu, ht⟩, fun _ h => .inl h⟩

theorem Step.trans {ρ1 ρ2 : Nat → Nat} {hp1 hp2 : List Blk} {w1 w2 : World} (h : Step ρ hp w ρ1 hp1 w1) (h' : Step ρ1 hp1 w1 ρ2 hp2 w2) : Step ρ hp w ρ2 hp2 w2 :=
  ⟨h'.rel, fun k hk => by rw [h'.same k (Nat.lt_of_lt_of_le hk h.le), h.same k hk], Nat.le_trans h.le h'.le, h.ext.trans h'.ext h.foot,
   fun b hb => (h'.foot b hb).elim (fun hb => h.foot b hb) (fun hl => .inr (Nat.le_trans h.ext.size hl))⟩

def bump (ρ : Nat → Nat) (n b : Nat) : Nat → Nat := fun k => if k = n then b else ρ k
theorem bump_lt {n b k : Nat} (h : k < n) : bump ρ n b k = ρ k := by unfold bump; rw [if_neg (by omega)]
theorem bump_self {n b : Nat} : bump ρ n b n = b := by unfold bump; rw [if_pos rfl]

/-- a new block -/
theorem Step.alloc (h : HpRel ρ hp w) {el el0 : TypeId} {ps : List SV} (hps : okL (· < hp.length) ps) {w' : World} {fz : Nat × Nat}
    (hh : w'.heap = w.heap.push (.cells (cellsL ρ ps).toArray el0 fz)) (hf : fz.2 ≤ fz.1 ∨ (cellsL ρ ps).length ≤ fz.1)
    (ho : w'.os = w.os) (hu : w'.output = w.output) (ht : w'.tape = w.tape) :
    Step ρ hp w (bump ρ hp.length w.heap.size) (hp ++ [.mk el ps]) w' := by
  have hlen : (hp ++ [Blk.mk el ps]).length = hp.length + 1 := by simp
  have hc : ∀ qs : List SV, okL (· < hp.length) qs → cellsL (bump ρ hp.length w.heap.size) qs = cellsL ρ qs := fun qs hq =>
    cellsL_congr (p := (· < hp.length)) (fun k hk => bump_lt hk) qs hq
  have old : ∀ (k : Nat) (el' : TypeId) (ps' : List SV), (hp ++ [Blk.mk el ps])[k]? = some (Blk.mk el' ps') → k < hp.length ∧ hp[k]? = some (Blk.mk el' ps') ∨ k = hp.length ∧ el' = el ∧ ps' = ps := by
    intro k el' ps' hk
    rcases Nat.lt_trichotomy k hp.length with hl | rfl | hl
    · rw [List.getElem?_append_left hl] at hk; exact .inl ⟨hl, hk⟩
    · simp at hk; exact .inr ⟨rfl, hk.1.symm, hk.2.symm⟩
    · rw [List.getElem?_eq_none (by simp; omega)] at hk; cases hk
  refine ⟨⟨?_, ?_⟩, fun k hk => bump_lt hk, by simp, ⟨by rw [hh]; simp, ?_, ho, hu, ht⟩, ?_⟩
  · intro k el' ps' hk
    rcases old k el' ps' hk with ⟨hl, hk'⟩ | ⟨rfl, rfl, rfl⟩
    · obtain ⟨h1, el2, fz', h2, h3⟩ := h.mem k el' ps' hk'
      refine ⟨okL_mono (fun x hx => by rw [hlen]; exact Nat.lt_succ_of_lt hx) _ h1, el2, fz', ?_, ?_⟩
      · rw [bump_lt hl, hh, Array.getElem?_push, if_neg (Nat.ne_of_lt (h.lt hk')), hc _ h1, h2]
      · rw [hc _ h1]; exact h3
    · refine ⟨okL_mono (fun x hx => by rw [hlen]; exact Nat.lt_succ_of_lt hx) _ hps, el0, fz, ?_, ?_⟩
      · rw [bump_self, hh, hc _ hps]; simp
      · rw [hc _ hps]; exact hf
  · intro k k' el1 ps1 el2 ps2 h1 h2 he
    rcases old k el1 ps1 h1 with ⟨hl, hk⟩ | ⟨rfl, _, _⟩ <;> rcases old k' el2 ps2 h2 with ⟨hl', hk'⟩ | ⟨rfl, _, _⟩
    · rw [bump_lt hl, bump_lt hl'] at he; exact h.inj k k' _ _ _ _ hk hk' he
    · rw [bump_lt hl, bump_self] at he; exact absurd he (Nat.ne_of_lt (h.lt hk))
    · rw [bump_lt hl', bump_self] at he; exact absurd he.symm (Nat.ne_of_lt (h.lt hk'))
    · rfl
  · intro b hb _
    rw [hh, Array.getElem?_push, if_neg (Nat.ne_of_lt hb)]
  · rintro b ⟨k, el', ps', hk, rfl⟩
    rcases old k el' ps' hk with ⟨hl, hk'⟩ | ⟨rfl, _, _⟩
    · rw [bump_lt hl]; exact .inl ⟨k, el', ps', hk', rfl⟩
    · rw [bump_self]; exact .inr (Nat.le_refl _)

/-- a block written -/
theorem Step.write (h : HpRel ρ hp w) {k : Nat} {el el0 : TypeId} {ps ps' : List SV} (hk : hp[k]? = some (.mk el ps)) (hps : okL (· < hp.length) ps') {fz : Nat × Nat}
    (hf : fz.2 ≤ fz.1 ∨ (cellsL ρ ps').length ≤ fz.1) : Step ρ hp w ρ (hp.set k (.mk el ps')) (World.putAt w (ρ k) (.cells (cellsL ρ ps').toArray el0 fz)) := by
  have hkl : k < hp.length := (List.getElem?_eq_some_iff.1 hk).1
  have old : ∀ (k' : Nat) (el' : TypeId) (qs : List SV), (hp.set k (Blk.mk el ps'))[k']? = some (Blk.mk el' qs) → k' ≠ k ∧ hp[k']? = some (Blk.mk el' qs) ∨ k' = k ∧ el' = el ∧ qs = ps' := by
    intro k' el' qs h'
    by_cases e : k' = k
    · subst e; rw [List.getElem?_set_self hkl] at h'; simp at h'; exact .inr ⟨rfl, h'.1.symm, h'.2.symm⟩
    · rw [List.getElem?_set_ne (fun x => e x.symm)] at h'; exact .inl ⟨e, h'⟩
  refine ⟨⟨?_, ?_⟩, fun _ _ => rfl, by simp, ⟨by simp [World.putAt], ?_, rfl, rfl, rfl⟩, ?_⟩
  · intro k' el' qs h'
    rcases old k' el' qs h' with ⟨hne, hk'⟩ | ⟨rfl, rfl, rfl⟩
    · obtain ⟨h1, el2, fz', h2, h3⟩ := h.mem k' el' qs hk'
      refine ⟨by simpa using h1, el2, fz', ?_, h3⟩
      have : ρ k ≠ ρ k' := fun e => hne (h.inj k' k _ _ _ _ hk' hk e.symm)
      simp only [World.putAt]
      rw [Array.getElem?_setIfInBounds_ne this]; exact h2
    · refine ⟨by simpa using hps, el0, fz, ?_, hf⟩
      simp [World.putAt, h.lt hk]
  · intro a b el1 ps1 el2 ps2 h1 h2 he
    have f : ∀ (k' : Nat) (el' : TypeId) (qs : List SV), (hp.set k (Blk.mk el ps'))[k']? = some (Blk.mk el' qs) → ∃ (e : TypeId) (q : List SV), hp[k']? = some (Blk.mk e q) := fun k' el' qs h' => by
      rcases old k' el' qs h' with ⟨_, hk'⟩ | ⟨rfl, _, _⟩
      · exact ⟨_, _, hk'⟩
      · exact ⟨_, _, hk⟩
    obtain ⟨_, _, g1⟩ := f a _ _ h1
    obtain ⟨_, _, g2⟩ := f b _ _ h2
    exact h.inj a b _ _ _ _ g1 g2 he
  · intro b _ hn
    have : ρ k ≠ b := fun e => hn ⟨k, el, ps, hk, e⟩
    simp only [World.putAt]
    rw [Array.getElem?_setIfInBounds_ne this]
  · rintro b ⟨k', el', qs, h', rfl⟩
    rcases old k' el' qs h' with ⟨_, hk'⟩ | ⟨rfl, _, _⟩
    · exact .inl ⟨k', _, _, hk', rfl⟩
    · exact .inl ⟨k', _, _, hk, rfl⟩

/-- a block under a new number, the old one given up -/
theorem Step.move (h : HpRel ρ hp w) {k : Nat} {el el' : TypeId} {ps : List SV} (hk : hp[k]? = some (.mk el ps)) :
    Step ρ hp w (bump ρ hp.length (ρ k)) (hp.set k .dead ++ [.mk el' ps]) w := by
  have hkl : k < hp.length := (List.getElem?_eq_some_iff.1 hk).1
  have hlen : (hp.set k Blk.dead ++ [Blk.mk el' ps]).length = hp.length + 1 := by simp
  have hc : ∀ qs : List SV, okL (· < hp.length) qs → cellsL (bump ρ hp.length (ρ k)) qs = cellsL ρ qs := fun qs hq =>
    cellsL_congr (p := (· < hp.length)) (fun k hk => bump_lt hk) qs hq
  have old : ∀ (x : Nat) (e : TypeId) (qs : List SV), (hp.set k Blk.dead ++ [Blk.mk el' ps])[x]? = some (Blk.mk e qs) → (x < hp.length ∧ x ≠ k ∧ hp[x]? = some (Blk.mk e qs)) ∨ (x = hp.length ∧ e = el' ∧ qs = ps) := by
    intro x e qs hx
    rcases Nat.lt_trichotomy x hp.length with hl | rfl | hl
    · rw [List.getElem?_append_left (by simpa using hl)] at hx
      by_cases hxk : x = k
      · subst hxk; rw [List.getElem?_set_self hl] at hx; cases hx
      · rw [List.getElem?_set_ne (fun e => hxk e.symm)] at hx; exact .inl ⟨hl, hxk, hx⟩
    · rw [List.getElem?_append_right (by simp)] at hx; simp at hx; exact .inr ⟨rfl, hx.1.symm, hx.2.symm⟩
    · rw [List.getElem?_eq_none (by simp; omega)] at hx; cases hx
  refine ⟨⟨?_, ?_⟩, fun x hx => bump_lt hx, by simp, Ext.refl _ _, ?_⟩
  · intro x e qs hx
    rcases old x e qs hx with ⟨hl, _, hx'⟩ | ⟨rfl, rfl, rfl⟩
    · obtain ⟨h1, el2, fz, h2, h3⟩ := h.mem x e qs hx'
      exact ⟨okL_mono (fun y hy => by rw [hlen]; exact Nat.lt_succ_of_lt hy) _ h1, el2, fz, by rw [bump_lt hl, hc _ h1, h2], by rw [hc _ h1]; exact h3⟩
    · obtain ⟨h1, el2, fz, h2, h3⟩ := h.mem k _ _ hk
      exact ⟨okL_mono (fun y hy => by rw [hlen]; exact Nat.lt_succ_of_lt hy) _ h1, el2, fz, by rw [bump_self, hc _ h1, h2], by rw [hc _ h1]; exact h3⟩
  · intro x y e1 q1 e2 q2 h1 h2 he
    rcases old x e1 q1 h1 with ⟨hl, hn, hx⟩ | ⟨rfl, _, _⟩ <;> rcases old y e2 q2 h2 with ⟨hl', hn', hy⟩ | ⟨rfl, _, _⟩
    · rw [bump_lt hl, bump_lt hl'] at he; exact h.inj x y _ _ _ _ hx hy he
    · rw [bump_lt hl, bump_self] at he; exact absurd (h.inj x k _ _ _ _ hx hk he) hn
    · rw [bump_lt hl', bump_self] at he; exact absurd (h.inj y k _ _ _ _ hy hk he.symm) hn'
    · rfl
  · rintro b ⟨x, e, qs, hx, rfl⟩
    rcases old x e qs hx with ⟨hl, _, hx'⟩ | ⟨rfl, _, _⟩
    · rw [bump_lt hl]; exact .inl ⟨x, e, qs, hx', rfl⟩
    · rw [bump_self]; exact .inl ⟨k, el, ps, hk, rfl⟩

/-- a block given up -/
theorem Step.kill (h : HpRel ρ hp w) (k : Nat) : Step ρ hp w ρ (hp.set k .dead) w := by
  have old : ∀ (k' : Nat) (el' : TypeId) (qs : List SV), (hp.set k Blk.dead)[k']? = some (Blk.mk el' qs) → hp[k']? = some (Blk.mk el' qs) := by
    intro k' el' qs h'
    by_cases e : k' = k
    · subst e
      rw [List.getElem?_set] at h'
      split at h'
      · split at h' <;> cases h'
      · rename_i hne; exact absurd rfl hne
    · rwa [List.getElem?_set_ne (fun x => e x.symm)] at h'
  refine ⟨⟨fun k' el' qs h' => ?_, fun a b _ _ _ _ h1 h2 he => h.inj a b _ _ _ _ (old _ _ _ h1) (old _ _ _ h2) he⟩, fun _ _ => rfl, by simp, Ext.refl _ _, ?_⟩
  · obtain ⟨h1, h2⟩ := h.mem k' el' qs (old _ _ _ h')
    exact ⟨by simpa using h1, h2⟩
  · rintro b ⟨k', el', qs, h', rfl⟩
    exact .inl ⟨k', _, _, old _ _ _ h', rfl⟩
end steps

/-! ### operands -/
structure TmRel (nt : Nat) (ρ : Nat → Nat) (n : Nat) (tm : List (Nat × SV)) (a : Act) : Prop where
  size : a.tmps.size = nt
  defers : a.defers = []
  val : ∀ t v, look tm t = some v → v.ok (· < n) ∧ a.tmps[t]? = some (v.den ρ)

theorem TmRel.later {nt : Nat} {ρ ρ' : Nat → Nat} {n n' : Nat} {tm : List (Nat × SV)} {a : Act} (h : TmRel nt ρ n tm a) (hs : ∀ k, k < n → ρ' k = ρ k) (hn : n ≤ n') : TmRel nt ρ' n' tm a :=
  ⟨h.size, h.defers, fun t v hv => by
    obtain ⟨h1, h2⟩ := h.val t v hv
    exact ⟨SV.ok_mono (fun k hk => Nat.lt_of_lt_of_le hk hn) v h1, by rw [h2, SV.den_congr (p := (· < n)) (fun k hk => (hs k hk).symm) v h1]⟩⟩

theorem constK_e {ρ : Nat → Nat} {p : Nat → Prop} {v : Value} {k : SV → Prop} (h : constK v k) : ∃ x : SV, k x ∧ x.ok p ∧ v = x.den ρ := by
  unfold constK at h
  split at h
  · exact ⟨_, h, trivial, rfl⟩
  · exact ⟨_, h, trivial, rfl⟩
  · split at h
    · rename_i n _ e
      have hl : n < 256 := Nat.le_of_ble_eq_true e
      refine ⟨_, h, trivial, ?_⟩
      simp only [SV.den, UInt8.toNat_ofNat']
      rw [Nat.mod_eq_of_lt (show n < 2 ^ 8 from hl)]; rfl
    · exact h.elim
  · split at h
    · rename_i n _ e
      have hl : n < 65536 := Nat.le_of_ble_eq_true e
      refine ⟨_, h, trivial, ?_⟩
      simp only [SV.den, UInt16.toNat_ofNat']
      rw [Nat.mod_eq_of_lt (show n < 2 ^ 16 from hl)]; rfl
    · exact h.elim
  · split at h
    · rename_i n _ e
      have hl : n < 4294967296 := Nat.le_of_ble_eq_true e
      refine ⟨_, h, trivial, ?_⟩
      simp only [SV.den, UInt32.toNat_ofNat']
      rw [Nat.mod_eq_of_lt (show n < 2 ^ 32 from hl)]; rfl
    · exact h.elim
  · split at h
    · rename_i n _ e
      have hl : n < 18446744073709551616 := Nat.le_of_ble_eq_true e
      refine ⟨_, h, trivial, ?_⟩
      simp only [SV.den, UInt64.toNat_ofNat']
      rw [Nat.mod_eq_of_lt (show n < 2 ^ 64 from hl)]; rfl
    · exact h.elim
  · exact ⟨_, h, trivial, rfl⟩
  · exact ⟨_, h, trivial, rfl⟩
  · exact ⟨_, h, trivial, rfl⟩
  · exact ⟨_, h, trivial, rfl⟩
  · exact ⟨_, h, trivial, rfl⟩
  · exact h.elim

section
variable {nt : Nat} {ρ : Nat → Nat} {n : Nat} {tm : List (Nat × SV)} {a : Act}
theorem evK_e (h : TmRel nt ρ n tm a) {x : Operand} {k : SV → Prop} (hk : evK tm x k) : ∃ v : SV, v.ok (· < n) ∧ a.eval x = v.den ρ ∧ k v := by
  unfold evK at hk
  split at hk
  · obtain ⟨v, h1, h2⟩ := lookK_e hk
    obtain ⟨h3, h4⟩ := h.val _ v h1
    exact ⟨v, h3, by simp [Act.eval, h4], h2⟩
  · obtain ⟨v, h3, h1, h2⟩ := constK_e (ρ := ρ) (p := (· < n)) hk
    exact ⟨v, h1, by simpa [Act.eval] using h2, h3⟩
  · exact ⟨.func _ [], trivial, rfl, hk⟩
  · exact hk.elim
theorem evsK_e (h : TmRel nt ρ n tm a) {xs : List Operand} {k : List SV → Prop} (hk : evsK tm xs k) : ∃ vs : List SV, okL (· < n) vs ∧ xs.map a.eval = denL ρ vs ∧ k vs := by
  induction xs generalizing k with
  | nil => exact ⟨[], trivial, rfl, hk⟩
  | cons x xs ih =>
    obtain ⟨v, h1, h2, h3⟩ := evK_e h hk
    obtain ⟨vs, g1, g2, g3⟩ := ih h3
    exact ⟨v :: vs, ⟨h1, g1⟩, by simp [denL, h2, g2], g3⟩
theorem partsVK_e (h : TmRel nt ρ n tm a) {xs : List (Nat × Operand)} {k : List (Nat × SV) → Prop} (hk : partsVK tm xs k) :
    ∃ vs : List (Nat × SV), (∀ p ∈ vs, p.2.ok (· < n)) ∧ (xs.map fun p => (p.1, a.eval p.2)) = (vs.map fun p => (p.1, p.2.den ρ)) ∧ k vs := by
  induction xs generalizing k with
  | nil => exact ⟨[], by simp, rfl, hk⟩
  | cons x xs ih =>
    obtain ⟨i, x⟩ := x
    obtain ⟨v, h1, h2, h3⟩ := evK_e h hk
    obtain ⟨vs, g1, g2, g3⟩ := ih h3
    exact ⟨(i, v) :: vs, fun p hp => by rcases List.mem_cons.1 hp with rfl | hp; exact h1; exact g1 p hp, by simp [h2, g2], g3⟩
theorem putK_e (h : TmRel nt ρ n tm a) {hp : List Blk} {d : Option Nat} {v : SV} {K : St → Prop} (hv : v.ok (· < n)) (hk : putK nt tm hp d v K) :
    ∃ tm', TmRel nt ρ n tm' (a.put d (v.den ρ)) ∧ K ⟨tm', hp⟩ := by
  unfold putK at hk
  split at hk
  · split at hk
    · rename_i d _ e
      have hd : d < nt := Nat.le_of_ble_eq_true e
      refine ⟨_, ⟨by simp [Act.put, h.size], h.defers, fun t u hu => ?_⟩, hk⟩
      simp only [look] at hu
      split at hu
      · rename_i e; subst e; cases hu
        exact ⟨hv, by simp [Act.put, h.size, hd]⟩
      · rename_i e
        obtain ⟨g1, g2⟩ := h.val t u hu
        exact ⟨g1, by simp only [Act.put]; rw [Array.getElem?_setIfInBounds_ne e]; exact g2⟩
    · exact hk.elim
  · exact ⟨tm, h, hk⟩
end

/-! ### types -/
def Ty.agg : Ty → Bool
  | .arr .. | .struct .. => true
  | _ => false

def TyOK (P : Program) (t : TypeId) (i : TyI) : Prop :=
  (∃ info, P.info? t = some info ∧ info.size = i.sz ∧ info.bytes = i.bytes ∧ ∀ ρ, info.zero = some (i.zero.den ρ)) ∧
  (i.zero.ok (fun _ => False) ∧ (i.d.agg = false → i.sz = 1) ∧ i.zero.size = i.sz) ∧
  (match i.d with
   | .int k => P.underlying t = some (.int k)
   | .bool => P.underlying t = some .bool
   | .str => P.underlying t = some .string
   | .ptr => ∃ e, P.underlying t = some (.pointer e)
   | .sl e => P.underlying t = some (.slice e)
   | .arr n e => P.underlying t = some (.array n e)
   | .struct fs => ∃ fields : Array Field, P.underlying t = some (.struct fields) ∧ (fields.toList.map fun f => (f.offset, f.type)) = fs ∧ ∀ f ∈ fields, f.name ≠ "_"
   | .func => ∃ a b c, P.underlying t = some (.func a b c)
   | .iface => ∃ ms, P.underlying t = some (.interface ms)
   | .other => ∃ d, P.underlying t = some d ∧ (match d with | .struct _ | .array _ _ | .int _ => False | _ => True)) ∧
  (i.eqOk = true → P.stoodInHeld t = false ∧ P.eqGuardType P.depth t = false)

/-- what a specification of a function promises, by the model -/
def Post (K : SV → List Blk → Prop) (ρ : Nat → Nat) (hp : List Blk) (w : World) (r : SV) (ρ' : Nat → Nat) (hp' : List Blk) (w' : World) : Prop :=
  K r hp' ∧ r.ok (· < hp'.length) ∧ Step ρ hp w ρ' hp' w'

def CallOut (P : Program) (f : FuncId) (args : Array Value) (ρ : Nat → Nat) (hp : List Blk) (w : World) (K : SV → List Blk → Prop) : Prop :=
  (∃ r ρ' hp' w', (callFunc f args).run P w = .ok (.value (r.den ρ')) w' ∧ Post K ρ hp w r ρ' hp' w') ∨
  ((callFunc f args).run P w = .ok (.enter f args) w ∧ Calls P f args w fun e w' => ∃ r ρ' hp', e = .returned (r.den ρ') ∧ Post K ρ hp w r ρ' hp' w')

def SoundC (P : Program) (f : FuncId) (S : Spec) : Prop :=
  ∀ (args : List SV) (hp : List Blk) (K : SV → List Blk → Prop), S args hp K → ∀ (ρ : Nat → Nat) (w : World), HpRel ρ hp w → okL (· < hp.length) args →
    CallOut P f (denL ρ args).toArray ρ hp w K

structure CtxOK (P : Program) (Γ : Ctx) : Prop where
  ty : ∀ t i, look Γ.ty t = some i → TyOK P t i
  fn : ∀ f S, look Γ.fn f = some S → SoundC P f S
  ext : ∀ a t v, Γ.ext a t v → v.ok (fun _ => False) ∧ ∀ ρ w, Γ.E w → (loadVar t a).run P w = .ok (v.den ρ) w

theorem CallOut.mono {P : Program} {f : FuncId} {args : Array Value} {ρ : Nat → Nat} {hp : List Blk} {w : World} {K K' : SV → List Blk → Prop}
    {ρ1 : Nat → Nat} {hp1 : List Blk} (h : CallOut P f args ρ hp w K)
    (hm : ∀ r ρ' hp' w', Post K ρ hp w r ρ' hp' w' → ∃ r1 ρ1' hp1', r1.den ρ1' = r.den ρ' ∧ Post K' ρ1 hp1 w r1 ρ1' hp1' w') : CallOut P f args ρ1 hp1 w K' := by
  rcases h with ⟨r, ρ', hp', w', h1, h2⟩ | ⟨h1, h2⟩
  · obtain ⟨r1, ρ1', hp1', e, hp⟩ := hm r ρ' hp' w' h2
    exact .inl ⟨r1, ρ1', hp1', w', by rw [h1, e], hp⟩
  · refine .inr ⟨h1, h2.mono fun e w' ⟨r, ρ', hp', he, hpost⟩ => ?_⟩
    obtain ⟨r1, ρ1', hp1', e1, hp⟩ := hm r ρ' hp' w' hpost
    exact ⟨r1, ρ1', hp1', by rw [he, e1], hp⟩

end Go.Sym
