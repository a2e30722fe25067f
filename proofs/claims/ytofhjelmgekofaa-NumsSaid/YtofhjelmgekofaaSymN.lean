/-
  The symbolic engine, part 14: what writes, calls, or draws a size; all operations together. No program in sight; no condition beyond each lemma's own.
-/
import Derived.Test.YtofhjelmgekofaaSymM
set_option linter.unusedSimpArgs false
set_option linter.unusedVariables false
namespace Go.Sym

section
variable {P : Program} {Γ : Ctx} {ρ : Nat → Nat} {hp : List Blk} {w : World} {tm : List (Nat × SV)} {a : Act} {nb : Nat}

/-- what an anchor comes to: a value, nothing, or a call -/
def AnchorOut (P : Program) (o : Oper) (a : Act) (ρ : Nat → Nat) (hp : List Blk) (w : World) (put : SV → List Blk → Prop) (skip : List Blk → Prop) : Prop :=
  (∃ v ρ' hp' w', (execOp a.eval o).run P w = .ok (.value (v.den ρ')) w' ∧ v.ok (· < hp'.length) ∧ Step ρ hp w ρ' hp' w' ∧ put v hp') ∨
  (∃ hp' w', (execOp a.eval o).run P w = .ok .skip w' ∧ Step ρ hp w ρ hp' w' ∧ skip hp') ∨
  (∃ f args, (execOp a.eval o).run P w = .ok (.enter f args) w ∧ Calls P f args w fun e w' => ∃ v ρ' hp', e = .returned (v.den ρ') ∧ v.ok (· < hp'.length) ∧ Step ρ hp w ρ' hp' w' ∧ put v hp')

theorem AnchorOut.mem {o : Oper} {put : SV → List Blk → Prop} {skip : List Blk → Prop} {s : Sem Value} (he : execOp a.eval o = (do pure (.value (← s)) : Sem Next)) (h : Mem P ρ hp w put s) : AnchorOut P o a ρ hp w put skip := by
  obtain ⟨v, ρ', hp', w', h1, h2, h3, h4⟩ := h
  refine .inl ⟨v, ρ', hp', w', ?_, h2, h3, h4⟩
  rw [he]; simp only [Sem.run_bind, h1, Result.andThen_ok, Sem.run_pure]

variable (dst : Option Nat) (type : TypeId) (pos : String) (after : Array Edge) (guard : Option (Nat × Bool))

theorem anchor_store (hΓ : CtxOK P Γ) (hr : HpRel ρ hp w) (ht : TmRel Γ.nt ρ hp.length tm a) (t : TypeId) (x y : Operand) {put : SV → List Blk → Prop} {skip : List Blk → Prop}
    (h : anchorK Γ (.store t x y) tm hp put skip) : AnchorOut P ⟨dst, .store t x y, type, pos, after, guard⟩ a ρ hp w put skip := by
  unfold anchorK at h
  dsimp only at h
  have hh := lookK_e h; clear h; obtain ⟨ti, hti, h⟩ := hh
  have hT := hΓ.ty t ti hti
  have hh := evK_e ht h; clear h; obtain ⟨v, v0, h2, h⟩ := hh
  have hh := evK_e ht h; clear h; obtain ⟨u, hu, h3, h⟩ := hh
  split at h
  · rename_i k j b oo
    have hh := partsK_e h; clear h; obtain ⟨el, ps, hk, h⟩ := hh
    obtain ⟨hok, el0, fz, hblk, hfz⟩ := hr.mem k el ps hk
    have hh := storeK_e (ρ := ρ) hok hu h; clear h; obtain ⟨ps', h, hok', hlen, hw1, hw2, hw3⟩ := hh
    have hh := setK_e h; clear h; obtain ⟨_, h⟩ := hh
    have hst := run_storeCells_part (P := P) (b := ρ k) (s := b + off oo) (el := el0) (fz := fz) (u.cells ρ) 0 (cellsL ρ ps) w hblk hfz (by simpa using hw2) hw3
    rw [Nat.add_zero, ← hw1] at hst
    refine .inr (.inl ⟨_, _, ?_, Step.write (el0 := el0) (fz := fz) hr hk hok' (by rw [hw1, splice_length _ _ _ hw2]; exact hfz), h⟩)
    have hsz : ¬ ((u.cells ρ).toArray.size ≠ ti.sz) := by simp [hlen]
    simp only [execOp, Instr.storeAt, h2, h3, SV.den, Sem.run_bind, run_sureAddr, Result.andThen_ok, storeVar, run_sizeOf' hT, cells_den]
    rw [if_neg hsz]
    rw [hst]; rfl
  · exact h.elim

theorem anchor_convert (hΓ : CtxOK P Γ) (hr : HpRel ρ hp w) (ht : TmRel Γ.nt ρ hp.length tm a) (s d : TypeId) (x : Operand) {put : SV → List Blk → Prop} {skip : List Blk → Prop}
    (h : anchorK Γ (.convert s d x) tm hp put skip) : AnchorOut P ⟨dst, .convert s d x, type, pos, after, guard⟩ a ρ hp w put skip := by
  unfold anchorK at h
  dsimp only at h
  have hh := evK_e ht h; clear h; obtain ⟨v, v1, v2, h⟩ := hh
  refine .mem (s := convert s d (a.eval x)) rfl ?_
  rw [v2]
  exact convK_e hΓ hr h

theorem anchor_call (hΓ : CtxOK P Γ) (hr : HpRel ρ hp w) (ht : TmRel Γ.nt ρ hp.length tm a) (c : Call) {put : SV → List Blk → Prop} {skip : List Blk → Prop}
    (h : anchorK Γ (.call c) tm hp put skip) : AnchorOut P ⟨dst, .call c, type, pos, after, guard⟩ a ρ hp w put skip := by
  obtain ⟨callee, args, argTypes⟩ := c
  unfold anchorK at h
  dsimp only at h
  have hh := evsK_e ht h; clear h; obtain ⟨vs, va, ve, h⟩ := hh
  have hargs := map_arg ve
  have blt : ∀ (b : Builtin) (s : Sem Value), callee = .builtin b → (∀ cs, builtin b argTypes type cs (denL ρ vs).toArray = (do pure (.value (← s)) : Sem Next)) →
      execOp a.eval ⟨dst, .call ⟨callee, args, argTypes⟩, type, pos, after, guard⟩ = (do pure (.value (← s)) : Sem Next) := by
    intro b s hb hs
    subst hb
    simp only [execOp, resolve, hargs]
    exact hs _
  split at h
  · rename_i f
    have hh := evK_e ht h; clear h; obtain ⟨fv, f1, f2, h⟩ := hh
    split at h
    · rename_i fi caps
      have hh := lookK_e h; clear h; obtain ⟨S, hS, h⟩ := hh
      have hh := appK_e h; clear h; have h := hh; clear hh
      have hout := callK_e hr (hΓ.fn fi S hS) (okL_append.2 ⟨va, f1⟩) h
      have hexec : execOp a.eval ⟨dst, .call ⟨.value f, args, argTypes⟩, type, pos, after, guard⟩ = callFunc fi (denL ρ (vs ++ caps)).toArray := by
        simp only [execOp, resolve, f2, SV.den, Deferred.ofValue, hargs, denL_append]
        show invoke (.fn (.func fi) (denL ρ caps).toArray) _ = _
        simp [invoke]
      rcases hout with ⟨r, ρ', hp', w', h1, h2, h3, h4⟩ | ⟨h1, h2⟩
      · exact .inl ⟨r, ρ', hp', w', by rw [hexec, h1], h3, h4, h2⟩
      · refine .inr (.inr ⟨fi, _, by rw [hexec, h1], h2.mono fun e w' ⟨r, ρ', hp', he, g1, g2, g3⟩ => ⟨r, ρ', hp', he, g2, g3, g1⟩⟩)
    · exact h.elim
  · split at h
    · rename_i d s
      split at h
      · rename_i t ats hat
        have hat0 : argTypes = (t :: ats).toArray := by apply Array.ext'; rw [hat]
        refine .mem (blt .copy (Builtin.copy_ argTypes type _) rfl (fun _ => rfl)) ?_
        rw [hat0]
        exact copyK_e hΓ hr va.1 h
      · exact h.elim
    · exact h.elim
  · split at h
    · rename_i s x
      split at h
      · rename_i t u hat
        have hat0 : argTypes = #[t, u] := by apply Array.ext'; rw [hat]
        refine .mem (blt .append (Builtin.append_ argTypes type _) rfl (fun _ => rfl)) ?_
        rw [hat0]
        exact appendK_e hΓ hr h
      · exact h.elim
    · exact h.elim
  · exact h.elim

/-! ### all together -/
theorem pureK_e (hΓ : CtxOK P Γ) (ht : TmRel Γ.nt ρ nb tm a) (o : Oper) {K : SV → Prop} (h : pureK Γ o.op tm K) : PureOut P nb o a ρ K := by
  obtain ⟨dst, op, type, pos, after, guard⟩ := o
  cases op
  case move x => exact pure_move dst type pos after guard hΓ ht x h
  case assign x => exact pure_assign dst type pos after guard hΓ ht x h
  case pick c x y => exact pure_pick dst type pos after guard hΓ ht c x y h
  case build t ps => exact pure_build dst type pos after guard hΓ ht t ps h
  case nilCheck x => exact pure_nilCheck dst type pos after guard hΓ ht x h
  case binOp op t x y t' => exact pure_binOp dst type pos after guard hΓ ht op t x y t' h
  case unOp op t x => exact pure_unOp dst type pos after guard hΓ ht op t x h
  case slice t x lo hi mx => exact pure_slice dst type pos after guard hΓ ht t x lo hi mx h
  case field s x f => exact pure_field dst type pos after guard hΓ ht s x f h
  case indexAddr t x i => exact pure_indexAddr dst type pos after guard hΓ ht t x i h
  case index t x i => exact pure_index dst type pos after guard hΓ ht t x i h
  case extract x i => exact pure_extract dst type pos after guard ht x i h
  case convert s d x => exact pure_convert dst type pos after guard hΓ ht s d x h
  case call c => exact pure_call dst type pos after guard hΓ ht c h
  all_goals exact h.elim

theorem readK_e (hΓ : CtxOK P Γ) (hr : HpRel ρ hp w) (ht : TmRel Γ.nt ρ hp.length tm a) (o : Oper) {K : SV → Prop} (h : readK Γ o.op tm hp K) : ReadOut P Γ.E hp.length o a ρ w K := by
  obtain ⟨dst, op, type, pos, after, guard⟩ := o
  cases op
  case load t x => exact read_load dst type pos after guard hΓ hr ht t x h
  case fieldAddr s x f => exact read_fieldAddr dst type pos after guard hΓ hr ht s x f h
  case convert s d x => exact read_convert dst type pos after guard hΓ hr ht s d x h
  all_goals exact h.elim

theorem makerK_e (hΓ : CtxOK P Γ) (ht : TmRel Γ.nt ρ nb tm a) (o : Oper) {m : Nat} {K : SV → Blk → Prop} (h : makerK Γ o.op tm m K) : MakeOut P nb m o a ρ K := by
  obtain ⟨dst, op, type, pos, after, guard⟩ := o
  cases op
  case alloc t => exact make_alloc dst type pos after guard hΓ t h
  case box t x => exact make_box dst type pos after guard ht t x h
  case makeSlice t x y => exact make_makeSlice dst type pos after guard hΓ ht t x y h
  case buildSlice t n qs => exact make_buildSlice dst type pos after guard hΓ ht t n qs h
  all_goals exact h.elim

theorem anchorK_e (hΓ : CtxOK P Γ) (hr : HpRel ρ hp w) (ht : TmRel Γ.nt ρ hp.length tm a) (o : Oper) {put : SV → List Blk → Prop} {skip : List Blk → Prop} (h : anchorK Γ o.op tm hp put skip) :
    AnchorOut P o a ρ hp w put skip := by
  obtain ⟨dst, op, type, pos, after, guard⟩ := o
  cases op
  case store t x y => exact anchor_store dst type pos after guard hΓ hr ht t x y h
  case convert s d x => exact anchor_convert dst type pos after guard hΓ hr ht s d x h
  case call c => exact anchor_call dst type pos after guard hΓ hr ht c h
  all_goals exact h.elim

end
end Go.Sym
