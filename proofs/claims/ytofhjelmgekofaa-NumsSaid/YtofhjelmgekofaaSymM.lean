/-
  The symbolic engine, part 13: what reckons, what reads memory, what makes memory: each does what the engine says. No program in sight; no condition beyond each lemma's own.
-/
import Derived.Test.YtofhjelmgekofaaSymL
set_option linter.unusedSimpArgs false
set_option linter.unusedVariables false
namespace Go.Sym

section
variable {P : Program} {Γ : Ctx} {ρ : Nat → Nat} {hp : List Blk} {w : World} {tm : List (Nat × SV)} {a : Act} {nb : Nat}

/-- an operation that yields v, whatever memory holds -/
def PureOut (P : Program) (n : Nat) (o : Oper) (a : Act) (ρ : Nat → Nat) (k : SV → Prop) : Prop :=
  ∃ v, k v ∧ v.ok (· < n) ∧ ∀ w, (execOp a.eval o).run P w = .ok (.value (v.den ρ)) w
/-- an operation that yields v in w -/
def ReadOut (P : Program) (E : World → Prop) (n : Nat) (o : Oper) (a : Act) (ρ : Nat → Nat) (w : World) (k : SV → Prop) : Prop :=
  ∃ v, k v ∧ v.ok (· < n) ∧ (E w → (execOp a.eval o).run P w = .ok (.value (v.den ρ)) w)
/-- an operation that makes the block m and yields what points there -/
def MakeOut (P : Program) (n m : Nat) (o : Oper) (a : Act) (ρ : Nat → Nat) (k : SV → Blk → Prop) : Prop :=
  ∃ v el ps, k v (.mk el ps) ∧ v.ok (· = m) ∧ okL (· < n) ps ∧
    ∀ (ρ1 : Nat → Nat) w, ρ1 m = w.heap.size → (execOp a.eval o).run P w = .ok (.value (v.den ρ1)) (w.alloc (.cells (cellsL ρ ps).toArray el))

theorem PureOut.v {o : Oper} {k : SV → Prop} {v : SV} (hs : ∀ w, (execOp a.eval o).run P w = .ok (.value (v.den ρ)) w) (hv : v.ok (· < nb)) (hk : k v) : PureOut P nb o a ρ k := ⟨v, hk, hv, hs⟩
theorem ReadOut.v {E : World → Prop} {o : Oper} {k : SV → Prop} {v : SV} (hs : (execOp a.eval o).run P w = .ok (.value (v.den ρ)) w) (hv : v.ok (· < nb)) (hk : k v) : ReadOut P E nb o a ρ w k := ⟨v, hk, hv, fun _ => hs⟩

theorem run_sureAddr (A : Addr) (w : World) : (Instr.sureAddr (.pointer (some A))).run P w = .ok A w := rfl

theorem map_arg {xs : Array Operand} {vs : List SV} (h : xs.toList.map a.eval = denL ρ vs) : xs.map a.eval = (denL ρ vs).toArray := by
  apply Array.ext'; simp [h]
theorem denL_get : ∀ {vs : List SV} {i : Nat} {v : SV}, vs[i]? = some v → (denL ρ vs)[i]? = some (v.den ρ)
  | x :: xs, 0, v, h => by simp at h; simp [denL, h]
  | x :: xs, i + 1, v, h => by simp at h; simpa [denL] using denL_get h
theorem okL_get {p : Nat → Prop} : ∀ {vs : List SV} {i : Nat} {v : SV}, okL p vs → vs[i]? = some v → v.ok p
  | x :: xs, 0, v, ho, h => by simp at h; rw [← h]; exact ho.1
  | x :: xs, i + 1, v, ho, h => by simp at h; exact okL_get ho.2 h
theorem denL_append (x y : List SV) : denL ρ (x ++ y) = denL ρ x ++ denL ρ y := by
  induction x with
  | nil => rfl
  | cons v vs ih => simp [denL, ih]

variable (dst : Option Nat) (type : TypeId) (pos : String) (after : Array Edge) (guard : Option (Nat × Bool))

theorem pure_move (hΓ : CtxOK P Γ) (ht : TmRel Γ.nt ρ nb tm a) (x : Operand) {K : SV → Prop} (h : pureK Γ (.move x) tm K) :
    PureOut P nb ⟨dst, .move x, type, pos, after, guard⟩ a ρ K := by
  unfold pureK at h
  dsimp only at h
  have hh := evK_e ht h; clear h; obtain ⟨v, h1, h2, h⟩ := hh
  exact .v (fun w => by simp only [execOp, Sem.run_pure, h2]) h1 h

theorem pure_assign (hΓ : CtxOK P Γ) (ht : TmRel Γ.nt ρ nb tm a) (x : Operand) {K : SV → Prop} (h : pureK Γ (.assign x) tm K) :
    PureOut P nb ⟨dst, .assign x, type, pos, after, guard⟩ a ρ K := by
  unfold pureK at h
  dsimp only at h
  have hh := evK_e ht h; clear h; obtain ⟨v, h1, h2, h⟩ := hh
  exact .v (fun w => by simp only [execOp, Sem.run_pure, h2]) h1 h

theorem pure_pick (hΓ : CtxOK P Γ) (ht : TmRel Γ.nt ρ nb tm a) (c x y : Operand) {K : SV → Prop} (h : pureK Γ (.pick c x y) tm K) :
    PureOut P nb ⟨dst, .pick c x y, type, pos, after, guard⟩ a ρ K := by
  unfold pureK at h
  dsimp only at h
  have hh := evK_e ht h; clear h; obtain ⟨cv, cv0, c2, h⟩ := hh
  have hh := evK_e ht h; clear h; obtain ⟨av, a1, a2, h⟩ := hh
  have hh := evK_e ht h; clear h; obtain ⟨bv, b1, b2, h⟩ := hh
  split at h
  · rename_i t
    have hc : ∀ w, (asBool (a.eval c)).run P w = .ok t w := fun w => by rw [c2]; rfl
    obtain ⟨h1, h2⟩ := cond_e h
    cases t with
    | true => exact .v (v := av) (fun w => by simp only [execOp, Sem.run_bind, hc, Result.andThen_ok, Sem.run_pure, if_true, a2]) a1 (h1 rfl)
    | false => exact .v (v := bv) (fun w => by simp only [execOp, Sem.run_bind, hc, Result.andThen_ok, Sem.run_pure, Bool.false_eq_true, if_false, b2]) b1 (h2 rfl)
  · exact h.elim

theorem pure_build (hΓ : CtxOK P Γ) (ht : TmRel Γ.nt ρ nb tm a) (t : TypeId) (ps : Array (Nat × Operand)) {K : SV → Prop} (h : pureK Γ (.build t ps) tm K) :
    PureOut P nb ⟨dst, .build t ps, type, pos, after, guard⟩ a ρ K := by
  unfold pureK at h
  dsimp only at h
  have hh := partsVK_e ht h; clear h; obtain ⟨given, g1, g2, h⟩ := hh
  have hh := buildK_e (ρ := ρ) hΓ g1 h; clear h; obtain ⟨v, h, hok, hrun⟩ := hh
  have e : (ps.map fun (i, x) => (i, a.eval x)) = (given.map fun g => (g.1, g.2.den ρ)).toArray := by
    apply Array.ext'; simp only [Array.toList_map]; exact g2
  refine .v ?_ hok h
  intro w
  simp only [execOp, Sem.run_bind]
  rw [e, hrun w]; rfl

theorem pure_nilCheck (hΓ : CtxOK P Γ) (ht : TmRel Γ.nt ρ nb tm a) (x : Operand) {K : SV → Prop} (h : pureK Γ (.nilCheck x) tm K) :
    PureOut P nb ⟨dst, .nilCheck x, type, pos, after, guard⟩ a ρ K := by
  unfold pureK at h
  dsimp only at h
  have hh := evK_e ht h; clear h; obtain ⟨v, h1, h2, h⟩ := hh
  split at h
  · exact .v (fun w => by simp only [execOp, h2, SV.den, Sem.run_pure]) h1 h
  · exact .v (fun w => by simp only [execOp, h2, SV.den, Sem.run_pure]) h1 h
  · exact .v (fun w => by simp only [execOp, h2, SV.den, Sem.run_pure]) h1 h
  · exact h.elim

theorem pure_binOp (hΓ : CtxOK P Γ) (ht : TmRel Γ.nt ρ nb tm a) (op : BinOp) (t : TypeId) (x y : Operand) (t' : TypeId) {K : SV → Prop} (h : pureK Γ (.binOp op t x y t') tm K) :
    PureOut P nb ⟨dst, .binOp op t x y t', type, pos, after, guard⟩ a ρ K := by
  unfold pureK at h
  dsimp only at h
  have hh := evK_e ht h; clear h; obtain ⟨v, v1, v2, h⟩ := hh
  have hh := evK_e ht h; clear h; obtain ⟨u, u1, u2, h⟩ := hh
  have hh := binTK_e (ρ := ρ) hΓ v1 u1 h; clear h; obtain ⟨r, h, hok, hrun⟩ := hh
  refine .v ?_ (hok _) h
  intro w
  have := hrun x y w
  simp only [execOp, v2, u2]
  rw [Sem.run_bind, this]; rfl

theorem pure_unOp (hΓ : CtxOK P Γ) (ht : TmRel Γ.nt ρ nb tm a) (op : UnOp) (t : TypeId) (x : Operand) {K : SV → Prop} (h : pureK Γ (.unOp op t x) tm K) :
    PureOut P nb ⟨dst, .unOp op t x, type, pos, after, guard⟩ a ρ K := by
  unfold pureK at h
  dsimp only at h
  have hh := evK_e ht h; clear h; obtain ⟨v, v1, v2, h⟩ := hh
  have hh := unK_e (P := P) (ρ := ρ) h; clear h; obtain ⟨r, h, hok, hrun⟩ := hh
  refine .v ?_ (hok _) h
  intro w
  simp only [execOp, v2, Sem.run_bind, hrun, Result.andThen_ok, Sem.run_pure]

theorem pure_slice (hΓ : CtxOK P Γ) (ht : TmRel Γ.nt ρ nb tm a) (t : TypeId) (x : Operand) (lo hi mx : Option Operand) {K : SV → Prop} (h : pureK Γ (.slice t x lo hi mx) tm K) :
    PureOut P nb ⟨dst, .slice t x lo hi mx, type, pos, after, guard⟩ a ρ K := by
  unfold pureK at h
  dsimp only at h
  have hh := evK_e ht h; clear h; obtain ⟨v, v1, v2, h⟩ := hh
  have hh := optIdxK_e ht h; clear h; obtain ⟨l, h, hl⟩ := hh
  have hh := optIdxK_e ht h; clear h; obtain ⟨hh, h, hhh⟩ := hh
  have hh := optIdxK_e ht h; clear h; obtain ⟨m, h, hm⟩ := hh
  have hh := sliceK_e (ρ := ρ) hΓ hl hhh hm v1 h; clear h; obtain ⟨r, h, hok, hrun⟩ := hh
  refine .v ?_ hok h
  intro w
  simp only [execOp, v2, Sem.run_bind, hrun, Result.andThen_ok, Sem.run_pure]

theorem pure_field (hΓ : CtxOK P Γ) (ht : TmRel Γ.nt ρ nb tm a) (s : TypeId) (x : Operand) (f : Nat) {K : SV → Prop} (h : pureK Γ (.field s x f) tm K) :
    PureOut P nb ⟨dst, .field s x f, type, pos, after, guard⟩ a ρ K := by
  unfold pureK at h
  dsimp only at h
  have hh := lookK_e h; clear h; obtain ⟨si, hsi, h⟩ := hh
  have hS := (hΓ.ty s si hsi).2.2.1
  split at h
  · rename_i fs hd
    rw [hd] at hS
    obtain ⟨flds, hu, hfs, _⟩ := hS
    have hh := nthK_e h; clear h; obtain ⟨ft, hft, h⟩ := hh
    have hh := lookK_e h; clear h; obtain ⟨fi, hfi, h⟩ := hh
    have hF := hΓ.ty _ fi hfi
    have hfld : ∃ fd, flds[f]? = some fd ∧ ft = (fd.offset, fd.type) := by
      rw [← hfs, List.getElem?_map] at hft
      cases hq : flds.toList[f]? with
      | none => rw [hq] at hft; simp at hft
      | some fd => rw [hq] at hft; exact ⟨fd, by simpa using hq, (Option.some.inj hft).symm⟩
    obtain ⟨fd, hfd, rfl⟩ := hfld
    have hh := evK_e ht h; clear h; obtain ⟨v, v1, v2, h⟩ := hh
    split at h
    · rename_i hm
      have hh := flatK_e (p := (· < nb)) ρ h; clear h; obtain ⟨ps, h, hc, _, hok⟩ := hh
      have hh := fieldK_e (ρ := ρ) (hok v1) h; clear h; obtain ⟨r, h, hro, hl⟩ := hh
      refine .v ?_ hro h
      intro w
      rw [hc] at hl
      simp only [execOp, v2, den_many hm, Instr.field, Sem.run_bind, run_underlying hu, Result.andThen_ok, hfd, asAgg, Sem.run_pure, run_part' hF hl]
    · exact h.elim
  · exact h.elim

theorem pure_indexAddr (hΓ : CtxOK P Γ) (ht : TmRel Γ.nt ρ nb tm a) (t : TypeId) (x i : Operand) {K : SV → Prop} (h : pureK Γ (.indexAddr t x i) tm K) :
    PureOut P nb ⟨dst, .indexAddr t x i, type, pos, after, guard⟩ a ρ K := by
  unfold pureK at h
  dsimp only at h
  have hh := lookK_e h; clear h; obtain ⟨ti, hti, h⟩ := hh
  have hT := (hΓ.ty t ti hti).2.2.1
  have hh := evK_e ht h; clear h; obtain ⟨v, v1, v2, h⟩ := hh
  have hh := evK_e ht h; clear h; obtain ⟨iv, iv0, i2, h⟩ := hh
  have hh := idxK_e (ρ := ρ) h; clear h; obtain ⟨ix, h, kd, hix⟩ := hh
  split at h
  · rename_i n e hd
    rw [hd] at hT
    have hh := lookK_e h; clear h; obtain ⟨ei, hei, h⟩ := hh
    have hE := hΓ.ty e ei hei
    split at h
    · rename_i k j b oo
      have hh := pre_e h; clear h; obtain ⟨hb, h⟩ := hh
      refine .v ?_ (v := .ptr k j b (addO oo ix ei.sz)) v1 h
      intro w
      have hc : 0 ≤ (ix : Int) ∧ (ix : Int) < (n : Int) := by omega
      simp only [execOp, v2, i2, hix, SV.den, Instr.indexAt, asIntOf, Sem.run_bind, Sem.run_pure, Result.andThen_ok, run_underlying hT, run_sureAddr]
      rw [if_pos hc]
      simp only [Sem.run_bind, run_sizeOf' hE, Result.andThen_ok, Sem.run_pure, addr_add, off_addO, Int.toNat_natCast, Nat.add_assoc]
    · exact h.elim
  · rename_i e hd
    rw [hd] at hT
    have hh := lookK_e h; clear h; obtain ⟨ei, hei, h⟩ := hh
    have hE := hΓ.ty e ei hei
    split at h
    · rename_i k j b oo n c
      have hh := pre_e h; clear h; obtain ⟨hb, h⟩ := hh
      refine .v ?_ (v := .ptr k j b (addO oo ix ei.sz)) v1 h
      intro w
      have hc : 0 ≤ (ix : Int) ∧ (ix : Int) < (n : Int) := by omega
      simp only [execOp, v2, i2, hix, SV.den, Instr.indexAt, asIntOf, Sem.run_bind, Sem.run_pure, Result.andThen_ok, run_underlying hT]
      rw [if_pos hc]
      simp only [Sem.run_bind, run_sizeOf' hE, Result.andThen_ok, Sem.run_pure, addr_add, off_addO, Int.toNat_natCast, Nat.add_assoc]
    · rename_i A n c
      have hh := pre_e h; clear h; obtain ⟨hb, h⟩ := hh
      obtain ⟨A, rfl⟩ : ∃ A', A = some A' := by
        rcases v1 with v1 | v1
        · cases A with
          | none => cases v1
          | some A => exact ⟨A, rfl⟩
        · omega
      refine .v ?_ (v := .xptr (A.add (ix * ei.sz))) trivial h
      intro w
      have hc : 0 ≤ (ix : Int) ∧ (ix : Int) < (n : Int) := by omega
      simp only [execOp, v2, i2, hix, SV.den, Instr.indexAt, asIntOf, Sem.run_bind, Sem.run_pure, Result.andThen_ok, run_underlying hT]
      rw [if_pos hc]
      simp only [Sem.run_bind, run_sizeOf' hE, Result.andThen_ok, Sem.run_pure, Int.toNat_natCast]
    · exact h.elim
  · exact h.elim

theorem pure_index (hΓ : CtxOK P Γ) (ht : TmRel Γ.nt ρ nb tm a) (t : TypeId) (x i : Operand) {K : SV → Prop} (h : pureK Γ (.index t x i) tm K) :
    PureOut P nb ⟨dst, .index t x i, type, pos, after, guard⟩ a ρ K := by
  unfold pureK at h
  dsimp only at h
  have hh := lookK_e h; clear h; obtain ⟨ti, hti, h⟩ := hh
  have hT := (hΓ.ty t ti hti).2.2.1
  have hh := evK_e ht h; clear h; obtain ⟨v, v1, v2, h⟩ := hh
  have hh := evK_e ht h; clear h; obtain ⟨iv, iv0, i2, h⟩ := hh
  have hh := idxK_e (ρ := ρ) h; clear h; obtain ⟨ix, h, kd, hix⟩ := hh
  split at h
  · rename_i l
    split at h
    · rename_i hd
      rw [hd] at hT
      obtain ⟨hb, h⟩ := pre_e h
      refine .v ?_ (v := .u8 (l.getD ix 0)) trivial h
      intro w
      have hs : ix < (⟨l.toArray⟩ : ByteArray).size := by simpa [ByteArray.size] using hb
      have hget : (⟨l.toArray⟩ : ByteArray)[ix]? = some (l.getD ix 0) := by
        rw [getElem?_pos (⟨l.toArray⟩ : ByteArray) ix hs]
        simp only [ByteArray.getElem_eq_getElem_data, List.getElem_toArray, List.getD_eq_getElem?_getD, List.getElem?_eq_getElem hb, Option.getD_some]
      have h0 : 0 ≤ (ix : Int) := by omega
      simp only [execOp, v2, i2, hix, SV.den, Instr.index, asIntOf, Sem.run_bind, Sem.run_pure, Result.andThen_ok, run_underlying hT, if_pos h0, Int.toNat_natCast, hget]
    · exact h.elim
  · split at h
    · rename_i n e hd
      rw [hd] at hT
      have hh := lookK_e h; clear h; obtain ⟨ei, hei, h⟩ := hh
      have hE := hΓ.ty e ei hei
      split at h
      · rename_i hm
        obtain ⟨hb, h⟩ := pre_e h
        have hh := loadK_e (ρ := ρ) (p := (· < nb)) (ps := [v]) ⟨v1, trivial⟩ h; clear h; obtain ⟨r, h, hro, hl⟩ := hh
        refine .v ?_ hro h
        intro w
        have hc : 0 ≤ (ix : Int) ∧ (ix : Int) < (n : Int) := by omega
        have hcl : cellsL ρ [v] = v.cells ρ := by simp [cellsL]
        rw [hcl] at hl
        have hoff : 0 + off [(ix, ei.sz)] = ix * ei.sz := by simp [off, offE_eq]
        rw [hoff] at hl
        simp only [execOp, v2, i2, hix, den_many hm, Instr.index, asIntOf, Sem.run_bind, Sem.run_pure, Result.andThen_ok, run_underlying hT]
        rw [if_pos hc]
        simp only [Sem.run_bind, run_sizeOf' hE, Result.andThen_ok, Int.toNat_natCast, run_part' hE hl, Sem.run_pure]
      · exact h.elim
    · exact h.elim

theorem pure_extract (ht : TmRel Γ.nt ρ nb tm a) (x : Operand) (i : Nat) {K : SV → Prop} (h : pureK Γ (.extract x i) tm K) :
    PureOut P nb ⟨dst, .extract x i, type, pos, after, guard⟩ a ρ K := by
  unfold pureK at h
  dsimp only at h
  have hh := evK_e ht h; clear h; obtain ⟨v, v1, v2, h⟩ := hh
  split at h
  · rename_i vs
    have hh := nthK_e h; clear h; obtain ⟨u, hu, h⟩ := hh
    refine .v ?_ (okL_get v1 hu) h
    intro w
    have := denL_get (ρ := ρ) hu
    simp only [execOp, v2, SV.den, Instr.extract, List.getElem?_toArray, this, Sem.run_bind, Sem.run_pure, Result.andThen_ok]
  · exact h.elim

theorem read_load (hΓ : CtxOK P Γ) (hr : HpRel ρ hp w) (ht : TmRel Γ.nt ρ hp.length tm a) (t : TypeId) (x : Operand) {K : SV → Prop} (h : readK Γ (.load t x) tm hp K) :
    ReadOut P Γ.E hp.length ⟨dst, .load t x, type, pos, after, guard⟩ a ρ w K := by
  unfold readK at h
  dsimp only at h
  have hh := lookK_e h; clear h; obtain ⟨ti, hti, h⟩ := hh
  have hT := hΓ.ty t ti hti
  have hh := evK_e ht h; clear h; obtain ⟨v, v0, h2, h⟩ := hh
  split at h
  · rename_i k j b oo
    have hh := partsK_e h; clear h; obtain ⟨el, ps, hk, h⟩ := hh
    obtain ⟨hok, _⟩ := hr.mem k el ps hk
    have hh := loadK_e (ρ := ρ) hok h; clear h; obtain ⟨u, h, hu, hl⟩ := hh
    refine .v ?_ hu h
    simp only [execOp, Instr.loadAt, h2, SV.den, Sem.run_bind, run_sureAddr, Result.andThen_ok, run_loadVar' hT (fun i => hr.cell hk i) hl, Sem.run_pure]
  · rename_i A
    obtain ⟨u, hu, hk⟩ := ext_e h
    obtain ⟨h5, h6⟩ := hΓ.ext A t u hu
    refine ⟨u, hk, SV.ok_mono (fun _ hf => hf.elim) u h5, fun hE => ?_⟩
    simp only [execOp, Instr.loadAt, h2, SV.den, Sem.run_bind, run_sureAddr, Result.andThen_ok, h6 ρ w hE, Sem.run_pure]
  · exact h.elim

theorem read_fieldAddr (hΓ : CtxOK P Γ) (hr : HpRel ρ hp w) (ht : TmRel Γ.nt ρ hp.length tm a) (s : TypeId) (x : Operand) (f : Nat) {K : SV → Prop} (h : readK Γ (.fieldAddr s x f) tm hp K) :
    ReadOut P Γ.E hp.length ⟨dst, .fieldAddr s x f, type, pos, after, guard⟩ a ρ w K := by
  unfold readK at h
  dsimp only at h
  have hh := lookK_e h; clear h; obtain ⟨si, hsi, h⟩ := hh
  have hS := (hΓ.ty s si hsi).2.2.1
  split at h
  · rename_i fs hd
    rw [hd] at hS
    obtain ⟨flds, hu, hfs, _⟩ := hS
    have hh := nthK_e h; clear h; obtain ⟨ft, hft, h⟩ := hh
    have hh := lookK_e h; clear h; obtain ⟨fi, hfi, h⟩ := hh
    have hF := hΓ.ty _ fi hfi
    have hfld : ∃ fd, flds[f]? = some fd ∧ ft = (fd.offset, fd.type) := by
      rw [← hfs, List.getElem?_map] at hft
      cases hq : flds.toList[f]? with
      | none => rw [hq] at hft; simp at hft
      | some fd => rw [hq] at hft; exact ⟨fd, by simpa using hq, (Option.some.inj hft).symm⟩
    obtain ⟨fd, hfd, rfl⟩ := hfld
    split at h
    · exact h.elim
    · rename_i m hm
      have hh := evK_e ht h; clear h; obtain ⟨v, v1, v2, h⟩ := hh
      split at h
      · rename_i k j b oo
        have key : ∀ u : SV, u.den ρ = .pointer (some ⟨ρ k, b + off oo + fd.offset, none⟩) → (execOp a.eval ⟨dst, .fieldAddr s x f, type, pos, after, guard⟩).run P w = .ok (.value (u.den ρ)) w := by
          intro u hu'
          have hne : ¬ (fi.sz = 0) := by rw [hm]; omega
          simp only [execOp, v2, SV.den, Instr.fieldAt, Sem.run_bind, run_underlying hu, Result.andThen_ok, hfd, run_sureAddr, fieldPlace, run_sizeOf' hF, if_neg hne, Sem.run_pure, addr_add, hu']
        split at h
        · rename_i h0
          refine .v (key (.ptr k j b oo) ?_) v1 h
          simp only at h0
          simp [SV.den, h0]
        · rename_i c hc
          simp only at hc
          split at h
          · have hh := partsK_e h; clear h; obtain ⟨el, ps, hk, h⟩ := hh
            have hh := splitK_e h; clear h; obtain ⟨_, r, _, _, h⟩ := hh
            have hh := walkK_e h; clear h; obtain ⟨j', b', o', he, h⟩ := hh
            refine .v (key (.ptr k j' b' o') ?_) v1 h
            simp only [SV.den, he, hc, off]
            congr 3
          · refine .v (key (.ptr k j b (addO oo (c + 1) 1)) ?_) v1 h
            simp only [SV.den, off_addO, hc]
            congr 3; omega
      · rename_i A
        have hne : ¬ (fi.sz = 0) := by rw [hm]; omega
        refine .v (v := .xptr (A.add fd.offset)) ?_ trivial h
        simp only [execOp, v2, SV.den, Instr.fieldAt, Sem.run_bind, run_underlying hu, Result.andThen_ok, hfd, run_sureAddr, fieldPlace, run_sizeOf' hF, if_neg hne, Sem.run_pure]
      · exact h.elim
  · exact h.elim

theorem pure_convert (hΓ : CtxOK P Γ) (ht : TmRel Γ.nt ρ nb tm a) (s d : TypeId) (x : Operand) {K : SV → Prop} (h : pureK Γ (.convert s d x) tm K) :
    PureOut P nb ⟨dst, .convert s d x, type, pos, after, guard⟩ a ρ K := by
  unfold pureK at h
  dsimp only at h
  have hh := lookK_e h; clear h; obtain ⟨si, hs, h⟩ := hh
  obtain ⟨ds, hds⟩ := (hΓ.ty s si hs).under
  have hh := lookK_e h; clear h; obtain ⟨di, hd, h⟩ := hh
  have hu := (hΓ.ty d di hd).2.2.1
  split at h
  · rename_i kd hdd
    rw [hdd] at hu
    have hh := evK_e ht h; clear h; obtain ⟨u, u1, u2, h⟩ := hh
    obtain ⟨sk, m, hn, v, hk, hok, hrun⟩ := convIntK_e (P := P) (ρ := ρ) h
    refine .v (v := v) (fun w => ?_) (hok _) hk
    simp only [execOp, Sem.run_bind, u2, hn]
    unfold convert
    simp only [Sem.run_bind, run_underlying hds, run_underlying hu, Result.andThen_ok, hrun, Sem.run_pure]
  · exact h.elim

theorem read_convert (hΓ : CtxOK P Γ) (hr : HpRel ρ hp w) (ht : TmRel Γ.nt ρ hp.length tm a) (s d : TypeId) (x : Operand) {K : SV → Prop} (h : readK Γ (.convert s d x) tm hp K) :
    ReadOut P Γ.E hp.length ⟨dst, .convert s d x, type, pos, after, guard⟩ a ρ w K := by
  unfold readK at h
  dsimp only at h
  have hh := lookK_e h; clear h; obtain ⟨si, hs, h⟩ := hh
  have hS := hΓ.ty s si hs
  obtain ⟨ds, hds⟩ := hS.under
  have hh := lookK_e h; clear h; obtain ⟨di, hd, h⟩ := hh
  have hu := (hΓ.ty d di hd).2.2.1
  split at h
  · rename_i hdd
    rw [hdd] at hu
    have hh := evK_e ht h; clear h; obtain ⟨u, u1, u2, h⟩ := hh
    split at h
    · rename_i l
      refine .v (v := .str l) ?_ trivial h
      simp only [execOp, Sem.run_bind, u2]
      unfold convert
      simp only [Sem.run_bind, run_underlying hds, run_underlying hu, Result.andThen_ok, SV.den]
      cases ds <;> rfl
    · split at h
      · rename_i e he
        have hsu := hS.2.2.1
        rw [he] at hsu
        have hh := lookK_e h; clear h; obtain ⟨ei, hei, h⟩ := hh
        have hE := (hΓ.ty e ei hei).2.2.1
        split at h
        · rename_i h8
          rw [h8] at hE
          refine .v (v := .str []) ?_ trivial h
          simp only [execOp, Sem.run_bind, u2]
          unfold convert
          simp only [SV.den]
          simp only [Sem.run_bind, run_underlying hsu, run_underlying hu, Result.andThen_ok, run_underlying hE]
          rfl
        · exact h.elim
      · exact h.elim
    · split at h
      · rename_i e he
        have hsu := hS.2.2.1
        rw [he] at hsu
        have hh := lookK_e h; clear h; obtain ⟨ei, hei, h⟩ := hh
        have hE := (hΓ.ty e ei hei).2.2.1
        split at h
        · rename_i h8
          rw [h8] at hE
          have hh := bytesK_e (P := P) hr h; clear h; obtain ⟨l, h, _, hl⟩ := hh
          obtain ⟨_, _, h3⟩ := hl w (fun _ => rfl)
          refine .v (v := .str l) ?_ trivial h
          have h3' := h3 (fun s hs => by cases hs)
          simp only [execOp, Sem.run_bind, u2]
          unfold convert
          simp only [SV.den] at h3' ⊢
          simp only [Sem.run_bind, run_underlying hsu, run_underlying hu, Result.andThen_ok, run_underlying hE, h3', Sem.run_pure]
        · exact h.elim
      · exact h.elim
    · exact h.elim
  · exact h.elim

theorem pure_call (hΓ : CtxOK P Γ) (ht : TmRel Γ.nt ρ nb tm a) (c : Call) {K : SV → Prop} (h : pureK Γ (.call c) tm K) :
    PureOut P nb ⟨dst, .call c, type, pos, after, guard⟩ a ρ K := by
  obtain ⟨callee, args, argTypes⟩ := c
  unfold pureK at h
  dsimp only at h
  have hh := evsK_e ht h; clear h; obtain ⟨vs, va, ve, h⟩ := hh
  have hargs := map_arg ve
  have blt : ∀ (b : Builtin) (s : Sem Value) (v : SV), callee = .builtin b → (∀ cs, builtin b argTypes type cs (denL ρ vs).toArray = (do pure (.value (← s)) : Sem Next)) →
      (∀ w, s.run P w = .ok (v.den ρ) w) → v.ok (· < nb) → K v → PureOut P nb ⟨dst, .call ⟨callee, args, argTypes⟩, type, pos, after, guard⟩ a ρ K := by
    intro b s v hb hs hv hok hk
    subst hb
    refine .v (fun w => ?_) hok hk
    have he : execOp a.eval ⟨dst, .call ⟨.builtin b, args, argTypes⟩, type, pos, after, guard⟩ = (do pure (.value (← s)) : Sem Next) := by
      simp only [execOp, resolve, hargs]
      exact hs _
    rw [he]
    simp only [Sem.run_bind, hv, Result.andThen_ok, Sem.run_pure]
  split at h
  · split at h
    · rename_i t hat
      have hat0 : argTypes[0]? = some t := by rw [← Array.getElem?_toList, hat]; rfl
      have hh := lookK_e h; clear h; obtain ⟨ti, hti, h⟩ := hh
      have hT := (hΓ.ty t ti hti).2.2.1
      have fin : ∀ (n : Int), K (.int n) → (∀ w, (Builtin.len_ argTypes type (denL ρ vs).toArray).run P w = .ok (.int .i64 n) w) →
          PureOut P nb ⟨dst, .call ⟨.builtin .len, args, argTypes⟩, type, pos, after, guard⟩ a ρ K := by
        intro n hk hrun
        exact blt .len (Builtin.len_ argTypes type (denL ρ vs).toArray) (.int n) rfl (fun _ => rfl) hrun trivial hk
      split at h
      · rename_i hd
        rw [hd] at hT
        split at h
        · rename_i l
          refine fin _ h (fun w => ?_)
          simp only [Builtin.len_, hat0, denL, SV.den, List.getElem?_toArray, List.getElem?_cons_zero, Sem.run_bind, run_underlying hT, Result.andThen_ok, Sem.run_pure, goInt]
          simp [ByteArray.size]
        · exact h.elim
      · rename_i e hd
        rw [hd] at hT
        split at h
        · refine fin _ h (fun w => ?_)
          simp only [Builtin.len_, hat0, denL, SV.den, List.getElem?_toArray, List.getElem?_cons_zero, Sem.run_bind, run_underlying hT, Result.andThen_ok, Sem.run_pure, goInt]
        · refine fin _ h (fun w => ?_)
          simp only [Builtin.len_, hat0, denL, SV.den, List.getElem?_toArray, List.getElem?_cons_zero, Sem.run_bind, run_underlying hT, Result.andThen_ok, Sem.run_pure, goInt]
          rfl
        · refine fin _ h (fun w => ?_)
          simp only [Builtin.len_, hat0, denL, SV.den, List.getElem?_toArray, List.getElem?_cons_zero, Sem.run_bind, run_underlying hT, Result.andThen_ok, Sem.run_pure, goInt]
        · exact h.elim
      · rename_i n e hd
        rw [hd] at hT
        split at h
        · refine fin _ h (fun w => ?_)
          simp only [Builtin.len_, hat0, denL, List.getElem?_toArray, List.getElem?_cons_zero, Sem.run_bind, run_underlying hT, Result.andThen_ok, Sem.run_pure, goInt]
        · exact h.elim
      · exact h.elim
    · exact h.elim
  · have m2 : ∀ (x y : Int) w, (Builtin.min2 (.int .i64 x) (.int .i64 y)).run P w = .ok (.int .i64 (min x y)) w := fun x y w => by
      simp only [Builtin.min2, Sem.run_pure]
      congr 2
      split <;> omega
    split at h
    · rename_i x y
      refine blt .min (Builtin.min_ argTypes type _) (.int (min x y)) rfl (fun _ => rfl) (fun w => ?_) trivial h
      simp only [Builtin.min_, denL, SV.den, List.foldlM_cons, List.foldlM_nil, Sem.run_bind, m2, Result.andThen_ok, Sem.run_pure]
    · rename_i x y z
      refine blt .min (Builtin.min_ argTypes type _) (.int (min (min x y) z)) rfl (fun _ => rfl) (fun w => ?_) trivial h
      simp only [Builtin.min_, denL, SV.den, List.foldlM_cons, List.foldlM_nil, Sem.run_bind, m2, Result.andThen_ok, Sem.run_pure]
    · exact h.elim
  · have m2 : ∀ (x y : Int) w, (Builtin.max2 (.int .i64 x) (.int .i64 y)).run P w = .ok (.int .i64 (max x y)) w := fun x y w => by
      simp only [Builtin.max2, Sem.run_pure]
      congr 2
      split <;> omega
    split at h
    · rename_i x y
      refine blt .max (Builtin.max_ argTypes type _) (.int (max x y)) rfl (fun _ => rfl) (fun w => ?_) trivial h
      simp only [Builtin.max_, denL, SV.den, List.foldlM_cons, List.foldlM_nil, Sem.run_bind, m2, Result.andThen_ok, Sem.run_pure]
    · rename_i x y z
      refine blt .max (Builtin.max_ argTypes type _) (.int (max (max x y) z)) rfl (fun _ => rfl) (fun w => ?_) trivial h
      simp only [Builtin.max_, denL, SV.den, List.foldlM_cons, List.foldlM_nil, Sem.run_bind, m2, Result.andThen_ok, Sem.run_pure]
    · exact h.elim
  · exact h.elim

/-! ### what makes memory -/
variable {m : Nat}
theorem make_alloc (hΓ : CtxOK P Γ) (t : TypeId) {K : SV → Blk → Prop} (h : makerK Γ (.alloc t) tm m K) :
    MakeOut P nb m ⟨dst, .alloc t, type, pos, after, guard⟩ a ρ K := by
  unfold makerK at h
  dsimp only at h
  have hh := lookK_e h; clear h; obtain ⟨ti, hti, h⟩ := hh
  have hT := hΓ.ty t ti hti
  have hh := flatK_e (p := fun _ => False) ρ h; clear h; obtain ⟨ps, h, hc, _, hok⟩ := hh
  refine ⟨_, _, _, h, rfl, okL_mono (fun _ hf => hf.elim) _ (hok hT.2.1.1), fun ρ1 w hm => ?_⟩
  simp only [execOp, Instr.alloc, Sem.run_bind, run_zeroValue' (ρ := ρ) hT, Result.andThen_ok, newVar, newRow, run_newObj, Sem.run_pure, cells_den, hc, SV.den, hm, off]
  rfl

theorem make_box (ht : TmRel Γ.nt ρ nb tm a) (t : TypeId) (x : Operand) {K : SV → Blk → Prop} (h : makerK Γ (.box t x) tm m K) :
    MakeOut P nb m ⟨dst, .box t x, type, pos, after, guard⟩ a ρ K := by
  unfold makerK at h
  dsimp only at h
  have hh := evK_e ht h; clear h; obtain ⟨v, h1, h2, h⟩ := hh
  have hh := flatK_e (p := (· < nb)) ρ h; clear h; obtain ⟨ps, h, hc, _, hok⟩ := hh
  refine ⟨_, _, _, h, rfl, hok h1, fun ρ1 w hm => ?_⟩
  simp only [execOp, Instr.box, Sem.run_bind, Result.andThen_ok, newVar, newRow, run_newObj, Sem.run_pure, h2, cells_den, hc, SV.den, hm, off]
  rfl

theorem make_makeSlice (hΓ : CtxOK P Γ) (ht : TmRel Γ.nt ρ nb tm a) (t : TypeId) (x y : Operand) {K : SV → Blk → Prop} (h : makerK Γ (.makeSlice t x y) tm m K) :
    MakeOut P nb m ⟨dst, .makeSlice t x y, type, pos, after, guard⟩ a ρ K := by
  unfold makerK at h
  dsimp only at h
  have hh := evK_e ht h; clear h; obtain ⟨nv, nv0, n2, h⟩ := hh
  have hh := evK_e ht h; clear h; obtain ⟨cv, cv0, c2, h⟩ := hh
  have hh := idxK_e (ρ := ρ) h; clear h; obtain ⟨n, h, hn⟩ := hh
  have hh := idxK_e (ρ := ρ) h; clear h; obtain ⟨c, h, hc⟩ := hh
  have hh := lookK_e h; clear h; obtain ⟨ti, hti, h⟩ := hh
  have hu := (hΓ.ty t ti hti).2.2.1
  split at h
  · rename_i e hd
    rw [hd] at hu
    have hh := lookK_e h; clear h; obtain ⟨ei, he, h⟩ := hh
    have hE := hΓ.ty e ei he
    have hh := pre_e h; clear h; obtain ⟨⟨h1, h2, h3⟩, h⟩ := hh
    obtain ⟨ps, h, hok, hcells⟩ := madeK_e (p := (· < nb)) (ρ := ρ) h
    obtain ⟨⟨info, i1, i2, i3, i4⟩, ⟨_, _, hsz⟩, _⟩ := hE
    obtain ⟨kn, hn⟩ := hn
    obtain ⟨kc, hc⟩ := hc
    have hcc : madeCells (ei.zero.den ρ).cells ((c : Int).toNat * info.size) = (cellsL ρ ps).toArray := by
      apply Array.ext'
      rw [← hcells, i2, ← hsz]; simp
    refine ⟨_, _, _, h, by simp [SV.ok], hok, fun ρ1 w hm => ?_⟩
    have hrun := run_make (P := P) w t e info (ei.zero.den ρ) hu i1 (i4 ρ) kn kc n c (by omega) (by omega) (by
      have : (info.bytes : Int) * (c : Int) = ((ei.bytes * c : Nat) : Int) := by rw [i3]; simp
      rw [this]; omega) (by omega)
    rw [hcc] at hrun
    simp only [execOp, Sem.run_bind, n2, c2, hn, hc, hrun, Result.andThen_ok, Sem.run_pure, SV.den, hm, off]
    simp
  · exact h.elim

theorem make_buildSlice (hΓ : CtxOK P Γ) (ht : TmRel Γ.nt ρ nb tm a) (t : TypeId) (n : Nat) (qs : Array (Nat × Operand)) {K : SV → Blk → Prop} (h : makerK Γ (.buildSlice t n qs) tm m K) :
    MakeOut P nb m ⟨dst, .buildSlice t n qs, type, pos, after, guard⟩ a ρ K := by
  unfold makerK at h
  dsimp only at h
  have hh := partsVK_e ht h; clear h; obtain ⟨given, g1, g2, h⟩ := hh
  have e : (qs.map fun (i, x) => (i, a.eval x)) = (given.map fun g => (g.1, g.2.den ρ)).toArray := by
    apply Array.ext'; simp only [Array.toList_map]; exact g2
  have hh := lookK_e h; clear h; obtain ⟨ti, hti, h⟩ := hh
  have hu := (hΓ.ty t ti hti).2.2.1
  split at h
  · rename_i el hd
    rw [hd] at hu
    have hh := lookK_e h; clear h; obtain ⟨ei, he, h⟩ := hh
    have hE := hΓ.ty el ei he
    have hh := pre_e h; clear h; obtain ⟨h1, h⟩ := hh
    have hh := madeK_e (p := (· < nb)) (ρ := ρ) h; clear h; obtain ⟨zs, h, hok, hcells⟩ := hh
    have hh := putElemsK_e (ρ := ρ) hok g1 h; clear h; obtain ⟨ps, h, hok', hfill⟩ := hh
    have hsz := hE.2.1.2.2
    refine ⟨_, _, _, h, by simp [SV.ok], hok', fun ρ1 w hm => ?_⟩
    have hb : (Instr.buildSlice t n (given.map fun g => (g.1, g.2.den ρ)).toArray).run P w = .ok (.slice (some ⟨w.heap.size, 0, none⟩) n n) (w.alloc (.cells (cellsL ρ ps).toArray el)) := by
      unfold Instr.buildSlice
      have hgt : ¬ (n * ei.sz > 2 ^ 24) := by omega
      have hmade : (madeCells (ei.zero.den ρ).cells (n * ei.sz)) = (cellsL ρ zs).toArray := by
        rw [← hsz]; apply Array.ext'; rw [hcells]
      simp only [Sem.run_bind, run_underlying hu, Result.andThen_ok, run_sizeOf' hE, hgt, if_false]
      by_cases h0 : n * ei.sz = 0
      · have hz0 : (cellsL ρ zs).toArray = #[] := by rw [← hmade, h0]; simp [madeCells, Array.range_zero']
        simp only [h0, if_true, Sem.run_bind, Sem.run_pure, Result.andThen_ok]
        have e0 : (Array.map (fun x => (#[] : Array Value)[x % (#[] : Array Value).size]!) (Array.range 0)) = (cellsL ρ zs).toArray := by rw [hz0]; simp
        rw [e0, hfill]
        rfl
      · simp only [if_neg h0, Sem.run_bind, run_zeroValue' (ρ := ρ) hE, Result.andThen_ok, Sem.run_pure]
        have e0 : (Array.map (fun x => (ei.zero.den ρ).cells[x % (ei.zero.den ρ).cells.size]!) (Array.range (n * ei.sz))) = (cellsL ρ zs).toArray := hmade
        rw [e0, hfill]
        rfl
    simp only [execOp, Sem.run_bind]
    rw [e, hb]
    simp only [Result.andThen_ok, Sem.run_pure, SV.den, hm, off]
  · exact h.elim

end
end Go.Sym
