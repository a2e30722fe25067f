/-
  The symbolic engine, part 10: bytes, make, literals, conversions, copy, append. No program in sight; no condition beyond each lemma's own.
-/
import Derived.Test.YtofhjelmgekofaaSymI
import Derived.Laws.MakeOwn
import Derived.Laws.BytesArg
set_option linter.unusedSimpArgs false
set_option linter.unusedVariables false
namespace Go.Sym

section
variable {P : Program} {Γ : Ctx} {p : Nat → Prop} {ρ : Nat → Nat} {hp : List Blk}

theorem partsK_e {k : Nat} {K : TypeId → List SV → Prop} (h : partsK hp k K) : ∃ el ps, hp[k]? = some (.mk el ps) ∧ K el ps := by
  unfold partsK at h
  obtain ⟨b, h1, h⟩ := nthK_e h
  split at h
  · exact ⟨_, _, h1, h⟩
  · exact h.elim
theorem allocK_e {b : Blk} {K : Nat → List Blk → Prop} (h : allocK hp b K) : K hp.length (hp ++ [b]) := by
  unfold allocK at h
  exact snocK_e (lenK_e h)

/-- a row of bytes that a slice is -/
theorem bytesK_e {w : World} (hr : HpRel ρ hp w) {v : SV} {K : List UInt8 → Prop} (h : bytesK hp v K) :
    ∃ l, K l ∧ (v.den ρ).cells.size = 1 ∧ ∀ w' : World, (∀ a, w'.cell? a = w.cell? a) → (Builtin.lenOf (v.den ρ)).run P w' = .ok l.length w' ∧
      (∀ m, m ≤ l.length → (Builtin.firstCells 1 m (v.den ρ)).run P w' = .ok (c8 (l.take m)).toArray w') ∧
      ((∀ s, v ≠ .str s) → (Conv.bytesToString (v.den ρ)).run P w' = .ok (.string ⟨l.toArray⟩) w') := by
  unfold bytesK at h
  split at h
  · rename_i l
    refine ⟨l, h, rfl, fun w' _ => ⟨?_, fun m hm => ?_, fun hn => absurd rfl (hn l)⟩⟩
    · simp [Builtin.lenOf, SV.den, ByteArray.size]
    · simp only [Builtin.firstCells, SV.den, Sem.run_pure, extract_mk]
      congr 1
      apply Array.ext'
      simp [c8]
  · refine ⟨[], h, rfl, fun w' _ => ⟨rfl, fun m hm => ?_, fun _ => rfl⟩⟩
    simp [Builtin.firstCells, SV.den, c8]
  · rename_i k j b o n c
    unfold rowK at h
    obtain ⟨el, ps, hk, h⟩ := partsK_e h
    obtain ⟨a, r, he, hb, h'⟩ := splitK_e h
    clear h
    have h := h'
    clear h'
    split at h
    · rename_i q r'
      split at h
      · rename_i m l
        obtain ⟨h1, h⟩ := pre_e h
        have hcell := fun i => hr.cell hk i
        obtain ⟨hok, _⟩ := hr.mem k el ps hk
        rw [he] at hok hcell
        obtain ⟨hoa, _⟩ := okL_append.1 hok
        have hla : (cellsL ρ a).length = b := by rw [cellsL_length ρ a hoa, hb]
        have hload : ∀ w' : World, (∀ a, w'.cell? a = w.cell? a) → ∀ m', m' ≤ n → (loadCells ⟨ρ k, b + off o, none⟩ m').run P w' = .ok (c8 ((l.drop (off o)).take m')).toArray w' := by
          intro w' hw' m' hm'
          have hlen : (c8 ((l.drop (off o)).take m')).length = m' := by simp [c8]; omega
          have := run_loadCells_part (P := P) (w := w') (b := ρ k) (s := b + off o) (L := cellsL ρ (a ++ SV.arr8 m l :: r')) (M := c8 ((l.drop (off o)).take m'))
            (fun i => by rw [hw', hcell]) (fun i hi => by
              have hi' : i < m' := by omega
              rw [Nat.add_assoc]
              have e : (c8 ((l.drop (off o)).take m'))[i]? = (c8 l)[off o + i]? := by simp [c8, List.getElem?_take, hi', List.getElem?_drop]
              have hx : off o + i < (c8 l).length := by simp [c8]; omega
              rw [e, List.getElem?_eq_getElem hx]
              exact part_at hla (by show (c8 l)[_]? = _; rw [List.getElem?_eq_getElem hx]))
          rw [hlen] at this
          exact this
        refine ⟨_, h, rfl, fun w' hw' => ⟨?_, fun m' hm' => ?_, fun _ => ?_⟩⟩
        · simp only [Builtin.lenOf, SV.den, Sem.run_pure]
          congr 1; simp; omega
        · have hm2 : m' ≤ n := by simp at hm'; omega
          simp only [Builtin.firstCells, SV.den, Nat.mul_one]
          rw [hload w' hw' m' hm2, List.take_take, Nat.min_eq_left hm2]
        · have := run_bytesToString (P := P) w' ⟨ρ k, b + off o, none⟩ n c (((l.drop (off o)).take n).map fun x => (x.toNat : Int)) (by
            rw [hload w' hw' n (Nat.le_refl _)]; congr 1; simp [c8]; rfl)
          simp only [SV.den]
          rw [this, foldl_push_bytes]
          congr 2
          apply ByteArray.ext
          have e : ((fun n : Int => UInt8.ofNat n.toNat) ∘ fun x : UInt8 => (x.toNat : Int)) = id := by funext x; simp
          simp [e]
      · exact h.elim
    · exact h.elim
  · exact h.elim

/-! ### literals -/
theorem foldl_set (l : List Value) : ∀ (o : Nat) (cs : Array Value), o + l.length ≤ cs.size →
    (l.zipIdx.foldl (fun (cs : Array Value) (x : Value × Nat) => cs.setIfInBounds (o + x.2) x.1) cs) = (splice cs.toList o l).toArray := by
  have key : ∀ (l : List Value) (s o : Nat) (cs : Array Value), o + s + l.length ≤ cs.size →
    ((l.zipIdx s).foldl (fun (cs : Array Value) (x : Value × Nat) => cs.setIfInBounds (o + x.2) x.1) cs) = (splice cs.toList (o + s) l).toArray := by
    intro l
    induction l with
    | nil => intro s o cs h; simp [splice]
    | cons v l ih =>
      intro s o cs h
      simp only [List.length_cons] at h
      simp only [List.zipIdx_cons, List.foldl_cons]
      rw [ih (s + 1) o _ (by simp; omega)]
      congr 1
      simp only [Array.toList_setIfInBounds]
      have hi : o + s < cs.toList.length := by simp; omega
      have hi2 : o + s < cs.size := by omega
      simp only [splice]
      have e1 : (cs.toList.set (o + s) v).take (o + (s + 1)) = cs.toList.take (o + s) ++ [v] := by
        rw [show o + (s + 1) = (o + s) + 1 by omega, List.take_add_one, List.take_set, List.set_eq_of_length_le (by simp; omega), List.getElem?_set_self hi]
        rfl
      have e2 : (cs.toList.set (o + s) v).drop (o + (s + 1) + l.length) = cs.toList.drop (o + s + (l.length + 1)) := by
        rw [List.drop_set_of_lt (by omega), show o + (s + 1) + l.length = o + s + (l.length + 1) by omega]
      rw [e1, e2]; simp
  intro o cs h
  have := key l 0 o cs (by omega)
  simpa using this

theorem fill_cons {place : Nat → Option (Nat × Nat)} {L M L' : List Value} {i s sz : Nat} {v : Value} {rest : List (Nat × Value)} (hp : place i = some (s, sz)) (hv : v.cells = M.toArray) (hsz : M.length = sz)
    (hw : Wrote L s M L') : Instr.fill place L.toArray ((i, v) :: rest) = Instr.fill place L'.toArray rest := by
  obtain ⟨h1, h2, _⟩ := hw
  subst h1
  conv => lhs; unfold Instr.fill
  simp only [hp, hv]
  have h3 : (decide (M.toArray.size ≠ sz) || decide (s + M.toArray.size > L.toArray.size)) = false := by simp; omega
  rw [h3]
  have := foldl_set M s L.toArray (by simpa using h2)
  simp only [Bool.false_eq_true, if_false]
  rw [← this]
  congr 1
  simp

theorem putElemK_e {ei : TyI} {ps : List SV} {i : Nat} {v : SV} {k : List SV → Prop} (hps : okL p ps) (hv : v.ok p) (h : putElemK ei ps i v k) :
    ∃ ps', k ps' ∧ okL p ps' ∧ (v.cells ρ).length = ei.sz ∧ Wrote (cellsL ρ ps) (i * ei.sz) (v.cells ρ) (cellsL ρ ps') := by
  have walk : (walkK ps 0 0 (i * ei.sz) fun j b o => storeK ei ps j b o v k) → ∃ ps', k ps' ∧ okL p ps' ∧ (v.cells ρ).length = ei.sz ∧ Wrote (cellsL ρ ps) (i * ei.sz) (v.cells ρ) (cellsL ρ ps') := by
    intro h
    obtain ⟨j, b, o, he, h⟩ := walkK_e h
    obtain ⟨ps', h1, h2, h3, h4⟩ := storeK_e (ρ := ρ) hps hv h
    refine ⟨ps', h1, h2, h3, ?_⟩
    rw [he] at h4; simpa using h4
  unfold putElemK at h
  dsimp only at h
  split at h
  · split at h
    · obtain ⟨ps', h1, h2, h3, h4⟩ := storeK_e (ρ := ρ) hps hv h
      refine ⟨ps', h1, h2, h3, ?_⟩
      simpa [off, offE_eq] using h4
    · exact walk h
  · exact walk h

theorem putElemsK_e {ei : TyI} : ∀ {given : List (Nat × SV)} {ps : List SV} {k : List SV → Prop}, okL p ps → (∀ g ∈ given, g.2.ok p) → putElemsK ei ps given k →
    ∃ ps', k ps' ∧ okL p ps' ∧ Instr.fill (fun i => some (i * ei.sz, ei.sz)) (cellsL ρ ps).toArray (given.map fun g => (g.1, g.2.den ρ)) = some (cellsL ρ ps').toArray
  | [], ps, k, hps, _, h => ⟨ps, h, hps, rfl⟩
  | (i, v) :: r, ps, k, hps, hg, h => by
    obtain ⟨ps1, h1, h2, h3, h4⟩ := putElemK_e (ρ := ρ) hps (hg (i, v) (by simp)) h
    obtain ⟨ps2, g1, g2, g3⟩ := putElemsK_e (given := r) h2 (fun g hgr => hg g (by simp [hgr])) h1
    refine ⟨ps2, g1, g2, ?_⟩
    rw [List.map_cons, fill_cons (M := v.cells ρ) rfl (cells_den ρ v) h3 h4]
    exact g3

theorem putFieldsK_e (hΓ : CtxOK P Γ) {fs : List (Nat × TypeId)} {place : Nat → Option (Nat × Nat)}
    (hplace : ∀ i c t ti, fs[i]? = some (c, t) → look Γ.ty t = some ti → place i = some (c, ti.sz)) : ∀ {given : List (Nat × SV)} {ps : List SV} {k : List SV → Prop}, okL p ps → (∀ g ∈ given, g.2.ok p) → putFieldsK Γ fs ps given k →
    ∃ ps', k ps' ∧ okL p ps' ∧ Instr.fill place (cellsL ρ ps).toArray (given.map fun g => (g.1, g.2.den ρ)) = some (cellsL ρ ps').toArray
  | [], ps, k, hps, _, h => ⟨ps, h, hps, rfl⟩
  | (i, v) :: r, ps, k, hps, hg, h => by
    unfold putFieldsK at h
    obtain ⟨ft, hft, h⟩ := nthK_e h
    obtain ⟨fi, hfi, h⟩ := lookK_e h
    obtain ⟨j, b, o, he, h⟩ := walkK_e h
    obtain ⟨ps1, h1, h2, h3, h4⟩ := storeK_e (ρ := ρ) hps (hg (i, v) (by simp)) h
    obtain ⟨ps2, g1, g2, g3⟩ := putFieldsK_e hΓ hplace (given := r) h2 (fun g hgr => hg g (by simp [hgr])) h1
    refine ⟨ps2, g1, g2, ?_⟩
    rw [he] at h4
    rw [List.map_cons, fill_cons (M := v.cells ρ) (hplace i ft.1 ft.2 fi hft hfi) (cells_den ρ v) h3 (by simpa using h4)]
    exact g3

theorem run_zeroValue' {t : TypeId} {ti : TyI} (ht : TyOK P t ti) (w : World) : (zeroValue t).run P w = .ok (ti.zero.den ρ) w := by
  obtain ⟨⟨info, h1, _, _, h4⟩, _⟩ := ht
  simp only [zeroValue, typeInfo, Sem.run_bind, run_program, Result.andThen_ok, h1, Sem.run_pure, h4 ρ]

def fieldPlaces (flds : List Field) : Sem (List (Nat × Nat)) := List.mapM (m := Sem) (fun (f : Field) => do
  let s ← sizeOf f.type
  pure (f.offset, s)) flds

theorem knownK_e (hΓ : CtxOK P Γ) {K : Prop} : ∀ {flds : List Field} {fs : List (Nat × TypeId)}, (flds.map fun (f : Field) => (f.offset, f.type)) = fs → knownK Γ fs K →
    K ∧ ∃ places : List (Nat × Nat), (∀ w, (fieldPlaces flds).run P w = .ok places w) ∧
      ∀ (i c : Nat) (t : TypeId) (ti : TyI), fs[i]? = some (c, t) → look Γ.ty t = some ti → (places[i]? : Option (Nat × Nat)) = some (c, ti.sz)
  | [], fs, hfs, h => by
    subst hfs
    exact ⟨h, [], fun w => rfl, fun i c t ti hi => by simp at hi⟩
  | f :: flds, fs, hfs, h => by
    subst hfs
    simp only [List.map_cons, knownK] at h
    obtain ⟨ti, ht, h⟩ := lookK_e h
    obtain ⟨hK, places, h1, h2⟩ := knownK_e hΓ (flds := flds) rfl h
    refine ⟨hK, (f.offset, ti.sz) :: places, fun w => ?_, fun i c t ti' hi hti => ?_⟩
    · have h1' := h1 w
      unfold fieldPlaces at h1' ⊢
      rw [List.mapM_cons]
      simp only [Sem.run_bind, run_sizeOf' (hΓ.ty _ ti ht), Result.andThen_ok, Sem.run_pure, h1']
    · cases i with
      | zero =>
        simp at hi
        obtain ⟨rfl, rfl⟩ := hi
        rw [ht] at hti; cases hti; rfl
      | succ i => simpa using h2 i c t ti' (by simpa using hi) hti

theorem buildK_e (hΓ : CtxOK P Γ) {t : TypeId} {given : List (Nat × SV)} {K : SV → Prop} (hg : ∀ g ∈ given, g.2.ok p) (h : buildK Γ t given K) :
    ∃ v : SV, K v ∧ v.ok p ∧ ∀ w, (Instr.build t (given.map fun g => (g.1, g.2.den ρ)).toArray).run P w = .ok (v.den ρ) w := by
  unfold buildK at h
  obtain ⟨ti, ht, h⟩ := lookK_e h
  have hT := hΓ.ty t ti ht
  have hu := hT.2.2.1
  split at h
  · rename_i hm
    obtain ⟨zs, h, hz1, _, hz3⟩ := flatK_e (p := p) ρ h
    have hzok : okL p zs := hz3 (SV.ok_mono (fun _ hf => hf.elim) _ hT.2.1.1)
    have hzc : ∀ w, (zeroValue t).run P w = .ok (.agg (cellsL ρ zs).toArray) w := fun w => by rw [run_zeroValue' (ρ := ρ) hT, den_many hm, hz1]
    split at h
    · rename_i fs hd
      rw [hd] at hu
      obtain ⟨flds, hu, hfs, hn⟩ := hu
      obtain ⟨h, places, hpl, hpi⟩ := knownK_e hΓ hfs h
      obtain ⟨ps', h1, h2, h3⟩ := putFieldsK_e (ρ := ρ) hΓ (place := (places.toArray[·]?)) (fun i c t ti h1 h2 => by simpa using hpi i c t ti h1 h2) hzok hg h
      refine ⟨_, h1, h2, fun w => ?_⟩
      simp only [Instr.build, Sem.run_bind, hzc, Result.andThen_ok, run_underlying hu, Value.cells]
      have hmm : (Array.mapM (m := Sem) (fun (f : Field) => do let s ← sizeOf f.type; pure (f.offset, s)) flds).run P w = .ok places.toArray w := by
        rw [Array.mapM_eq_mapM_toList]
        have := hpl w
        unfold fieldPlaces at this
        simp only [Sem.run_map, this, Result.andThen_ok]
      simp only [Sem.run_bind, hmm, Result.andThen_ok, h3]
      rfl
    · rename_i n e hd
      rw [hd] at hu
      obtain ⟨ei, he, h⟩ := lookK_e h
      have hE := hΓ.ty e ei he
      obtain ⟨ps', h1, h2, h3⟩ := putElemsK_e (ρ := ρ) hzok hg h
      obtain ⟨v, hvm, hvc, hvo, hk⟩ := packK_e (p := p) h1
      refine ⟨v, hk, hvo h2, fun w => ?_⟩
      simp only [Instr.build, Sem.run_bind, hzc, Result.andThen_ok, run_underlying hu, Value.cells, run_sizeOf' hE, h3]
      rw [den_many hvm, hvc]; rfl
    · exact h.elim
  · exact h.elim

/-! ### make -/
theorem repK_e {z : SV} : ∀ {n : Nat} {k : List SV → Prop}, repK z n k → k (List.replicate n z)
  | 0, _, h => h
  | n + 1, k, h => by rw [List.replicate_succ]; exact repK_e (k := fun l => k (z :: l)) h

theorem made_const (Z : Array Value) (m : Nat) (v : Value) (hz : 0 < Z.size) (h : ∀ i, i < Z.size → Z[i]! = v) : (madeCells Z m).toList = List.replicate m v := by
  apply List.ext_getElem?
  intro i
  simp only [madeCells]
  rcases Nat.lt_or_ge i m with hi | hi
  · simp [hi, h (i % Z.size) (Nat.mod_lt _ hz)]
  · simp [List.getElem?_eq_none, hi]

theorem madeK_e {z : SV} {c : Nat} {K : List SV → Prop} (h : madeK z c K) :
    ∃ ps, K ps ∧ okL p ps ∧ (madeCells (z.den ρ).cells (c * z.size)).toList = cellsL ρ ps := by
  have one : ∀ v : Value, madeCells #[v] c = (List.replicate c v).toArray := fun v => by
    apply Array.ext'
    exact made_const #[v] c v (by simp) (fun i hi => by simp at hi; subst hi; rfl)
  have rep : ∀ u : SV, ∀ n, u.scalar = true → cellsL ρ (List.replicate n u) = List.replicate n (u.den ρ) := by
    intro u n hu
    induction n with
    | zero => rfl
    | succ n ih => simp only [List.replicate_succ, cellsL, den_scalar hu, ih]; rfl
  have repok : ∀ u : SV, ∀ n, u.ok p → okL p (List.replicate n u) := by
    intro u n hu
    induction n with
    | zero => trivial
    | succ n ih => exact ⟨hu, ih⟩
  unfold madeK at h
  split at h
  · exact ⟨_, h, ⟨by simp [SV.ok], trivial⟩, by simp [SV.den, Value.cells, SV.size, one, cellsL, SV.cells, c8]⟩
  · exact ⟨_, h, ⟨by simp [SV.ok], trivial⟩, by simp [SV.den, Value.cells, SV.size, one, cellsL, SV.cells, c32]⟩
  · exact ⟨_, h, ⟨by simp [SV.ok], trivial⟩, by simp [SV.den, Value.cells, SV.size, one, cellsL, SV.cells, c64]⟩
  · exact ⟨_, h, ⟨by simp [SV.ok], trivial⟩, by simp [SV.den, Value.cells, SV.size, one, cellsL, SV.cells, ci]⟩
  · exact ⟨_, h, ⟨by simp [SV.ok], trivial⟩, by simp [SV.den, Value.cells, SV.size, one, cellsL, SV.cells, cs]⟩
  · refine ⟨_, h, ⟨by simp [SV.ok], trivial⟩, ?_⟩
    simp only [SV.den, Value.cells, SV.size, one, cellsL, SV.cells, List.append_nil, Nat.mul_one]
    apply List.ext_getElem?
    intro i
    rename_i x
    have hl : (ctab c fun _ => [At.bool x]).length = c * 1 := ctab_length c 1 _ (fun _ _ => rfl)
    rcases Nat.lt_or_ge i c with hi | hi
    · have := ctab_get c 1 (fun _ => [At.bool x]) (fun _ _ => rfl) i 0 hi (by omega)
      simp only [Nat.mul_one, Nat.add_zero] at this
      rw [this]; simp [hi]; rfl
    · rw [List.getElem?_eq_none (by simp; omega), List.getElem?_eq_none (by omega)]
  · rename_i m x l
    obtain ⟨h1, h⟩ := pre_e h
    refine ⟨_, h, ⟨by simp [SV.ok], trivial⟩, ?_⟩
    simp only [SV.den, Value.cells, SV.size, cellsL, SV.cells, List.append_nil, h1]
    rw [made_const _ _ (.int .u8 (x.toNat : Int))]
    · simp [c8]
    · have : (x :: l).length = m := by rw [h1]; simp
      simp [c8] at this ⊢; omega
    · intro i hi
      simp [c8] at hi ⊢
      simp [hi]
  · rename_i ps
    obtain ⟨as, h', hps⟩ := toAtsK_e h
    clear h
    have h := h'
    clear h'
    subst hps
    split at h
    · exact h.elim
    · rename_i a r
      refine ⟨_, h, ⟨fun i _ => by simp, trivial⟩, ?_⟩
      have hsz : ∀ as : List At, sizeL (as.map At.sv) = as.length := fun as => by
        induction as with
        | nil => rfl
        | cons a as ih => simp only [List.map_cons, sizeL, many_size (At.sv_scalar a), ih, List.length_cons]; omega
      simp only [SV.den, Value.cells, SV.size, cellsL, SV.cells, List.append_nil, hsz, cellsL_sv]
      apply List.ext_getElem?
      intro i
      simp only [madeCells]
      by_cases hi : i < c * (r.length + 1)
      · have hp : 0 < r.length + 1 := by omega
        have hq : i / (r.length + 1) < c := Nat.div_lt_of_lt_mul (by rwa [Nat.mul_comm] at hi)
        have hm := Nat.mod_lt i hp
        have e : i = i / (r.length + 1) * (r.length + 1) + i % (r.length + 1) := by rw [Nat.mul_comm]; exact (Nat.div_add_mod _ _).symm
        conv => rhs; rw [e]
        rw [ctab_get c (r.length + 1) _ (fun _ _ => by simp) _ _ hq hm]
        simp [hi]
        have hm' : i % (r.length + 1) < (a.val :: r.map At.val).length := by simpa using hm
        have e2 : a.val :: r.map At.val = (a :: r).map At.val := rfl
        rw [e2, List.getElem?_map]
        have hm2 : i % (r.length + 1) < (a :: r).length := by simpa using hm
        rw [List.getElem?_eq_getElem hm2]; rfl
      · have hl : (ctab c fun _ => a :: r).length = c * (r.length + 1) := ctab_length c _ _ (fun _ _ => by simp)
        have hl2 : ((Array.range (c * (a :: r).length)).map fun x => ((a :: r).map At.val).toArray[x % ((a :: r).map At.val).toArray.size]!).toList.length = c * (r.length + 1) := by simp
        rw [List.getElem?_eq_none (by rw [hl2]; omega), List.getElem?_eq_none (by rw [hl]; omega)]
  · exact ⟨_, repK_e h, repok _ _ trivial, by simp only [SV.den, Value.cells, SV.size, Nat.mul_one, one, rep .nilsl _ rfl]⟩
  · exact ⟨_, repK_e h, repok _ _ trivial, by simp only [SV.den, Value.cells, SV.size, Nat.mul_one, one, rep .nilptr _ rfl]⟩
  · exact ⟨_, repK_e h, repok _ _ trivial, by simp only [SV.den, Value.cells, SV.size, Nat.mul_one, one, rep .nilif _ rfl]⟩
  · exact ⟨_, repK_e h, repok _ _ trivial, by simp only [SV.den, Value.cells, SV.size, Nat.mul_one, one, rep .nilfn _ rfl]⟩
  · exact h.elim

end
end Go.Sym
