/-
  The symbolic engine, part 16: what reckons, reads or makes has one result (operations). No program in sight; no condition beyond each lemma's own.
-/
import Derived.Test.YtofhjelmgekofaaSymR
set_option linter.unusedSimpArgs false
set_option linter.unusedVariables false
namespace Go.Sym

section
variable {β : Type} {Γ : Ctx}
theorem partsK_r {hp : List Blk} {n : Nat} {G : TypeId → List SV → (β → Prop) → Prop} (h : ∀ a b, Ret (G a b)) : Ret (fun k => partsK hp n fun a b => G a b k) := by
  refine nthK_r (G := fun (b : Blk) k => match (generalizing := false) b with | .mk el ps => G el ps k | .dead => False) fun b => ?_
  cases b
  · exact h _ _
  · exact ret_false
theorem rowK_r {hp : List Blk} {n j b : Nat} {G : SV → (β → Prop) → Prop} (h : ∀ v, Ret (G v)) : Ret (fun k => rowK hp n j b fun v => G v k) := by
  refine partsK_r fun _ ps => splitK_r (G := fun _ r k => match (generalizing := false) r with | p :: _ => G p k | [] => False) fun _ r => ?_
  cases r
  · exact ret_false
  · exact h _
theorem bytesK_r {hp : List Blk} {v : SV} {G : List UInt8 → (β → Prop) → Prop} (h : ∀ v, Ret (G v)) : Ret (fun k => bytesK hp v fun v => G v k) := by
  cases v
  case sl k j b o n c =>
    refine rowK_r (G := fun p k => match (generalizing := false) p with
      | .arr8 _ l => Pre (off o + n ≤ l.length) (G ((l.drop (off o)).take n) k)
      | _ => False) fun p => ?_
    cases p <;> first | exact ret_false | exact ret_pre (h _)
  all_goals first | exact ret_false | exact h _
theorem fieldK_r {fi : TyI} {ps : List SV} {c : Nat} {G : SV → (β → Prop) → Prop} (h : ∀ v, Ret (G v)) : Ret (fun k => fieldK fi ps c fun v => G v k) := by
  cases c with
  | zero => dsimp only [fieldK]; exact loadK_r h
  | succ c => dsimp only [fieldK]; exact walkK_r fun j b o => loadK_r h
theorem eq_r (f : Nat) : (∀ (t : TypeId) (x y : SV) (G : Bool → (β → Prop) → Prop), (∀ v, Ret (G v)) → Ret (fun k => eqK Γ f t x y fun v => G v k)) ∧
    (∀ (fs : List (Nat × TypeId)) (xs ys : List SV) (G : Bool → (β → Prop) → Prop), (∀ v, Ret (G v)) → Ret (fun k => eqLK Γ f fs xs ys fun v => G v k)) := by
  induction f with
  | zero => exact ⟨fun t x y G h => by simp only [eqK]; exact ret_false, fun fs xs ys G h => by simp only [eqLK]; exact ret_false⟩
  | succ f ih =>
    refine ⟨fun t x y G h => ?_, fun fs xs ys G h => ?_⟩
    · intro k hk
      simp only [eqK] at hk ⊢
      revert k
      refine lookK_r (G := fun ti k => _) fun ti => ?_
      obtain ⟨d, sz, bytes, zero, eqOk⟩ := ti
      dsimp only
      cases d
      case int kd => cases kd <;> first | exact ret_false | (cases x <;> first | exact ret_false | (cases y <;> first | exact ret_false | exact h _))
      case arr n e =>
        refine lookK_r (G := fun ei k => _) fun ei => ?_
        obtain ⟨d, sz, bytes, zero, eqOk⟩ := ei
        dsimp only
        cases d
        case int kd =>
          cases kd <;> first
            | exact ret_false
            | (cases x <;> first
                | exact ret_false
                | (cases y <;> first
                    | exact ret_false
                    | (rename_i m a m' b
                       dsimp only
                       generalize Nat.beq m n = t
                       generalize Nat.beq m' n = t'
                       cases t
                       · exact ret_false
                       · cases t'
                         · exact ret_false
                         · exact h _)))
        all_goals exact ret_false
      case struct fs =>
        cases eqOk
        · exact ret_false
        · dsimp only
          generalize x.many = t
          generalize y.many = t'
          cases t
          · exact ret_false
          · cases t'
            · exact ret_false
            · exact flatK_r fun xs => flatK_r fun ys => ih.2 _ _ _ _ h
      all_goals first | exact ret_false | (cases x <;> first | exact ret_false | (cases y <;> first | exact ret_false | exact h _))
    · cases fs with
      | nil => simp only [eqLK]; exact h _
      | cons p fs =>
        obtain ⟨c, t⟩ := p
        simp only [eqLK]
        exact lookK_r fun ti => fieldK_r fun a => fieldK_r fun b => ih.1 _ _ _ (fun r k => eqLK Γ f fs xs ys fun r' => G (r && r') k) fun r => ih.2 _ _ _ (fun r' k => G (r && r') k) fun r' => h _
theorem eqK_r {f : Nat} {t : TypeId} {x y : SV} {G : Bool → (β → Prop) → Prop} (h : ∀ v, Ret (G v)) : Ret (fun k => eqK Γ f t x y fun v => G v k) := (eq_r f).1 t x y G h
theorem binTK_r {op : BinOp} {t : TypeId} {x y : SV} {G : SV → (β → Prop) → Prop} (h : ∀ v, Ret (G v)) : Ret (fun k => binTK Γ op t x y fun v => G v k) := by
  have go : ∀ (g : Bool → SV), Ret (fun k => match (generalizing := false) x.many with
      | true => lookK Γ.ty t fun ti => match (generalizing := false) ti.eqOk with | true => eqK Γ 60 t x y (fun r => G (g r) k) | false => False
      | false => eqK Γ 60 t x y (fun r => G (g r) k)) := fun g => by
    generalize x.many = m
    cases m
    · exact eqK_r (G := fun r => G (g r)) fun r => h _
    · refine lookK_r (G := fun (ti : TyI) k => match (generalizing := false) ti.eqOk with | true => eqK Γ 60 t x y (fun r => G (g r) k) | false => False) fun ti => ?_
      generalize ti.eqOk = q
      cases q
      · exact ret_false
      · exact eqK_r (G := fun r => G (g r)) fun r => h _
  have big : Ret (fun k => match (generalizing := false) op with
    | .eql => match (generalizing := false) x.many with
      | true => lookK Γ.ty t fun ti => match (generalizing := false) ti.eqOk with | true => eqK Γ 60 t x y (fun r => G (.bool r) k) | false => False
      | false => eqK Γ 60 t x y (fun r => G (.bool r) k)
    | .neq => match (generalizing := false) x.many with
      | true => lookK Γ.ty t fun ti => match (generalizing := false) ti.eqOk with | true => eqK Γ 60 t x y (fun r => G (.bool (!r)) k) | false => False
      | false => eqK Γ 60 t x y (fun r => G (.bool (!r)) k)
    | _ => False) := by
    cases op <;> first | exact ret_false | exact go (fun r => .bool r) | exact go (fun r => .bool (!r))
  cases x <;> first | exact binK_r h | exact big

theorem slStrK_r {l : List UInt8} {lo hi : Option Nat} {G : SV → (β → Prop) → Prop} (h : ∀ v, Ret (G v)) : Ret (fun k => slStrK l lo hi fun v => G v k) := by
  cases lo <;> cases hi <;> first | exact h _ | exact ret_pre (h _)
theorem slMemK_r {k j b : Nat} {o : List (Nat × Nat)} {n c es : Nat} {lo hi mx : Option Nat} {G : SV → (β → Prop) → Prop} (h : ∀ v, Ret (G v)) : Ret (fun K => slMemK k j b o n c es lo hi mx fun v => G v K) := by
  cases lo <;> cases hi <;> cases mx <;> first | exact ret_false | exact h _ | exact ret_pre (h _) | exact ret_pre (ret_pre (h _))
theorem sliceK_r {t : TypeId} {x : SV} {lo hi mx : Option Nat} {G : SV → (β → Prop) → Prop} (h : ∀ v, Ret (G v)) : Ret (fun K => sliceK Γ t x lo hi mx fun v => G v K) := by
  cases x
  case str l =>
    refine lookK_r (G := fun ti K => _) fun ti => ?_
    obtain ⟨d, sz, bytes, zero, eqOk⟩ := ti
    cases d <;> first | exact ret_false | (cases mx <;> first | exact ret_false | exact slStrK_r h)
  case nilsl =>
    refine lookK_r (G := fun ti K => _) fun ti => ?_
    obtain ⟨d, sz, bytes, zero, eqOk⟩ := ti
    cases d <;> first | exact ret_false | (refine lookK_r (G := fun ti K => _) fun ti => ?_; cases hi <;> cases mx <;> first | exact ret_false | exact ret_pre (h _))
  case sl k j b o n c =>
    refine lookK_r (G := fun ti K => _) fun ti => ?_
    obtain ⟨d, sz, bytes, zero, eqOk⟩ := ti
    cases d <;> first | exact ret_false | exact lookK_r fun ei => slMemK_r h
  case ptr k j b o =>
    refine lookK_r (G := fun ti K => _) fun ti => ?_
    obtain ⟨d, sz, bytes, zero, eqOk⟩ := ti
    cases d <;> first | exact ret_false | exact lookK_r fun ei => slMemK_r h
  all_goals exact ret_false

theorem repK_r {z : SV} {n : Nat} {G : List SV → (β → Prop) → Prop} (h : ∀ v, Ret (G v)) : Ret (fun K => repK z n fun v => G v K) := by
  induction n generalizing G with
  | zero => exact h _
  | succ n ih => exact ih (G := fun l => G (z :: l)) fun l => h _
theorem madeK_r {z : SV} {n : Nat} {G : List SV → (β → Prop) → Prop} (h : ∀ v, Ret (G v)) : Ret (fun K => madeK z n fun v => G v K) := by
  cases z
  case arr8 m l => cases l <;> first | exact ret_false | exact ret_pre (h _)
  case agg ps =>
    refine toAtsK_r (G := fun as K => match (generalizing := false) as with | [] => False | a :: r => G [.tab n (r.length + 1) fun _ => a :: r] K) fun as => ?_
    cases as
    · exact ret_false
    · exact h _
  all_goals first | exact ret_false | exact h _ | exact repK_r h
theorem putElemK_r {ei : TyI} {ps : List SV} {i : Nat} {v : SV} {G : List SV → (β → Prop) → Prop} (h : ∀ v, Ret (G v)) : Ret (fun K => putElemK ei ps i v fun v => G v K) := by
  have w : Ret (fun K => walkK ps 0 0 (i * ei.sz) fun j b o => storeK ei ps j b o v fun v => G v K) := walkK_r fun j b o => storeK_r h
  match ps, w with
  | [], w => exact w
  | [p], w =>
    dsimp only [putElemK]
    generalize p.isRow = t
    cases t
    · exact w
    · exact storeK_r h
  | p :: q :: r, w => exact w
theorem putElemsK_r {ei : TyI} {ps : List SV} {g : List (Nat × SV)} {G : List SV → (β → Prop) → Prop} (h : ∀ v, Ret (G v)) : Ret (fun K => putElemsK ei ps g fun v => G v K) := by
  induction g generalizing ps with
  | nil => exact h _
  | cons p r ih => obtain ⟨i, v⟩ := p; exact putElemK_r fun ps' => ih
theorem putFieldsK_r {fs : List (Nat × TypeId)} {ps : List SV} {g : List (Nat × SV)} {G : List SV → (β → Prop) → Prop} (h : ∀ v, Ret (G v)) : Ret (fun K => putFieldsK Γ fs ps g fun v => G v K) := by
  induction g generalizing ps with
  | nil => exact h _
  | cons p r ih => obtain ⟨i, v⟩ := p; exact nthK_r fun ft => lookK_r fun fi => walkK_r fun j b o => storeK_r fun ps' => ih
theorem knownK_r {fs : List (Nat × TypeId)} {F : (β → Prop) → Prop} (h : Ret F) : Ret (fun K => knownK Γ fs (F K)) := by
  induction fs with
  | nil => exact h
  | cons p r ih => obtain ⟨i, v⟩ := p; exact lookK_r fun _ => ih
theorem buildK_r {t : TypeId} {g : List (Nat × SV)} {G : SV → (β → Prop) → Prop} (h : ∀ v, Ret (G v)) : Ret (fun K => buildK Γ t g fun v => G v K) := by
  refine lookK_r (G := fun ti K => _) fun ti => ?_
  obtain ⟨d, sz, bytes, zero, eqOk⟩ := ti
  dsimp only
  generalize zero.many = m
  cases m
  · exact ret_false
  · refine flatK_r (G := fun zs K => _) fun zs => ?_
    cases d
    case struct fs => exact knownK_r (putFieldsK_r (G := fun ps => G (.agg ps)) fun ps => h _)
    case arr n e => exact lookK_r fun ei => putElemsK_r fun ps => packK_r h
    all_goals exact ret_false

/-! ### operations -/
theorem pureK_r (op : Op) (tm : List (Nat × SV)) : Ret (fun k => pureK Γ op tm k) := by
  have hk : ∀ v : SV, Ret (fun k : SV → Prop => k v) := fun v => ret_k v
  cases op
  case move x => exact evK_r (G := fun v k => k v) hk
  case assign x => exact evK_r (G := fun v k => k v) hk
  case pick c x y =>
    refine evK_r (G := fun cv K => _) fun cv => evK_r (G := fun av K => _) fun av => evK_r (G := fun bv K => _) fun bv => ?_
    cases cv <;> first | exact ret_false | exact ret_cond (hk _) (hk _)
  case build t ps => exact partsVK_r fun g => buildK_r hk
  case nilCheck x =>
    refine evK_r (G := fun v K => _) fun v => ?_
    cases v <;> first | exact ret_false | exact hk _
  case binOp op t x y t' => exact evK_r fun a => evK_r fun b => binTK_r hk
  case unOp op t x => exact evK_r fun a => unK_r hk
  case slice t x lo hi mx => exact evK_r fun v => optIdxK_r fun lo => optIdxK_r fun hi => optIdxK_r fun mx => sliceK_r hk
  case field s x f =>
    refine lookK_r (G := fun ti K => _) fun ti => ?_
    obtain ⟨d, sz, bytes, zero, eqOk⟩ := ti
    cases d
    case struct fs =>
      refine nthK_r (G := fun ft K => _) fun ft => lookK_r (G := fun fi K => _) fun fi => evK_r (G := fun v K => _) fun v => ?_
      try dsimp only
      generalize v.many = m
      cases m
      · exact ret_false
      · exact flatK_r fun ps => fieldK_r hk
    all_goals exact ret_false
  case indexAddr t x i =>
    refine lookK_r (G := fun ti K => _) fun ti => evK_r (G := fun v K => _) fun v => evK_r (G := fun iv K => _) fun iv => idxK_r (G := fun ix K => _) fun ix => ?_
    obtain ⟨d, sz, bytes, zero, eqOk⟩ := ti
    cases d
    case arr n e =>
      refine lookK_r (G := fun ei K => _) fun ei => ?_
      cases v <;> first | exact ret_false | exact ret_pre (hk _)
    case sl e =>
      refine lookK_r (G := fun ei K => _) fun ei => ?_
      cases v <;> first | exact ret_false | exact ret_pre (hk _)
    all_goals exact ret_false
  case index t x i =>
    refine lookK_r (G := fun ti K => _) fun ti => evK_r (G := fun v K => _) fun v => evK_r (G := fun iv K => _) fun iv => idxK_r (G := fun ix K => _) fun ix => ?_
    obtain ⟨d, sz, bytes, zero, eqOk⟩ := ti
    cases v
    case str l => cases d <;> first | exact ret_false | exact ret_pre (hk _)
    all_goals (cases d <;> first | exact ret_false | exact lookK_r fun ei => ret_false | exact lookK_r fun ei => ret_pre (loadK_r hk))
  case extract x i =>
    refine evK_r (G := fun v K => _) fun v => ?_
    cases v <;> first | exact ret_false | exact nthK_r hk
  case convert s d x =>
    refine lookK_r (G := fun si K => _) fun si => lookK_r (G := fun di K => _) fun di => ?_
    obtain ⟨d, sz, bytes, zero, eqOk⟩ := di
    cases d <;> first | exact ret_false | exact evK_r fun v => convIntK_r hk
  case call c =>
    obtain ⟨callee, args, argTypes⟩ := c
    refine evsK_r (G := fun vs K => _) fun vs => ?_
    dsimp only
    cases callee
    case builtin b =>
      cases b
      case len =>
        dsimp only
        generalize argTypes.toList = ats
        match ats with
        | [] => exact ret_false
        | [t] =>
          refine lookK_r (G := fun ti K => _) fun ti => ?_
          obtain ⟨d, sz, bytes, zero, eqOk⟩ := ti
          dsimp only
          cases d
          case str =>
            match vs with
            | [] => exact ret_false
            | [v] => cases v <;> first | exact ret_false | exact hk _
            | v :: u :: r => cases v <;> exact ret_false
          case sl e =>
            match vs with
            | [] => exact ret_false
            | [v] => cases v <;> first | exact ret_false | exact hk _
            | v :: u :: r => cases v <;> exact ret_false
          case arr n e =>
            match vs with
            | [] => exact ret_false
            | [v] => exact hk _
            | v :: u :: r => exact ret_false
          all_goals exact ret_false
        | _ :: _ :: _ => exact ret_false
      case min =>
        match vs with
        | [] => exact ret_false
        | [v] => cases v <;> exact ret_false
        | [v, u] => cases v <;> first | exact ret_false | (cases u <;> first | exact ret_false | exact hk _)
        | [v, u, x] => cases v <;> first | exact ret_false | (cases u <;> first | exact ret_false | (cases x <;> first | exact ret_false | exact hk _))
        | v :: u :: x :: y :: r => cases v <;> first | exact ret_false | (cases u <;> first | exact ret_false | (cases x <;> exact ret_false))
      case max =>
        match vs with
        | [] => exact ret_false
        | [v] => cases v <;> exact ret_false
        | [v, u] => cases v <;> first | exact ret_false | (cases u <;> first | exact ret_false | exact hk _)
        | [v, u, x] => cases v <;> first | exact ret_false | (cases u <;> first | exact ret_false | (cases x <;> first | exact ret_false | exact hk _))
        | v :: u :: x :: y :: r => cases v <;> first | exact ret_false | (cases u <;> first | exact ret_false | (cases x <;> exact ret_false))
      all_goals exact ret_false
    all_goals exact ret_false
  all_goals exact ret_false

theorem readK_r (op : Op) (tm : List (Nat × SV)) (hp : List Blk) : Ret (fun k => readK Γ op tm hp k) := by
  have hk : ∀ v : SV, Ret (fun k : SV → Prop => k v) := fun v => ret_k v
  cases op
  case load t x =>
    refine lookK_r (G := fun ti K => _) fun ti => evK_r (G := fun v K => _) fun v => ?_
    cases v <;> first | exact ret_false | exact partsK_r fun _ ps => loadK_r hk | exact ret_ext
  case fieldAddr s x f =>
    refine lookK_r (G := fun ti K => _) fun ti => ?_
    obtain ⟨d, sz, bytes, zero, eqOk⟩ := ti
    cases d
    case struct fs =>
      refine nthK_r (G := fun ft K => _) fun ft => lookK_r (G := fun fi K => _) fun fi => ?_
      obtain ⟨d, sz, bytes, zero, eqOk⟩ := fi
      obtain ⟨c, t⟩ := ft
      cases sz
      · exact ret_false
      · refine evK_r (G := fun v K => _) fun v => ?_
        cases v
        case xptr A => exact hk _
        case ptr k j b oo =>
          cases c
          · exact hk _
          · cases oo
            · exact partsK_r fun _ ps => splitK_r fun _ r => walkK_r (G := fun j' b' o' (K : SV → Prop) => K (SV.ptr k j' b' o')) fun _ _ _ => hk _
            · exact hk _
        all_goals exact ret_false
    all_goals exact ret_false
  case convert s d x =>
    refine lookK_r (G := fun si K => _) fun si => lookK_r (G := fun di K => _) fun di => ?_
    obtain ⟨ds, szs, bytess, zeros, eqOks⟩ := si
    obtain ⟨d, sz, bytes, zero, eqOk⟩ := di
    cases d
    case str =>
      refine evK_r (G := fun v K => _) fun v => ?_
      cases v
      case str l => exact hk _
      case nilsl =>
        cases ds
        case sl e =>
          refine lookK_r (G := fun ei K => _) fun ei => ?_
          obtain ⟨d, sz, bytes, zero, eqOk⟩ := ei
          cases d
          case int kd => cases kd <;> first | exact ret_false | exact hk _
          all_goals exact ret_false
        all_goals exact ret_false
      case sl k j b o n c =>
        cases ds
        case sl e =>
          refine lookK_r (G := fun ei K => _) fun ei => ?_
          obtain ⟨d, sz, bytes, zero, eqOk⟩ := ei
          cases d
          case int kd => cases kd <;> first | exact ret_false | exact bytesK_r (G := fun l (K : SV → Prop) => K (SV.str l)) fun l => hk _
          all_goals exact ret_false
        all_goals exact ret_false
      all_goals exact ret_false
    all_goals exact ret_false
  all_goals exact ret_false

theorem makerK_r (op : Op) (tm : List (Nat × SV)) (m : Nat) : Ret (fun k : SV × Blk → Prop => makerK Γ op tm m fun v b => k (v, b)) := by
  have hk : ∀ v b, Ret (fun k : SV × Blk → Prop => k (v, b)) := fun v b => ret_k (v, b)
  cases op
  case alloc t => exact lookK_r fun ti => flatK_r fun ps => hk _ _
  case box t x => exact evK_r fun v => flatK_r fun ps => hk _ _
  case buildSlice t n ps =>
    refine partsVK_r (G := fun g K => _) fun g => lookK_r (G := fun ti K => _) fun ti => ?_
    obtain ⟨d, sz, bytes, zero, eqOk⟩ := ti
    cases d <;> first | exact ret_false | exact lookK_r fun ei => ret_pre (madeK_r fun zs => putElemsK_r fun ps => hk _ _)
  case makeSlice t x y =>
    refine evK_r (G := fun lv K => _) fun lv => evK_r (G := fun cv K => _) fun cv => idxK_r (G := fun l K => _) fun l => idxK_r (G := fun c K => _) fun c => lookK_r (G := fun ti K => _) fun ti => ?_
    obtain ⟨d, sz, bytes, zero, eqOk⟩ := ti
    cases d <;> first | exact ret_false | exact lookK_r fun ei => ret_pre (madeK_r fun zs => hk _ _)
  all_goals exact ret_false
end
end Go.Sym
