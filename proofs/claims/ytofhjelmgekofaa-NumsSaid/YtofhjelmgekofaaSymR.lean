/-
  The symbolic engine, part 15: what reckons or reads has one result, whatever is asked of it. No program in sight; no condition beyond each lemma's own.
-/
import Derived.Test.YtofhjelmgekofaaSymN
set_option linter.unusedSimpArgs false
set_option linter.unusedVariables false
namespace Go.Sym

/-- F comes to one thing -/
def Ret {α : Type} (F : (α → Prop) → Prop) : Prop := ∀ k, F k → ∃ x, k x ∧ ∀ k' : α → Prop, k' x → F k'

theorem ret_k {α : Type} (x : α) : Ret (fun k => k x) := fun _ h => ⟨x, h, fun _ h => h⟩
theorem ret_false {α : Type} : Ret (fun _ : α → Prop => False) := fun _ h => h.elim
theorem ret_pre {α : Type} {p : Prop} {F : (α → Prop) → Prop} (h : Ret F) : Ret (fun k => Pre p (F k)) := fun k hk => by
  obtain ⟨h1, h2⟩ := pre_e hk
  obtain ⟨x, h3, h4⟩ := h k h2
  exact ⟨x, h3, fun k' h => pre_i h1 (h4 k' h)⟩
theorem ret_ext {R : SV → Prop} : Ret (fun k : SV → Prop => ExtVC R k) := fun k hk => by
  obtain ⟨v, h1, h2⟩ := ext_e hk
  exact ⟨v, h2, fun k' h => ext_i v h1 h⟩
theorem ret_cond {α : Type} {t : Bool} {F G : (α → Prop) → Prop} (h : Ret F) (h' : Ret G) : Ret (fun k => CondVC t (F k) (G k)) := fun k hk => by
  obtain ⟨h1, h2⟩ := cond_e hk
  cases t with
  | true =>
    obtain ⟨x, h3, h4⟩ := h k (h1 rfl)
    exact ⟨x, h3, fun k' h => cond_t rfl (h4 k' h)⟩
  | false =>
    obtain ⟨x, h3, h4⟩ := h' k (h2 rfl)
    exact ⟨x, h3, fun k' h => cond_f rfl (h4 k' h)⟩

section
variable {β : Type}
theorem snocK_r {α : Type} {l : List α} {x : α} {G : List α → (β → Prop) → Prop} (h : ∀ l, Ret (G l)) : Ret (fun k => snocK l x fun l => G l k) := by
  induction l generalizing G with
  | nil => exact h _
  | cons y ys ih => exact ih (G := fun l => G (y :: l)) fun l => h _
theorem appK_r {α : Type} {a b : List α} {G : List α → (β → Prop) → Prop} (h : ∀ l, Ret (G l)) : Ret (fun k => appK a b fun l => G l k) := by
  induction a generalizing G with
  | nil => exact h _
  | cons y ys ih => exact ih (G := fun l => G (y :: l)) fun l => h _
theorem setK_r {α : Type} {l : List α} {i : Nat} {x : α} {G : List α → (β → Prop) → Prop} (h : ∀ l, Ret (G l)) : Ret (fun k => setK l i x fun l => G l k) := by
  induction l generalizing G i with
  | nil => exact ret_false
  | cons y ys ih =>
    cases i with
    | zero => exact h _
    | succ i => exact ih (G := fun l => G (y :: l)) fun l => h _
theorem nthK_r {α : Type} {l : List α} {i : Nat} {G : α → (β → Prop) → Prop} (h : ∀ x, Ret (G x)) : Ret (fun k => nthK l i fun x => G x k) := by
  induction l generalizing i with
  | nil => exact ret_false
  | cons y ys ih =>
    cases i with
    | zero => exact h _
    | succ i => exact ih
theorem lookK_r {α : Type} {l : List (Nat × α)} {n : Nat} {G : α → (β → Prop) → Prop} (h : ∀ x, Ret (G x)) : Ret (fun k => lookK l n fun x => G x k) := by
  induction l with
  | nil => exact ret_false
  | cons p r ih =>
    obtain ⟨i, v⟩ := p
    simp only [lookK]
    generalize Nat.beq i n = t
    cases t
    · exact ih
    · exact h _
theorem constK_r {v : Value} {G : SV → (β → Prop) → Prop} (h : ∀ x, Ret (G x)) : Ret (fun k => constK v fun x => G x k) := by
  intro k hk
  unfold constK at hk ⊢
  split at hk
  case h_12 => exact hk.elim
  all_goals (try split at hk)
  all_goals first
    | exact hk.elim
    | exact h _ k hk
    | (rename_i e; simp only [e]; exact h _ k hk)
theorem evK_r {tm : List (Nat × SV)} {x : Operand} {G : SV → (β → Prop) → Prop} (h : ∀ x, Ret (G x)) : Ret (fun k => evK tm x fun x => G x k) := by
  cases x with
  | tmp t => exact lookK_r h
  | const v => exact constK_r h
  | func f => exact h _
  | global g => exact ret_false
theorem evsK_r {tm : List (Nat × SV)} {xs : List Operand} {G : List SV → (β → Prop) → Prop} (h : ∀ x, Ret (G x)) : Ret (fun k => evsK tm xs fun x => G x k) := by
  induction xs generalizing G with
  | nil => exact h _
  | cons x xs ih => exact evK_r fun v => ih (G := fun vs => G (v :: vs)) fun vs => h _
theorem partsVK_r {tm : List (Nat × SV)} {xs : List (Nat × Operand)} {G : List (Nat × SV) → (β → Prop) → Prop} (h : ∀ x, Ret (G x)) : Ret (fun k => partsVK tm xs fun x => G x k) := by
  induction xs generalizing G with
  | nil => exact h _
  | cons x xs ih =>
    obtain ⟨i, x⟩ := x
    exact evK_r fun v => ih (G := fun vs => G ((i, v) :: vs)) fun vs => h _
theorem idxK_r {v : SV} {G : Nat → (β → Prop) → Prop} (h : ∀ x, Ret (G x)) : Ret (fun k => idxK v fun x => G x k) := by
  cases v <;> first | exact ret_false | exact h _ | exact ret_pre (h _)
theorem cntK_r {v : SV} {G : Nat → (β → Prop) → Prop} (h : ∀ x, Ret (G x)) : Ret (fun k => cntK v fun x => G x k) := by
  cases v <;> first | exact ret_false | exact h _ | exact ret_pre (h _)
theorem optIdxK_r {tm : List (Nat × SV)} {x : Option Operand} {G : Option Nat → (β → Prop) → Prop} (h : ∀ x, Ret (G x)) : Ret (fun k => optIdxK tm x fun x => G x k) := by
  cases x with
  | none => exact h _
  | some x => exact evK_r fun v => idxK_r (G := fun n => G (some n)) fun n => h _

/-! ### parts -/
theorem splitK_r {ps : List SV} {j b : Nat} {G : List SV → List SV → (β → Prop) → Prop} (h : ∀ a r, Ret (G a r)) : Ret (fun k => splitK ps j b fun a r => G a r k) := by
  induction ps generalizing j b G with
  | nil =>
    cases j with
    | zero =>
      simp only [splitK]
      generalize Nat.beq b 0 = t
      cases t
      · exact ret_false
      · exact h _ _
    | succ j => exact ret_false
  | cons p ps ih =>
    cases j with
    | zero =>
      simp only [splitK]
      generalize Nat.beq b 0 = t
      cases t
      · exact ret_false
      · exact h _ _
    | succ j =>
      simp only [splitK]
      generalize Nat.ble p.size b = t
      cases t
      · exact ret_false
      · exact ih (G := fun a r => G (p :: a) r) fun a r => h _ _
theorem takeK_r {ps : List SV} {n : Nat} {G : List SV → List SV → (β → Prop) → Prop} (h : ∀ a r, Ret (G a r)) : Ret (fun k => takeK ps n fun a r => G a r k) := by
  induction ps generalizing n G with
  | nil =>
    cases n with
    | zero => exact h _ _
    | succ n => exact ret_false
  | cons p ps ih =>
    cases n with
    | zero => exact h _ _
    | succ n =>
      simp only [takeK]
      generalize Nat.ble p.size (n + 1) = t
      cases t
      · exact ret_false
      · exact ih (G := fun a r => G (p :: a) r) fun a r => h _ _
theorem packK_r {ps : List SV} {G : SV → (β → Prop) → Prop} (h : ∀ v, Ret (G v)) : Ret (fun k => packK ps fun v => G v k) := by
  match ps with
  | [] => exact h _
  | [p] =>
    simp only [packK]
    generalize p.isRow = t
    cases t
    · exact h _
    · exact h _
  | p :: q :: r => exact h _
theorem walkK_r {ps : List SV} {j b c : Nat} {G : Nat → Nat → List (Nat × Nat) → (β → Prop) → Prop} (h : ∀ a b c, Ret (G a b c)) : Ret (fun k => walkK ps j b c fun x y z => G x y z k) := by
  induction ps generalizing j b c with
  | nil =>
    cases c with
    | zero => exact h _ _ _
    | succ c => exact ret_false
  | cons p ps ih =>
    cases c with
    | zero => exact h _ _ _
    | succ c =>
      simp only [walkK]
      generalize Nat.ble p.size (c + 1) = t
      cases t
      · generalize p.isRow = t
        cases t
        · exact ret_false
        · exact h _ _ _
      · exact ih
theorem flat_r :
    (∀ v : SV, ∀ (G : List SV → (β → Prop) → Prop), (∀ l, Ret (G l)) → Ret (fun k => flatK v fun l => G l k)) ∧
    (∀ vs : List SV, ∀ (G : List SV → (β → Prop) → Prop), (∀ l, Ret (G l)) → Ret (fun k => flatLK vs fun l => G l k)) := by
  have one : ∀ v : SV, ∀ (G : List SV → (β → Prop) → Prop), (∀ l, Ret (G l)) → Ret (fun k => flatK v fun l => G l k) := fun v => by
    refine SV.rec (motive_1 := fun v => ∀ (G : List SV → (β → Prop) → Prop), (∀ l, Ret (G l)) → Ret (fun k => flatK v fun l => G l k))
      (motive_2 := fun vs => ∀ (G : List SV → (β → Prop) → Prop), (∀ l, Ret (G l)) → Ret (fun k => flatLK vs fun l => G l k))
      ?_ ?_ ?_ ?_ ?_ ?_ ?_ ?_ ?_ ?_ ?_ ?_ ?_ ?_ ?_ ?_ ?_ ?_ ?_ ?_ ?_ ?_ ?_ ?_ ?_ ?_ ?_ v
    case refine_22 => intro ps ih G h; exact ih G h
    case refine_26 => intro G h; exact h _
    case refine_27 =>
      intro v vs ihv ihs G h
      exact ihv (fun a k => flatLK vs fun b => appK a b fun l => G l k) fun a => ihs (fun b k => appK a b fun l => G l k) fun b => appK_r h
    all_goals (intros; rename_i h; exact h _)
  refine ⟨one, fun vs => ?_⟩
  induction vs with
  | nil => intro G h; exact h _
  | cons v vs ih =>
    intro G h
    exact one v (fun a k => flatLK vs fun b => appK a b fun l => G l k) fun a => ih (fun b k => appK a b fun l => G l k) fun b => appK_r h
theorem flatK_r {v : SV} {G : List SV → (β → Prop) → Prop} (h : ∀ l, Ret (G l)) : Ret (fun k => flatK v fun l => G l k) := flat_r.1 v G h
theorem tabK_r {o : List (Nat × Nat)} {es : Nat} {G : Nat → Nat → (β → Prop) → Prop} (h : ∀ i c, Ret (G i c)) : Ret (fun k => tabK o es fun i c => G i c k) := by
  match o with
  | [] => exact h _ _
  | [(i, e)] =>
    simp only [tabK]
    generalize Nat.beq e es = t
    cases t
    · exact ret_false
    · exact h _ _
  | [(i, e), (c, 1)] =>
    simp only [tabK]
    generalize Nat.beq e es = t
    cases t
    · exact ret_false
    · exact h _ _
  | [(i, e), (c, 0)] => exact ret_false
  | [(i, e), (c, n + 2)] => exact ret_false
  | x :: (c, n) :: z :: r => simp only [tabK]; exact ret_false
theorem atK_r {a : At} {G : SV → (β → Prop) → Prop} (h : ∀ v, Ret (G v)) : Ret (fun k => atK a fun v => G v k) := by
  cases a <;> exact h _
theorem atsK_r {as : List At} {G : List SV → (β → Prop) → Prop} (h : ∀ v, Ret (G v)) : Ret (fun k => atsK as fun v => G v k) := by
  induction as generalizing G with
  | nil => exact h _
  | cons a as ih => exact atK_r fun v => ih (G := fun vs => G (v :: vs)) fun vs => h _
theorem dropK_r {α : Type} {l : List α} {n : Nat} {G : List α → (β → Prop) → Prop} (h : ∀ v, Ret (G v)) : Ret (fun k => dropK l n fun v => G v k) := by
  induction l generalizing n with
  | nil =>
    cases n with
    | zero => exact h _
    | succ n => exact ret_false
  | cons x xs ih =>
    cases n with
    | zero => exact h _
    | succ n => exact ih
theorem firstK_r {α : Type} {l : List α} {n : Nat} {G : List α → (β → Prop) → Prop} (h : ∀ v, Ret (G v)) : Ret (fun k => firstK l n fun v => G v k) := by
  induction l generalizing n G with
  | nil =>
    cases n with
    | zero => exact h _
    | succ n => exact ret_false
  | cons x xs ih =>
    cases n with
    | zero => exact h _
    | succ n => exact ih (G := fun l => G (x :: l)) fun l => h _
theorem cellK_r {p : SV} {o : List (Nat × Nat)} {G : SV → (β → Prop) → Prop} (h : ∀ v, Ret (G v)) : Ret (fun k => cellK p o fun v => G v k) := by
  cases p
  case tab n es f => dsimp only [cellK]; exact tabK_r fun i c => ret_pre (nthK_r fun a => atK_r h)
  all_goals first
    | exact ret_false
    | exact ret_pre (h _)
    | (cases o <;> first | exact h _ | exact ret_false)
theorem subK_r {p : SV} {o : List (Nat × Nat)} {m : Nat} {G : SV → (β → Prop) → Prop} (h : ∀ v, Ret (G v)) : Ret (fun k => subK p o m fun v => G v k) := by
  cases p
  case tab n es f => dsimp only [subK]; exact tabK_r fun i c => ret_pre (dropK_r fun r => firstK_r fun as => atsK_r (G := fun vs => G (.agg vs)) fun vs => h _)
  all_goals first
    | exact ret_false
    | exact ret_pre (h _)
theorem loadK_r {ti : TyI} {ps : List SV} {j b : Nat} {o : List (Nat × Nat)} {G : SV → (β → Prop) → Prop} (h : ∀ v, Ret (G v)) : Ret (fun k => loadK ti ps j b o fun v => G v k) := by
  obtain ⟨d, sz, bytes, zero, eqOk⟩ := ti
  refine splitK_r (G := fun _ r k => match (generalizing := false) d with
    | .arr .. | .struct .. => match (generalizing := false) o with
      | [] => takeK r sz fun a _ => packK a fun v => G v k
      | _ => match (generalizing := false) r with | p :: _ => subK p o sz fun v => G v k | [] => False
    | _ => match (generalizing := false) r with | p :: _ => cellK p o (fun v => G v k) | [] => False) fun a r => ?_
  have s : Ret (fun k => match (generalizing := false) r with | p :: _ => cellK p o (fun v => G v k) | [] => False) := by
    cases r
    · exact ret_false
    · exact cellK_r h
  have t : Ret (fun k => match (generalizing := false) o with
      | [] => takeK r sz fun a _ => packK a fun v => G v k
      | _ => match (generalizing := false) r with | p :: _ => subK p o sz fun v => G v k | [] => False) := by
    cases o with
    | nil => exact takeK_r fun a _ => packK_r h
    | cons x o =>
      cases r
      · exact ret_false
      · exact subK_r h
  cases d <;> first | exact s | exact t

/-! ### stores -/
theorem to64K_r {vs : List SV} {G : List UInt64 → (β → Prop) → Prop} (h : ∀ v, Ret (G v)) : Ret (fun k => to64K vs fun v => G v k) := by
  induction vs generalizing G with
  | nil => exact h _
  | cons v vs ih => cases v <;> first | exact ret_false | exact ih (G := fun l => G (_ :: l)) fun l => h _
theorem toAtK_r {v : SV} {G : At → (β → Prop) → Prop} (h : ∀ v, Ret (G v)) : Ret (fun k => toAtK v fun v => G v k) := by
  cases v <;> first | exact ret_false | exact h _
theorem toAtsK_r {vs : List SV} {G : List At → (β → Prop) → Prop} (h : ∀ v, Ret (G v)) : Ret (fun k => toAtsK vs fun v => G v k) := by
  induction vs generalizing G with
  | nil => exact h _
  | cons v vs ih => exact toAtK_r fun a => ih (G := fun as => G (a :: as)) fun l => h _
theorem writeK_r {p : SV} {o : List (Nat × Nat)} {v : SV} {G : SV → (β → Prop) → Prop} (h : ∀ v, Ret (G v)) : Ret (fun k => writeK p o v fun v => G v k) := by
  have plain : Ret (fun k => match (generalizing := false) o with
    | [] => match (generalizing := false) v.scalar with | true => G v k | false => False
    | _ => False) := by
    cases o with
    | nil =>
      generalize v.scalar = t
      cases t
      · exact ret_false
      · exact h _
    | cons x o => exact ret_false
  cases p
  case tab n es f =>
    have one : Ret (fun k => toAtK v fun a => tabK o es fun i c => Pre (i < n) (setK (f i) c a fun r => G (.tab n es (updF f i r)) k)) :=
      toAtK_r fun a => tabK_r fun i c => ret_pre (setK_r (G := fun r => G (.tab n es (updF f i r))) fun r => h _)
    cases v
    case agg vs =>
      refine toAtsK_r (G := fun as k => tabK o es fun i c => match (generalizing := false) c with
        | 0 => Pre (i < n ∧ as.length = es) (G (.tab n es (updF f i as)) k)
        | _ => False) fun as => tabK_r (G := fun i c k => match (generalizing := false) c with
        | 0 => Pre (i < n ∧ as.length = es) (G (.tab n es (updF f i as)) k)
        | _ => False) fun i c => ?_
      cases c
      · exact ret_pre (h _)
      · exact ret_false
    all_goals exact one
  case arr8 n l => cases v <;> first | exact ret_false | exact ret_pre (h _)
  case arr32 n l => cases v <;> first | exact ret_false | exact ret_pre (h _)
  case arr64 n l => cases v <;> first | exact ret_false | exact ret_pre (h _) | exact to64K_r fun x => ret_pre (h _)
  case arri n l => cases v <;> first | exact ret_false | exact ret_pre (h _)
  case arrs n l => cases v <;> first | exact ret_false | exact ret_pre (h _)
  case agg ps => exact ret_false
  case tup ps => exact ret_false
  all_goals (cases o <;> first | exact ret_false | (dsimp only [writeK]; exact plain))
theorem storeK_r {ti : TyI} {ps : List SV} {j b : Nat} {o : List (Nat × Nat)} {v : SV} {G : List SV → (β → Prop) → Prop} (h : ∀ v, Ret (G v)) : Ret (fun k => storeK ti ps j b o v fun v => G v k) := by
  unfold storeK
  refine splitK_r (G := fun a r k => match (generalizing := false) o with
    | [] => match (generalizing := false) v.many with
      | true => takeK r ti.sz fun _ r' => flatK v fun fs => match (generalizing := false) Nat.beq (sizeL fs) ti.sz with | true => (match (generalizing := false) plainL fs with | true => appK fs r' fun q => appK a q fun v => G v k | false => False) | false => False
      | false => match (generalizing := false) Nat.beq ti.sz 1 with
        | true => match (generalizing := false) r with | p :: r' => writeK p [] v fun p' => appK a (p' :: r') fun v => G v k | [] => False
        | false => False
    | _ => match (generalizing := false) Nat.beq v.size ti.sz with
      | true => match (generalizing := false) r with | p :: r' => writeK p o v fun p' => appK a (p' :: r') fun v => G v k | [] => False
      | false => False) fun a r => ?_
  cases o with
  | nil =>
    generalize v.many = t
    cases t
    · generalize Nat.beq ti.sz 1 = t
      cases t
      · exact ret_false
      · cases r with
        | nil => exact ret_false
        | cons p r' => exact writeK_r fun p' => appK_r h
    · refine takeK_r fun _ r' => flatK_r (G := fun fs k => match (generalizing := false) Nat.beq (sizeL fs) ti.sz with | true => (match (generalizing := false) plainL fs with | true => appK fs r' fun q => appK a q fun v => G v k | false => False) | false => False) fun fs => ?_
      generalize Nat.beq (sizeL fs) ti.sz = t
      cases t
      · exact ret_false
      · generalize plainL fs = t
        cases t
        · exact ret_false
        · exact appK_r fun q => appK_r h
  | cons x o =>
    dsimp only
    generalize Nat.beq v.size ti.sz = t
    cases t
    · exact ret_false
    · cases r with
      | nil => exact ret_false
      | cons p r' => exact writeK_r fun p' => appK_r h

/-! ### numbers -/
theorem intK_r {op : BinOp} {a b : Int} {G : SV → (β → Prop) → Prop} (h : ∀ v, Ret (G v)) : Ret (fun k => intK op a b fun v => G v k) := by
  cases op <;> first | exact ret_false | exact h _ | exact ret_pre (h _)
theorem u8K_r {op : BinOp} {a b : UInt8} {G : SV → (β → Prop) → Prop} (h : ∀ v, Ret (G v)) : Ret (fun k => u8K op a b fun v => G v k) := by
  cases op <;> first | exact ret_false | exact h _ | exact ret_pre (h _)
theorem u16K_r {op : BinOp} {a b : UInt16} {G : SV → (β → Prop) → Prop} (h : ∀ v, Ret (G v)) : Ret (fun k => u16K op a b fun v => G v k) := by
  cases op <;> first | exact ret_false | exact h _ | exact ret_pre (h _)
theorem u32K_r {op : BinOp} {a b : UInt32} {G : SV → (β → Prop) → Prop} (h : ∀ v, Ret (G v)) : Ret (fun k => u32K op a b fun v => G v k) := by
  cases op <;> first | exact ret_false | exact h _ | exact ret_pre (h _)
theorem u64K_r {op : BinOp} {a b : UInt64} {G : SV → (β → Prop) → Prop} (h : ∀ v, Ret (G v)) : Ret (fun k => u64K op a b fun v => G v k) := by
  cases op <;> first | exact ret_false | exact h _ | exact ret_pre (h _)
theorem strK_r {op : BinOp} {a b : List UInt8} {G : SV → (β → Prop) → Prop} (h : ∀ v, Ret (G v)) : Ret (fun k => strK op a b fun v => G v k) := by
  cases op <;> first | exact ret_false | exact h _ | exact ret_pre (h _)
theorem shlK_r {x y : SV} {G : SV → (β → Prop) → Prop} (h : ∀ v, Ret (G v)) : Ret (fun k => shlK x y fun v => G v k) := by
  cases x <;> first
    | exact cntK_r fun n => ret_pre (h _)
    | exact cntK_r fun n => ret_false
theorem shrK_r {x y : SV} {G : SV → (β → Prop) → Prop} (h : ∀ v, Ret (G v)) : Ret (fun k => shrK x y fun v => G v k) := by
  cases x <;> first
    | exact cntK_r fun n => ret_pre (h _)
    | exact cntK_r fun n => ret_false
theorem binK_r {op : BinOp} {x y : SV} {G : SV → (β → Prop) → Prop} (h : ∀ v, Ret (G v)) : Ret (fun k => binK op x y fun v => G v k) := by
  cases op
  case shl => exact shlK_r h
  case shr => exact shrK_r h
  all_goals
    cases x <;> first
      | exact ret_false
      | (cases y <;> dsimp only [binK] <;> first | exact ret_false | exact intK_r h | exact u8K_r h | exact u16K_r h | exact u32K_r h | exact u64K_r h | exact strK_r h)
theorem unK_r {op : UnOp} {x : SV} {G : SV → (β → Prop) → Prop} (h : ∀ v, Ret (G v)) : Ret (fun k => unK op x fun v => G v k) := by
  cases op <;> cases x <;> first | exact ret_false | exact h _ | exact ret_pre (h _)
theorem convIntK_r {d : IntKind} {x : SV} {G : SV → (β → Prop) → Prop} (h : ∀ v, Ret (G v)) : Ret (fun k => convIntK d x fun v => G v k) := by
  cases d <;> cases x <;> first | exact ret_false | exact h _ | exact ret_pre (h _)
end
end Go.Sym
