/-
  The symbolic engine, part 24: code - what the engine computes of it. No program in sight; no condition.
-/
import Derived.Test.YtofhjelmgekofaaSymZ
set_option linter.unusedSimpArgs false
set_option linter.unusedVariables false
namespace Go.Sym

/-- operations in text order -/
noncomputable def vcRg (Γ : Ctx) (all : List Oper) (os : List Oper) : List (Nat × SV) → List Blk → (St → Prop) → Prop :=
  List.rec (motive := fun _ => List (Nat × SV) → List Blk → (St → Prop) → Prop) (fun tm hp K => K ⟨tm, hp⟩) (fun o _ ih tm hp K => guardK all o tm
    (vcOp Γ o tm hp fun st => match st with | ⟨tm', hp'⟩ => ih tm' hp' K)
    (putK Γ.nt tm hp o.dst (.tup []) fun st => match st with | ⟨tm', hp'⟩ => ih tm' hp' K)) os
theorem vcRg_nil (Γ : Ctx) (all : List Oper) (tm : List (Nat × SV)) (hp : List Blk) (K : St → Prop) : vcRg Γ all [] tm hp K = K ⟨tm, hp⟩ := rfl
theorem vcRg_cons (Γ : Ctx) (all : List Oper) (o : Oper) (os : List Oper) (tm : List (Nat × SV)) (hp : List Blk) (K : St → Prop) : vcRg Γ all (o :: os) tm hp K = guardK all o tm
    (vcOp Γ o tm hp fun st => match st with | ⟨tm', hp'⟩ => vcRg Γ all os tm' hp' K)
    (putK Γ.nt tm hp o.dst (.tup []) fun st => match st with | ⟨tm', hp'⟩ => vcRg Γ all os tm' hp' K) := rfl

/-! ### one state is (more than) another, with its blocks renumbered -/
def preB : Nat → List Nat → Nat → Bool
  | 0, _, _ => true
  | _ + 1, [], _ => false
  | n + 1, g :: gs, k => match Nat.beq g k with | true => preB n gs (k + 1) | false => false
def eqLen : List Nat → List Blk → Bool
  | [], [] => true
  | _ :: gs, _ :: bs => eqLen gs bs
  | _, _ => false
def entHp (gl : List Nat) (n : Nat) (hp : List Blk) : List Nat → List Blk → Prop → Prop
  | g :: gs, b :: bs, p => match b with
    | .dead => entHp gl n hp gs bs p
    | .mk _ ps => match allL (fun k => Nat.blt k n) ps with
      | true => nthK hp g fun b' => match b' with
        | .mk _ qs => Same (.agg qs) ((SV.agg ps).ren (fwd gl 0)) (entHp gl n hp gs bs p)
        | .dead => False
      | false => False
  | _, _, p => p
def entTm (gl : List Nat) (n : Nat) (tm : List (Nat × SV)) : List (Nat × SV) → Prop → Prop
  | [], p => p
  | (t, v) :: r, p => match v.all (fun k => Nat.blt k n) with
    | true => lookK tm t fun u => Same u (v.ren (fwd gl 0)) (entTm gl n tm r p)
    | false => False
def entK (n0 : Nat) (gl : List Nat) (tm : List (Nat × SV)) (hp : List Blk) (tm' : List (Nat × SV)) (hp' : List Blk) (p : Prop) : Prop :=
  match eqLen gl hp', nodupB gl, preB n0 gl 0 with
  | true, true, true => lenK gl fun n => entHp gl n hp gl hp' (entTm gl n tm tm' p)
  | _, _, _ => False

/-- a loop: a family of states, one of which stands at its head; each round leads to a lesser one, or out -/
def LoopVC (n0 : Nat) (f : St → (St → Prop) → Prop) (st : St) : Prop :=
  ∃ (ι : Type) (I : ι → St) (μ : ι → Nat), (∃ i gl, entK n0 gl st.tm st.hp (I i).tm (I i).hp True) ∧
    ∀ i, f (I i) fun st' => ∃ j gl, μ j < μ i ∧ entK n0 gl st'.tm st'.hp (I j).tm (I j).hp True
/-- the end: the result and the heap, without what nobody needs -/
def FinalVC (n0 : Nat) (r : SV) (hp : List Blk) (K : SV → List Blk → Prop) : Prop :=
  ∃ gl r' hp', entK n0 gl [(0, r)] hp [(0, r')] hp' (K r' hp')
attribute [irreducible] LoopVC FinalVC
theorem loop_i {n0 : Nat} {f : St → (St → Prop) → Prop} {st : St} (ι : Type) (I : ι → St) (μ : ι → Nat) (i : ι) (gl : List Nat) (h0 : entK n0 gl st.tm st.hp (I i).tm (I i).hp True)
    (h : ∀ i, f (I i) fun st' => ∃ j gl, μ j < μ i ∧ entK n0 gl st'.tm st'.hp (I j).tm (I j).hp True) : LoopVC n0 f st := by
  unfold LoopVC; exact ⟨ι, I, μ, ⟨i, gl, h0⟩, h⟩
theorem loop_e {n0 : Nat} {f : St → (St → Prop) → Prop} {st : St} (h : LoopVC n0 f st) : ∃ (ι : Type) (I : ι → St) (μ : ι → Nat), (∃ i gl, entK n0 gl st.tm st.hp (I i).tm (I i).hp True) ∧
    ∀ i, f (I i) fun st' => ∃ j gl, μ j < μ i ∧ entK n0 gl st'.tm st'.hp (I j).tm (I j).hp True := by unfold LoopVC at h; exact h
theorem final_i {n0 : Nat} {r : SV} {hp : List Blk} {K : SV → List Blk → Prop} (gl : List Nat) (r' : SV) (hp' : List Blk) (h : entK n0 gl [(0, r)] hp [(0, r')] hp' (K r' hp')) : FinalVC n0 r hp K := by
  unfold FinalVC; exact ⟨gl, r', hp', h⟩
theorem final_e {n0 : Nat} {r : SV} {hp : List Blk} {K : SV → List Blk → Prop} (h : FinalVC n0 r hp K) : ∃ gl r' hp', entK n0 gl [(0, r)] hp [(0, r')] hp' (K r' hp') := by unfold FinalVC at h; exact h

/-- (by the code's own recursor) -/
noncomputable def vc (Γ : Ctx) (D : List (Nat × List PStep)) (n0 : Nat) (c : Code) : List (Nat × SV) → List Blk → (St → Prop) → (Nat → St → Prop) → (St → Prop) → Prop :=
  Code.rec (motive := fun _ => List (Nat × SV) → List Blk → (St → Prop) → (Nat → St → Prop) → (St → Prop) → Prop)
    (fun tm hp N _ _ => N ⟨tm, hp⟩)
    (fun id ops dr tm hp N _ _ => match dr with
      | false => vcRg Γ ops.toList ops.toList tm hp N
      | true => lookK D id fun steps => Pre (planOK ops Γ steps = true) (vcDr Γ ops.toList steps [] tm hp N))
    (fun _ _ iha ihb tm hp N X R => iha tm hp (fun st => match st with | ⟨tm', hp'⟩ => ihb tm' hp' N X R) X R)
    (fun c _ _ iha ihb tm hp N X R => evK tm c fun v => match v with
      | .bool t => CondVC t (iha tm hp N X R) (ihb tm hp N X R)
      | _ => False)
    (fun id _ ih tm hp N X R => ih tm hp N (fun i st => match Nat.beq i id with | true => N st | false => X i st) R)
    (fun _ ih tm hp _ X R => LoopVC n0 (fun st N' => match st with | ⟨tm', hp'⟩ => ih tm' hp' N' X R) ⟨tm, hp⟩)
    (fun _ _ _ _ _ _ _ _ _ _ _ => False)
    (fun id tm hp _ X _ => X id ⟨tm, hp⟩)
    (fun _ _ _ _ _ _ _ => False)
    (fun _ tm hp N _ _ => N ⟨tm, hp⟩)
    (fun _ _ _ _ _ _ => False)
    (fun tm hp _ _ R => R ⟨tm, hp⟩)
    (fun _ _ _ _ _ _ => False)
    c

section
variable {Γ : Ctx} {D : List (Nat × List PStep)} {n0 : Nat} {tm : List (Nat × SV)} {hp : List Blk} {N : St → Prop} {X : Nat → St → Prop} {R : St → Prop}
theorem vc_cond {c : Operand} {a b : Code} : vc Γ D n0 (.cond c a b) tm hp N X R = (evK tm c fun v => match v with
    | .bool t => CondVC t (vc Γ D n0 a tm hp N X R) (vc Γ D n0 b tm hp N X R)
    | _ => False) := rfl
theorem vc_loop {c : Code} : vc Γ D n0 (.loop c) tm hp N X R = LoopVC n0 (fun st N' => match st with | ⟨tm', hp'⟩ => vc Γ D n0 c tm' hp' N' X R) ⟨tm, hp⟩ := rfl
end

def resK (Γ : Ctx) (tm : List (Nat × SV)) (hp : List Blk) : List ResultVar → (List SV → Prop) → Prop
  | [], k => k []
  | .tmp t :: r, k => lookK tm t fun v => resK Γ tm hp r fun vs => k (v :: vs)
  | .cell a t :: r, k => lookK Γ.ty t fun ti => lookK tm a fun v => match v with
    | .ptr q j b oo => partsK hp q fun _ ps => loadK ti ps j b oo fun v => resK Γ tm hp r fun vs => k (v :: vs)
    | _ => False
def oneK (vs : List SV) (k : SV → Prop) : Prop :=
  match vs with
  | [v] => k v
  | vs => k (.tup vs)
def entryK : List SV → Nat → (List (Nat × SV) → Prop) → Prop
  | [], _, k => k []
  | v :: vs, i, k => entryK vs (i + 1) fun tm => k ((i, v) :: tm)

/-- what is left to prove of a function's body -/
noncomputable def fnVC (Γ : Ctx) (D : List (Nat × List PStep)) (c : Code) (res : List ResultVar) (args : List SV) (hp : List Blk) (K : SV → List Blk → Prop) : Prop :=
  entryK args 0 fun tm => lenK hp fun n0 =>
    vc Γ D n0 c tm hp (fun st => match st with | ⟨tm', hp'⟩ => resK Γ tm' hp' res fun vs => oneK vs fun r => FinalVC n0 r hp' K)
      (fun _ _ => False) (fun st => match st with | ⟨tm', hp'⟩ => resK Γ tm' hp' res fun vs => oneK vs fun r => FinalVC n0 r hp' K)

end Go.Sym
