/-
  The symbolic engine, part 17: a region whose order is drawn - what the engine computes of it. No program in sight; no condition.
-/
import Derived.Test.YtofhjelmgekofaaSymS
set_option linter.unusedSimpArgs false
set_option linter.unusedVariables false
namespace Go.Sym

/-- one step of the order in which the engine takes a region: the operation, and what came earlier in that order and need not have come earlier in truth -/
structure PStep where
  i : Nat
  loose : List Nat

inductive LateK where
  | pure | read (M : List Nat) | maker (b : Nat)

/-- an operation that the engine has taken -/
structure Late where
  i : Nat
  o : Oper
  v : SV
  k : LateK

def Same (v u : SV) (p : Prop) : Prop := v = u ∧ p
attribute [irreducible] Same
theorem same_i {v : SV} {p : Prop} (h : p) : Same v v p := by unfold Same; exact ⟨rfl, h⟩
theorem same_e {v u : SV} {p : Prop} (h : Same v u p) : v = u ∧ p := by unfold Same at h; exact h

/-- the blocks that need not be there -/
def looseB (L : List Nat) : List Late → (List Nat → Prop) → Prop
  | [], k => k []
  | x :: xs, k => match x.k with
    | .maker b => match elemB L x.i with | true => looseB L xs fun M => k (b :: M) | false => looseB L xs k
    | _ => looseB L xs k

def deadK : List Nat → List Blk → (List Blk → Prop) → Prop
  | [], hp, k => k hp
  | m :: M, hp, k => setK hp m .dead fun hp' => deadK M hp' k
def liveK (hp : List Blk) : List Nat → List Blk → (List Blk → Prop) → Prop
  | [], hp', k => k hp'
  | m :: M, hp', k => nthK hp m fun b => setK hp' m b fun hp'' => liveK hp M hp'' k

def disjB (M : List Nat) : List Nat → Bool
  | [] => true
  | x :: xs => match elemB M x with | true => false | false => disjB M xs
def freeV (M : List Nat) (v : SV) (p : Prop) : Prop :=
  match M with
  | [] => p
  | _ :: _ => match disjB M v.ks with | true => p | false => False
def freeH (M : List Nat) : List Blk → Prop → Prop
  | [], p => p
  | b :: bs, p => match M with
    | [] => p
    | _ :: _ => match b with
      | .dead => freeH M bs p
      | .mk _ ps => match disjB M (ksL ps) with | true => freeH M bs p | false => False

/-- the reads that need not have come: they read the same still -/
def reK (Γ : Ctx) (tm : List (Nat × SV)) (hp : List Blk) (L : List Nat) : List Late → Prop → Prop
  | [], p => p
  | x :: xs, p => match x.k with
    | .read M => match elemB L x.i with
      | true => deadK M hp fun hm => readK Γ x.o.op tm hm fun v => Same v x.v (reK Γ tm hp L xs p)
      | false => reK Γ tm hp L xs p
    | _ => reK Γ tm hp L xs p

/-- a new block, which no earlier read may see -/
def addM (b : Nat) : List Late → List Late
  | [] => []
  | x :: xs => (match x.k with | .read M => ⟨x.i, x.o, x.v, .read (b :: M)⟩ | _ => x) :: addM b xs

def guardK (all : List Oper) (o : Oper) (tm : List (Nat × SV)) (yes no : Prop) : Prop :=
  match o.guard with
  | none => yes
  | some (j, want) => nthK all j fun g => match g.dst with
    | some d => lookK tm d fun v => match v with
      | .bool t => CondVC (t == want) yes no
      | .tup _ => no
      | _ => False
    | none => False

/-- (by the list's own recursor: so that the kernel and the elaborator come to one and the same term) -/
noncomputable def vcDr (Γ : Ctx) (all : List Oper) (steps : List PStep) : List Late → List (Nat × SV) → List Blk → (St → Prop) → Prop :=
  List.rec (motive := fun _ => List Late → List (Nat × SV) → List Blk → (St → Prop) → Prop) (fun _ tm hp K => K ⟨tm, hp⟩) (fun s _ ih late tm hp K => nthK all s.i fun o => guardK all o tm
    (match kindOf Γ o.op with
      | .pure => pureK Γ o.op tm fun v => looseB s.loose late fun M => freeV M v (putK Γ.nt tm hp o.dst v fun st => match st with | ⟨tm', hp'⟩ => ih (⟨s.i, o, v, .pure⟩ :: late) tm' hp' K)
      | .read => looseB s.loose late fun M => deadK M hp fun hm => readK Γ o.op tm hm fun v => freeV M v (putK Γ.nt tm hp o.dst v fun st => match st with | ⟨tm', hp'⟩ => ih (⟨s.i, o, v, .read M⟩ :: late) tm' hp' K)
      | .maker => looseB s.loose late fun M => lenK hp fun n => makerK Γ o.op tm n fun v b => match b with
        | .mk el ps => freeV M (.agg ps) (snocK hp (.mk el ps) fun hp1 => putK Γ.nt tm hp1 o.dst v fun st => match st with | ⟨tm', hp'⟩ => ih (⟨s.i, o, v, .maker n⟩ :: addM n late) tm' hp' K)
        | .dead => False
      | .anchor => looseB s.loose late fun M => deadK M hp fun hm => anchorK Γ o.op tm hm
          (fun v hp1 => freeV M v (freeH M hp1 (liveK hp M hp1 fun hp2 => putK Γ.nt tm hp2 o.dst v fun st => match st with | ⟨tm', hp'⟩ => reK Γ tm' hp' s.loose late (ih late tm' hp' K))))
          (fun hp1 => freeH M hp1 (liveK hp M hp1 fun hp2 => match o.dst with
            | none => reK Γ tm hp2 s.loose late (ih late tm hp2 K)
            | some _ => False)))
    (putK Γ.nt tm hp o.dst (.tup []) fun st => match st with | ⟨tm', hp'⟩ => ih (⟨s.i, o, .tup [], .pure⟩ :: late) tm' hp' K)) steps
theorem vcDr_nil (Γ : Ctx) (all : List Oper) (late : List Late) (tm : List (Nat × SV)) (hp : List Blk) (K : St → Prop) : vcDr Γ all [] late tm hp K = K ⟨tm, hp⟩ := rfl
theorem vcDr_cons (Γ : Ctx) (all : List Oper) (s : PStep) (ss : List PStep) (late : List Late) (tm : List (Nat × SV)) (hp : List Blk) (K : St → Prop) : vcDr Γ all (s :: ss) late tm hp K = nthK all s.i fun o => guardK all o tm
    (match kindOf Γ o.op with
      | .pure => pureK Γ o.op tm fun v => looseB s.loose late fun M => freeV M v (putK Γ.nt tm hp o.dst v fun st => match st with | ⟨tm', hp'⟩ => vcDr Γ all ss (⟨s.i, o, v, .pure⟩ :: late) tm' hp' K)
      | .read => looseB s.loose late fun M => deadK M hp fun hm => readK Γ o.op tm hm fun v => freeV M v (putK Γ.nt tm hp o.dst v fun st => match st with | ⟨tm', hp'⟩ => vcDr Γ all ss (⟨s.i, o, v, .read M⟩ :: late) tm' hp' K)
      | .maker => looseB s.loose late fun M => lenK hp fun n => makerK Γ o.op tm n fun v b => match b with
        | .mk el ps => freeV M (.agg ps) (snocK hp (.mk el ps) fun hp1 => putK Γ.nt tm hp1 o.dst v fun st => match st with | ⟨tm', hp'⟩ => vcDr Γ all ss (⟨s.i, o, v, .maker n⟩ :: addM n late) tm' hp' K)
        | .dead => False
      | .anchor => looseB s.loose late fun M => deadK M hp fun hm => anchorK Γ o.op tm hm
          (fun v hp1 => freeV M v (freeH M hp1 (liveK hp M hp1 fun hp2 => putK Γ.nt tm hp2 o.dst v fun st => match st with | ⟨tm', hp'⟩ => reK Γ tm' hp' s.loose late (vcDr Γ all ss late tm' hp' K))))
          (fun hp1 => freeH M hp1 (liveK hp M hp1 fun hp2 => match o.dst with
            | none => reK Γ tm hp2 s.loose late (vcDr Γ all ss late tm hp2 K)
            | some _ => False)))
    (putK Γ.nt tm hp o.dst (.tup []) fun st => match st with | ⟨tm', hp'⟩ => vcDr Γ all ss (⟨s.i, o, .tup [], .pure⟩ :: late) tm' hp' K) := rfl

/-! ### the order, looked over -/
def edgesOn (o : Oper) : List Nat := (o.after.toList.filter (Region.binds .any)).map (·.on)

/-- what surely comes before the operations taken so far -/
abbrev Table := List (Nat × Nat)
def tabOf (T : Table) (i : Nat) : Nat :=
  match T with
  | [] => 0
  | (j, m) :: r => if Nat.beq j i then m else tabOf r i
def beforeOf (T : Table) : List Nat → Nat
  | [] => 0
  | e :: es => (Nat.lor (Nat.lor (Nat.shiftLeft 1 e) (tabOf T e)) (beforeOf T es))

/-- of what came earlier: it is before s in truth, or it is loose and apart -/
def pairsB (ops : Array Oper) (s : PStep) (o : Oper) (m : Nat) : List PStep → Bool
  | [] => true
  | x :: xs => (match elemB s.loose x.i with
      | true => match ops[x.i]? with | some y => y.apart ops o | none => false
      | false => Nat.testBit m x.i) && pairsB ops s o m xs

/-- a read that is loose at an anchor: nothing taken since writes what it looks at; pre: newest first -/
def readsB (ops : Array Oper) (Γ : Ctx) (L : List Nat) : List PStep → List (Option Nat) → Bool
  | [], _ => true
  | x :: xs, ds => (match ops[x.i]? with
      | some y => (match kindOf Γ y.op, elemB L x.i with
        | .read, true => (y.dst :: ds).all fun d => match d with | some d => !(y.looksAt ops).contains d | none => true
        | _, _ => true) && readsB ops Γ L xs (y.dst :: ds)
      | none => false)

def memS (i : Nat) : List PStep → Bool
  | [] => false
  | x :: xs => Nat.beq x.i i || memS i xs

def planB (ops : Array Oper) (Γ : Ctx) : List PStep → List PStep → Table → Bool
  | _, [], _ => true
  | pre, s :: ss, T => match ops[s.i]? with
    | none => false
    | some o =>
      let m := beforeOf T (edgesOn o)
      !memS s.i pre && (edgesOn o).all (fun e => memS e pre) && pairsB ops s o m pre &&
      (match kindOf Γ o.op with
        | .anchor => ss.all (fun t => match ops[t.i]? with | some u => (edgesOn u).any fun e => !memS e pre | none => false) && readsB ops Γ s.loose pre [o.dst]
        | _ => true) && planB ops Γ (s :: pre) ss ((s.i, m) :: T)

def planOK (ops : Array Oper) (Γ : Ctx) (steps : List PStep) : Bool :=
  Region.noSelect ops && (List.range ops.size).all (fun i => memS i steps) && planB ops Γ [] steps []

end Go.Sym
