/-
  The symbolic engine, part 2: the function 'vc', which computes what is left to prove of a piece of the model's code, from a symbolic state on. No program in sight; no condition.
-/
import Derived.Test.YtofhjelmgekofaaSymA
set_option linter.unusedSimpArgs false
set_option linter.unusedVariables false
namespace Go.Sym

inductive Ty where
  | int (k : IntKind) | bool | str | ptr | sl (e : TypeId) | arr (n : Nat) (e : TypeId) | struct (fs : List (Nat × TypeId)) | func | iface | other
  deriving Inhabited

structure TyI where
  d : Ty
  sz : Nat
  bytes : Nat
  zero : SV
  eqOk : Bool := false

/-- What a call does, said of symbolic values and of the blocks that its arguments reach. -/
abbrev Spec := List SV → List Blk → (SV → List Blk → Prop) → Prop

/-- E: what is known of every world on the way; ext: what stands at an address of the first world -/
structure Ctx where
  nt : Nat
  ty : List (Nat × TyI)
  fn : List (Nat × Spec)
  E : World → Prop := fun _ => True
  ext : Addr → TypeId → SV → Prop := fun _ _ _ => False

/-- What the engine stops at. -/
def Pre (p q : Prop) : Prop := p ∧ q
def CondVC (t : Bool) (a b : Prop) : Prop := (t = true → a) ∧ (t = false → b)
def AllVC {α : Type} (f : α → Prop) : Prop := ∀ x, f x
def ExtVC (R k : SV → Prop) : Prop := ∃ v, R v ∧ k v
attribute [irreducible] Pre CondVC AllVC ExtVC
theorem ext_i {R k : SV → Prop} (v : SV) (h : R v) (h' : k v) : ExtVC R k := by unfold ExtVC; exact ⟨v, h, h'⟩
theorem ext_e {R k : SV → Prop} (h : ExtVC R k) : ∃ v, R v ∧ k v := by unfold ExtVC at h; exact h
theorem pre_i {p q : Prop} (h : p) (h' : q) : Pre p q := by unfold Pre; exact ⟨h, h'⟩
theorem pre_e {p q : Prop} (h : Pre p q) : p ∧ q := by unfold Pre at h; exact h
theorem cond_i {t : Bool} {a b : Prop} (h : t = true → a) (h' : t = false → b) : CondVC t a b := by unfold CondVC; exact ⟨h, h'⟩
theorem cond_e {t : Bool} {a b : Prop} (h : CondVC t a b) : (t = true → a) ∧ (t = false → b) := by unfold CondVC at h; exact h
theorem cond_t {t : Bool} {a b : Prop} (e : t = true) (h : a) : CondVC t a b := cond_i (fun _ => h) (fun h => by rw [e] at h; cases h)
theorem cond_f {t : Bool} {a b : Prop} (e : t = false) (h : b) : CondVC t a b := cond_i (fun h => by rw [e] at h; cases h) (fun _ => h)
theorem all_i {α : Type} {f : α → Prop} (h : ∀ x, f x) : AllVC f := by unfold AllVC; exact h
theorem all_e {α : Type} {f : α → Prop} (h : AllVC f) : ∀ x, f x := by unfold AllVC at h; exact h

/-! ### lists, built while the continuation waits: the state stays written out -/
def snocK {α : Type} : List α → α → (List α → Prop) → Prop
  | [], x, k => k [x]
  | y :: ys, x, k => snocK ys x fun l => k (y :: l)
def appK {α : Type} : List α → List α → (List α → Prop) → Prop
  | [], b, k => k b
  | y :: ys, b, k => appK ys b fun l => k (y :: l)
def setK {α : Type} : List α → Nat → α → (List α → Prop) → Prop
  | [], _, _, _ => False
  | _ :: xs, 0, y, k => k (y :: xs)
  | x :: xs, n + 1, y, k => setK xs n y fun l => k (x :: l)
def nthK {α : Type} : List α → Nat → (α → Prop) → Prop
  | [], _, _ => False
  | x :: _, 0, k => k x
  | _ :: xs, n + 1, k => nthK xs n k
def lookK {α : Type} : List (Nat × α) → Nat → (α → Prop) → Prop
  | [], _, _ => False
  | (i, v) :: r, n, k => match Nat.beq i n with | true => k v | false => lookK r n k
def lenK {α : Type} (l : List α) (k : Nat → Prop) : Prop :=
  match l with
  | [] => k 0
  | [_] => k 1
  | [_, _] => k 2
  | [_, _, _] => k 3
  | [_, _, _, _] => k 4
  | [_, _, _, _, _] => k 5
  | [_, _, _, _, _, _] => k 6
  | [_, _, _, _, _, _, _] => k 7
  | [_, _, _, _, _, _, _, _] => k 8
  | [_, _, _, _, _, _, _, _, _] => k 9
  | [_, _, _, _, _, _, _, _, _, _] => k 10
  | [_, _, _, _, _, _, _, _, _, _, _] => k 11
  | [_, _, _, _, _, _, _, _, _, _, _, _] => k 12
  | l => k l.length

/-! ### operands -/
def constK (v : Value) (k : SV → Prop) : Prop :=
  match v with
  | .bool b => k (.bool b)
  | .int .i64 n => k (.int n)
  | .int .u8 (.ofNat n) => match Nat.blt n 256 with | true => k (.u8 (UInt8.ofNat n)) | false => False
  | .int .u16 (.ofNat n) => match Nat.blt n 65536 with | true => k (.u16 (UInt16.ofNat n)) | false => False
  | .int .u32 (.ofNat n) => match Nat.blt n 4294967296 with | true => k (.u32 (UInt32.ofNat n)) | false => False
  | .int .u64 (.ofNat n) => match Nat.blt n 18446744073709551616 with | true => k (.u64 (UInt64.ofNat n)) | false => False
  | .string ⟨⟨l⟩⟩ => k (.str l)
  | .pointer none => k .nilptr
  | .slice none 0 0 => k .nilsl
  | .nilFunc => k .nilfn
  | .nilIface => k .nilif
  | _ => False

def evK (tm : List (Nat × SV)) (x : Operand) (k : SV → Prop) : Prop :=
  match x with
  | .tmp t => lookK tm t k
  | .const v => constK v k
  | .func f => k (.func f [])
  | .global _ => False

def evsK (tm : List (Nat × SV)) : List Operand → (List SV → Prop) → Prop
  | [], k => k []
  | x :: xs, k => evK tm x fun v => evsK tm xs fun vs => k (v :: vs)

/-- the state behind an operation that yields v -/
def putK (nt : Nat) (tm : List (Nat × SV)) (hp : List Blk) (d : Option Nat) (v : SV) (K : St → Prop) : Prop :=
  match d with
  | some d => match Nat.blt d nt with | true => K ⟨(d, v) :: tm, hp⟩ | false => False
  | none => K ⟨tm, hp⟩

/-! ### parts -/
def SV.isRow : SV → Bool
  | .arr8 .. | .arr32 .. | .arr64 .. | .arri .. | .arrs .. | .tab .. => true
  | _ => false

mutual
def flatK : SV → (List SV → Prop) → Prop
  | .agg ps, k => flatLK ps k
  | v, k => k [v]
def flatLK : List SV → (List SV → Prop) → Prop
  | [], k => k []
  | v :: vs, k => flatK v fun a => flatLK vs fun b => appK a b k
end

/-- the parts ahead of part j (which begins at cell b), and those from it on -/
def splitK : List SV → Nat → Nat → (List SV → List SV → Prop) → Prop
  | ps, 0, b, k => match Nat.beq b 0 with | true => k [] ps | false => False
  | [], _ + 1, _, _ => False
  | p :: ps, j + 1, b, k => match Nat.ble p.size b with | true => splitK ps j (b - p.size) fun a r => k (p :: a) r | false => False

/-- the first parts, which have n cells together, and the rest -/
def takeK : List SV → Nat → (List SV → List SV → Prop) → Prop
  | ps, 0, k => k [] ps
  | [], _ + 1, _ => False
  | p :: ps, n + 1, k => match Nat.ble p.size (n + 1) with | true => takeK ps (n + 1 - p.size) fun a r => k (p :: a) r | false => False

/-- some parts as one value -/
def packK (ps : List SV) (k : SV → Prop) : Prop :=
  match ps with
  | [p] => match p.isRow with | true => k p | false => k (.agg [p])
  | ps => k (.agg ps)

/-- where the field at cell c behind the head of part j lies -/
def walkK : List SV → (j b c : Nat) → (Nat → Nat → List (Nat × Nat) → Prop) → Prop
  | _, j, b, 0, k => k j b []
  | [], _, _, _ + 1, _ => False
  | p :: ps, j, b, c + 1, k => match Nat.ble p.size (c + 1) with
    | true => walkK ps (j + 1) (b + p.size) (c + 1 - p.size) k
    | false => match p.isRow with | true => k j b [(c + 1, 1)] | false => False

/-- one offset more -/
def addO : List (Nat × Nat) → Nat → Nat → List (Nat × Nat)
  | [], i, e => [(i, e)]
  | (i', e') :: [], i, e => match Nat.beq e' e with | true => [(i' + i, e)] | false => [(i', e'), (i, e)]
  | x :: y :: r, i, e => x :: addO (y :: r) i e

/-- the row and the column in a table of rows of es cells -/
def tabK (o : List (Nat × Nat)) (es : Nat) (k : Nat → Nat → Prop) : Prop :=
  match o with
  | [] => k 0 0
  | [(i, e)] => match Nat.beq e es with | true => k i 0 | false => False
  | [(i, e), (c, 1)] => match Nat.beq e es with | true => k i c | false => False
  | _ => False

def atK (a : At) (k : SV → Prop) : Prop :=
  match a with
  | .bool b => k (.bool b) | .int n => k (.int n) | .u8 x => k (.u8 x) | .u16 x => k (.u16 x) | .u32 x => k (.u32 x) | .u64 x => k (.u64 x) | .str l => k (.str l)
def atsK : List At → (List SV → Prop) → Prop
  | [], k => k []
  | a :: as, k => atK a fun v => atsK as fun vs => k (v :: vs)
def dropK {α : Type} : List α → Nat → (List α → Prop) → Prop
  | l, 0, k => k l
  | [], _ + 1, _ => False
  | _ :: xs, n + 1, k => dropK xs n k
def firstK {α : Type} : List α → Nat → (List α → Prop) → Prop
  | _, 0, k => k []
  | [], _ + 1, _ => False
  | x :: xs, n + 1, k => firstK xs n fun l => k (x :: l)

/-- one cell out of a part -/
def cellK (p : SV) (o : List (Nat × Nat)) (k : SV → Prop) : Prop :=
  match p with
  | .arr8 _ l => Pre (off o < l.length) (k (.u8 (l.getD (off o) 0)))
  | .arr32 _ l => Pre (off o < l.length) (k (.u32 (l.getD (off o) 0)))
  | .arr64 _ l => Pre (off o < l.length) (k (.u64 (l.getD (off o) 0)))
  | .arri _ l => Pre (off o < l.length) (k (.int (l.getD (off o) 0)))
  | .arrs _ l => Pre (off o < l.length) (k (.str (l.getD (off o) [])))
  | .tab n es f => tabK o es fun i c => Pre (i < n) (nthK (f i) c fun a => atK a k)
  | .agg _ => False
  | .tup _ => False
  | v => match o with | [] => k v | _ => False

/-- m cells out of a row -/
def subK (p : SV) (o : List (Nat × Nat)) (m : Nat) (k : SV → Prop) : Prop :=
  match p with
  | .arr8 _ l => Pre (off o + m ≤ l.length) (k (.arr8 m ((l.drop (off o)).take m)))
  | .arr32 _ l => Pre (off o + m ≤ l.length) (k (.arr32 m ((l.drop (off o)).take m)))
  | .arr64 _ l => Pre (off o + m ≤ l.length) (k (.arr64 m ((l.drop (off o)).take m)))
  | .arri _ l => Pre (off o + m ≤ l.length) (k (.arri m ((l.drop (off o)).take m)))
  | .arrs _ l => Pre (off o + m ≤ l.length) (k (.arrs m ((l.drop (off o)).take m)))
  | .tab n es f => tabK o es fun i c => Pre (i < n) (dropK (f i) c fun r => firstK r m fun as => atsK as fun vs => k (.agg vs))
  | _ => False

def loadK (ti : TyI) (ps : List SV) (j b : Nat) (o : List (Nat × Nat)) (k : SV → Prop) : Prop :=
  splitK ps j b fun _ r => match ti.d with
    | .arr .. | .struct .. => match o with
      | [] => takeK r ti.sz fun a _ => packK a k
      | _ => match r with | p :: _ => subK p o ti.sz k | [] => False
    | _ => match r with | p :: _ => cellK p o k | [] => False

/-! ### stores -/
def toB8K : List SV → (List UInt8 → Prop) → Prop
  | [], k => k []
  | .u8 x :: r, k => toB8K r fun l => k (x :: l)
  | _, _ => False
def to64K : List SV → (List UInt64 → Prop) → Prop
  | [], k => k []
  | .u64 x :: r, k => to64K r fun l => k (x :: l)
  | _, _ => False
def toAtK (v : SV) (k : At → Prop) : Prop :=
  match v with
  | .bool b => k (.bool b) | .int n => k (.int n) | .u8 x => k (.u8 x) | .u16 x => k (.u16 x) | .u32 x => k (.u32 x) | .u64 x => k (.u64 x) | .str l => k (.str l)
  | _ => False
def toAtsK : List SV → (List At → Prop) → Prop
  | [], k => k []
  | v :: vs, k => toAtK v fun a => toAtsK vs fun as => k (a :: as)

/-- a list with some of its places written anew -/
def splice {α : Type} (l : List α) (i : Nat) (m : List α) : List α := l.take i ++ m ++ l.drop (i + m.length)
def updF (f : Nat → List At) (i : Nat) (r : List At) : Nat → List At := fun x => if x = i then r else f x

/-- a part with one cell (or a few) written -/
def writeK (p : SV) (o : List (Nat × Nat)) (v : SV) (k : SV → Prop) : Prop :=
  match p with
  | .arr8 n l => match v with
    | .u8 x => Pre (off o < l.length) (k (.arr8 n (l.set (off o) x)))
    | .arr8 m x => Pre (off o + m ≤ l.length) (k (.arr8 n (splice l (off o) x)))
    | _ => False
  | .arr32 n l => match v with
    | .u32 x => Pre (off o < l.length) (k (.arr32 n (l.set (off o) x)))
    | .arr32 m x => Pre (off o + m ≤ l.length) (k (.arr32 n (splice l (off o) x)))
    | _ => False
  | .arr64 n l => match v with
    | .u64 x => Pre (off o < l.length) (k (.arr64 n (l.set (off o) x)))
    | .arr64 m x => Pre (off o + m ≤ l.length) (k (.arr64 n (splice l (off o) x)))
    | .agg vs => to64K vs fun x => Pre (off o + x.length ≤ l.length) (k (.arr64 n (splice l (off o) x)))
    | _ => False
  | .arri n l => match v with
    | .int x => Pre (off o < l.length) (k (.arri n (l.set (off o) x)))
    | .arri m x => Pre (off o + m ≤ l.length) (k (.arri n (splice l (off o) x)))
    | _ => False
  | .arrs n l => match v with
    | .str x => Pre (off o < l.length) (k (.arrs n (l.set (off o) x)))
    | _ => False
  | .tab n es f => match v with
    | .agg vs => toAtsK vs fun as => tabK o es fun i c => match c with
      | 0 => Pre (i < n ∧ as.length = es) (k (.tab n es (updF f i as)))
      | _ => False
    | v => toAtK v fun a => tabK o es fun i c => Pre (i < n) (setK (f i) c a fun r => k (.tab n es (updF f i r)))
  | .agg _ => False
  | .tup _ => False
  | _ => match o with
    | [] => match v.scalar with | true => k v | false => False
    | _ => False

def SV.plain (v : SV) : Bool := match v with | .agg _ => false | .tup _ => false | _ => true
def plainL : List SV → Bool
  | [] => true
  | v :: vs => match v.plain with | true => plainL vs | false => false

def storeK (ti : TyI) (ps : List SV) (j b : Nat) (o : List (Nat × Nat)) (v : SV) (k : List SV → Prop) : Prop :=
  splitK ps j b fun a r =>
    match o with
    | [] => match v.many with
      | true => takeK r ti.sz fun _ r' => flatK v fun fs => match Nat.beq (sizeL fs) ti.sz with | true => (match plainL fs with | true => appK fs r' fun q => appK a q k | false => False) | false => False
      | false => match Nat.beq ti.sz 1 with
        | true => match r with | p :: r' => writeK p [] v fun p' => appK a (p' :: r') k | [] => False
        | false => False
    | _ => match Nat.beq v.size ti.sz with
      | true => match r with | p :: r' => writeK p o v fun p' => appK a (p' :: r') k | [] => False
      | false => False

/-! ### numbers -/
def fits (n : Int) : Prop := -9223372036854775808 ≤ n ∧ n < 9223372036854775808
def ibits (op : BinOp) (a b : Int) : Int :=
  IntKind.i64.wrap (match op with
    | .and => ((BitVec.ofInt 64 a &&& BitVec.ofInt 64 b).toNat : Int)
    | .or => ((BitVec.ofInt 64 a ||| BitVec.ofInt 64 b).toNat : Int)
    | .xor => ((BitVec.ofInt 64 a ^^^ BitVec.ofInt 64 b).toNat : Int)
    | _ => ((BitVec.ofInt 64 a &&& ~~~(BitVec.ofInt 64 b)).toNat : Int))

def intK (op : BinOp) (a b : Int) (k : SV → Prop) : Prop :=
  match op with
  | .add => Pre (fits (a + b)) (k (.int (a + b)))
  | .sub => Pre (fits (a - b)) (k (.int (a - b)))
  | .mul => Pre (fits (a * b)) (k (.int (a * b)))
  | .quo => Pre (b ≠ 0 ∧ fits (a.tdiv b)) (k (.int (a.tdiv b)))
  | .rem => Pre (b ≠ 0) (k (.int (a.tmod b)))
  | .and => k (.int (ibits .and a b))
  | .or => k (.int (ibits .or a b))
  | .xor => k (.int (ibits .xor a b))
  | .andNot => k (.int (ibits .andNot a b))
  | .eql => k (.bool (decide (a = b)))
  | .neq => k (.bool (!decide (a = b)))
  | .lss => k (.bool (decide (a < b)))
  | .leq => k (.bool (decide (a ≤ b)))
  | .gtr => k (.bool (decide (a > b)))
  | .geq => k (.bool (decide (a ≥ b)))
  | _ => False

def cntK (y : SV) (k : Nat → Prop) : Prop :=
  match y with
  | .int n => Pre (0 ≤ n) (k n.toNat)
  | .u8 x => k x.toNat
  | .u16 x => k x.toNat
  | .u32 x => k x.toNat
  | .u64 x => k x.toNat
  | _ => False

def u8K (op : BinOp) (a b : UInt8) (k : SV → Prop) : Prop :=
  match op with
  | .add => k (.u8 (a + b))
  | .sub => k (.u8 (a - b))
  | .mul => k (.u8 (a * b))
  | .quo => Pre (b.toNat ≠ 0) (k (.u8 (a / b)))
  | .rem => Pre (b.toNat ≠ 0) (k (.u8 (a % b)))
  | .and => k (.u8 (a &&& b))
  | .or => k (.u8 (a ||| b))
  | .xor => k (.u8 (a ^^^ b))
  | .andNot => k (.u8 (a &&& ~~~b))
  | .eql => k (.bool (decide (a = b)))
  | .neq => k (.bool (!decide (a = b)))
  | .lss => k (.bool (decide (a < b)))
  | .leq => k (.bool (decide (a ≤ b)))
  | .gtr => k (.bool (decide (b < a)))
  | .geq => k (.bool (decide (b ≤ a)))
  | _ => False
def u16K (op : BinOp) (a b : UInt16) (k : SV → Prop) : Prop :=
  match op with
  | .add => k (.u16 (a + b))
  | .sub => k (.u16 (a - b))
  | .mul => k (.u16 (a * b))
  | .quo => Pre (b.toNat ≠ 0) (k (.u16 (a / b)))
  | .rem => Pre (b.toNat ≠ 0) (k (.u16 (a % b)))
  | .and => k (.u16 (a &&& b))
  | .or => k (.u16 (a ||| b))
  | .xor => k (.u16 (a ^^^ b))
  | .andNot => k (.u16 (a &&& ~~~b))
  | .eql => k (.bool (decide (a = b)))
  | .neq => k (.bool (!decide (a = b)))
  | .lss => k (.bool (decide (a < b)))
  | .leq => k (.bool (decide (a ≤ b)))
  | .gtr => k (.bool (decide (b < a)))
  | .geq => k (.bool (decide (b ≤ a)))
  | _ => False
def u32K (op : BinOp) (a b : UInt32) (k : SV → Prop) : Prop :=
  match op with
  | .add => k (.u32 (a + b))
  | .sub => k (.u32 (a - b))
  | .mul => k (.u32 (a * b))
  | .quo => Pre (b.toNat ≠ 0) (k (.u32 (a / b)))
  | .rem => Pre (b.toNat ≠ 0) (k (.u32 (a % b)))
  | .and => k (.u32 (a &&& b))
  | .or => k (.u32 (a ||| b))
  | .xor => k (.u32 (a ^^^ b))
  | .andNot => k (.u32 (a &&& ~~~b))
  | .eql => k (.bool (decide (a = b)))
  | .neq => k (.bool (!decide (a = b)))
  | .lss => k (.bool (decide (a < b)))
  | .leq => k (.bool (decide (a ≤ b)))
  | .gtr => k (.bool (decide (b < a)))
  | .geq => k (.bool (decide (b ≤ a)))
  | _ => False
def u64K (op : BinOp) (a b : UInt64) (k : SV → Prop) : Prop :=
  match op with
  | .add => k (.u64 (a + b))
  | .sub => k (.u64 (a - b))
  | .mul => k (.u64 (a * b))
  | .quo => Pre (b.toNat ≠ 0) (k (.u64 (a / b)))
  | .rem => Pre (b.toNat ≠ 0) (k (.u64 (a % b)))
  | .and => k (.u64 (a &&& b))
  | .or => k (.u64 (a ||| b))
  | .xor => k (.u64 (a ^^^ b))
  | .andNot => k (.u64 (a &&& ~~~b))
  | .eql => k (.bool (decide (a = b)))
  | .neq => k (.bool (!decide (a = b)))
  | .lss => k (.bool (decide (a < b)))
  | .leq => k (.bool (decide (a ≤ b)))
  | .gtr => k (.bool (decide (b < a)))
  | .geq => k (.bool (decide (b ≤ a)))
  | _ => False

def shlK (x y : SV) (k : SV → Prop) : Prop :=
  cntK y fun n => match x with
    | .int a => Pre (n < 64 ∧ fits (a * 2 ^ n)) (k (.int (a * 2 ^ n)))
    | .u8 a => Pre (n < 8) (k (.u8 (a <<< UInt8.ofNat n)))
    | .u16 a => Pre (n < 16) (k (.u16 (a <<< UInt16.ofNat n)))
    | .u32 a => Pre (n < 32) (k (.u32 (a <<< UInt32.ofNat n)))
    | .u64 a => Pre (n < 64) (k (.u64 (a <<< UInt64.ofNat n)))
    | _ => False
def shrK (x y : SV) (k : SV → Prop) : Prop :=
  cntK y fun n => match x with
    | .int a => Pre (n < 64) (k (.int (a / 2 ^ n)))
    | .u8 a => Pre (n < 8) (k (.u8 (a >>> UInt8.ofNat n)))
    | .u16 a => Pre (n < 16) (k (.u16 (a >>> UInt16.ofNat n)))
    | .u32 a => Pre (n < 32) (k (.u32 (a >>> UInt32.ofNat n)))
    | .u64 a => Pre (n < 64) (k (.u64 (a >>> UInt64.ofNat n)))
    | _ => False

def strK (op : BinOp) (a b : List UInt8) (k : SV → Prop) : Prop :=
  match op with
  | .add => Pre (a.length + b.length < 9223372036854775808) (k (.str (a ++ b)))
  | .eql => k (.bool (decide (a = b)))
  | .neq => k (.bool (!decide (a = b)))
  | _ => False

def binK (op : BinOp) (x y : SV) (k : SV → Prop) : Prop :=
  match op with
  | .shl => shlK x y k
  | .shr => shrK x y k
  | op => match x, y with
    | .int a, .int b => intK op a b k
    | .u8 a, .u8 b => u8K op a b k
    | .u16 a, .u16 b => u16K op a b k
    | .u32 a, .u32 b => u32K op a b k
    | .u64 a, .u64 b => u64K op a b k
    | .str a, .str b => strK op a b k
    | _, _ => False

def unK (op : UnOp) (x : SV) (k : SV → Prop) : Prop :=
  match op, x with
  | .not, .bool b => k (.bool (!b))
  | .neg, .int a => Pre (fits (0 - a)) (k (.int (0 - a)))
  | .neg, .u8 a => k (.u8 (0 - a))
  | .neg, .u16 a => k (.u16 (0 - a))
  | .neg, .u32 a => k (.u32 (0 - a))
  | .neg, .u64 a => k (.u64 (0 - a))
  | .xor, .u8 a => k (.u8 (~~~a))
  | .xor, .u16 a => k (.u16 (~~~a))
  | .xor, .u32 a => k (.u32 (~~~a))
  | .xor, .u64 a => k (.u64 (~~~a))
  | _, _ => False

def convIntK (d : IntKind) (x : SV) (k : SV → Prop) : Prop :=
  match d, x with
  | .i64, .int n => Pre (fits n) (k (.int n))
  | .i64, .u8 a => k (.int a.toNat)
  | .i64, .u16 a => k (.int a.toNat)
  | .i64, .u32 a => k (.int a.toNat)
  | .i64, .u64 a => Pre (a.toNat < 9223372036854775808) (k (.int a.toNat))
  | .u8, .int n => k (.u8 (UInt8.ofInt n))
  | .u8, .u8 a => k (.u8 a)
  | .u8, .u16 a => k (.u8 a.toUInt8)
  | .u8, .u32 a => k (.u8 a.toUInt8)
  | .u8, .u64 a => k (.u8 a.toUInt8)
  | .u16, .int n => k (.u16 (UInt16.ofInt n))
  | .u16, .u8 a => k (.u16 a.toUInt16)
  | .u16, .u16 a => k (.u16 a)
  | .u16, .u32 a => k (.u16 a.toUInt16)
  | .u16, .u64 a => k (.u16 a.toUInt16)
  | .u32, .int n => k (.u32 (UInt32.ofInt n))
  | .u32, .u8 a => k (.u32 a.toUInt32)
  | .u32, .u16 a => k (.u32 a.toUInt32)
  | .u32, .u32 a => k (.u32 a)
  | .u32, .u64 a => k (.u32 a.toUInt32)
  | .u64, .int n => k (.u64 (UInt64.ofInt n))
  | .u64, .u8 a => k (.u64 a.toUInt64)
  | .u64, .u16 a => k (.u64 a.toUInt64)
  | .u64, .u32 a => k (.u64 a.toUInt64)
  | .u64, .u64 a => k (.u64 a)
  | _, _ => False

end Go.Sym
