/-
  The symbolic engine, part 3: operations, calls, code. No program in sight; no condition.
-/
import Derived.Test.YtofhjelmgekofaaSymB
set_option linter.unusedSimpArgs false
set_option linter.unusedVariables false
namespace Go.Sym

/-- an index that is not below 0 -/
def idxK (v : SV) (k : Nat → Prop) : Prop :=
  match v with
  | .int n => Pre (0 ≤ n) (k n.toNat)
  | .u8 x => k x.toNat
  | .u16 x => k x.toNat
  | .u32 x => k x.toNat
  | .u64 x => k x.toNat
  | _ => False

def optIdxK (tm : List (Nat × SV)) (x : Option Operand) (k : Option Nat → Prop) : Prop :=
  match x with
  | none => k none
  | some x => evK tm x fun v => idxK v fun n => k (some n)

def partsVK (tm : List (Nat × SV)) : List (Nat × Operand) → (List (Nat × SV) → Prop) → Prop
  | [], k => k []
  | (i, x) :: r, k => evK tm x fun v => partsVK tm r fun l => k ((i, v) :: l)

def partsK (hp : List Blk) (k : Nat) (K : TypeId → List SV → Prop) : Prop :=
  nthK hp k fun b => match b with | .mk el ps => K el ps | .dead => False

def allocK (hp : List Blk) (b : Blk) (K : Nat → List Blk → Prop) : Prop :=
  lenK hp fun n => snocK hp b fun hp' => K n hp'

/-- a slice's part: the row that it lies in -/
def rowK (hp : List Blk) (k j b : Nat) (K : SV → Prop) : Prop :=
  partsK hp k fun _ ps => splitK ps j b fun _ r => match r with | p :: _ => K p | [] => False

/-- a slice's bytes (of a string: its bytes) -/
def bytesK (hp : List Blk) (v : SV) (K : List UInt8 → Prop) : Prop :=
  match v with
  | .str l => K l
  | .nilsl => K []
  | .sl k j b o n _ => rowK hp k j b fun p => match p with
    | .arr8 _ l => Pre (off o + n ≤ l.length) (K ((l.drop (off o)).take n))
    | _ => False
  | _ => False

/-! ### equality -/
/-- the field at cell c of a value's parts -/
def fieldK (fi : TyI) (ps : List SV) (c : Nat) (k : SV → Prop) : Prop :=
  match c with
  | 0 => loadK fi ps 0 0 [] k
  | c + 1 => walkK ps 0 0 (c + 1) fun j b o => loadK fi ps j b o k

mutual
def eqK (Γ : Ctx) : Nat → TypeId → SV → SV → (Bool → Prop) → Prop
  | 0, _, _, _, _ => False
  | f + 1, t, x, y, k => lookK Γ.ty t fun ti => match ti.d with
    | .int .i64 => match x, y with | .int a, .int b => k (decide (a = b)) | _, _ => False
    | .int .u8 => match x, y with | .u8 a, .u8 b => k (decide (a = b)) | _, _ => False
    | .int .u16 => match x, y with | .u16 a, .u16 b => k (decide (a = b)) | _, _ => False
    | .int .u32 => match x, y with | .u32 a, .u32 b => k (decide (a = b)) | _, _ => False
    | .int .u64 => match x, y with | .u64 a, .u64 b => k (decide (a = b)) | _, _ => False
    | .bool => match x, y with | .bool a, .bool b => k (a == b) | _, _ => False
    | .str => match x, y with | .str a, .str b => k (decide (a = b)) | _, _ => False
    | .ptr => match x, y with | .nilptr, .nilptr => k true | .nilptr, .ptr .. => k false | .ptr .., .nilptr => k false | _, _ => False
    | .sl _ => match x, y with | .nilsl, .nilsl => k true | .nilsl, .sl .. => k false | .sl .., .nilsl => k false | _, _ => False
    | .func => match x, y with | .nilfn, .nilfn => k true | .nilfn, .func .. => k false | .func .., .nilfn => k false | _, _ => False
    | .arr n e => lookK Γ.ty e fun ei => match ei.d with
      | .int .u64 => match x, y with | .arr64 m a, .arr64 m' b => (match Nat.beq m n with | true => (match Nat.beq m' n with | true => k (decide (a = b)) | false => False) | false => False) | _, _ => False
      | .int .u32 => match x, y with | .arr32 m a, .arr32 m' b => (match Nat.beq m n with | true => (match Nat.beq m' n with | true => k (decide (a = b)) | false => False) | false => False) | _, _ => False
      | .int .u8 => match x, y with | .arr8 m a, .arr8 m' b => (match Nat.beq m n with | true => (match Nat.beq m' n with | true => k (decide (a = b)) | false => False) | false => False) | _, _ => False
      | .int .i64 => match x, y with | .arri m a, .arri m' b => (match Nat.beq m n with | true => (match Nat.beq m' n with | true => k (decide (a = b)) | false => False) | false => False) | _, _ => False
      | _ => False
    | .struct fs => match ti.eqOk with
      | true => match x.many with
        | true => match y.many with
          | true => flatK x fun xs => flatK y fun ys => eqLK Γ f fs xs ys k
          | false => False
        | false => False
      | false => False
    | _ => False
def eqLK (Γ : Ctx) : Nat → List (Nat × TypeId) → List SV → List SV → (Bool → Prop) → Prop
  | 0, _, _, _, _ => False
  | _ + 1, [], _, _, k => k true
  | f + 1, (c, t) :: fs, xs, ys, k => lookK Γ.ty t fun ti => fieldK ti xs c fun a => fieldK ti ys c fun b =>
      eqK Γ f t a b fun r => eqLK Γ f fs xs ys fun r' => k (r && r')
end

def binTK (Γ : Ctx) (op : BinOp) (t : TypeId) (x y : SV) (k : SV → Prop) : Prop :=
  match x with
  | .int _ | .u8 _ | .u16 _ | .u32 _ | .u64 _ | .str _ => binK op x y k
  | _ =>
    let go (k : Bool → Prop) : Prop := match x.many with
      | true => lookK Γ.ty t fun ti => match ti.eqOk with | true => eqK Γ 60 t x y k | false => False
      | false => eqK Γ 60 t x y k
    match op with
    | .eql => go fun r => k (.bool r)
    | .neq => go fun r => k (.bool (!r))
    | _ => False

/-! ### slicing -/
def slStrK (l : List UInt8) (lo hi : Option Nat) (K : SV → Prop) : Prop :=
  match lo, hi with
  | none, none => K (.str l)
  | none, some h => Pre (h ≤ l.length) (K (.str (l.take h)))
  | some a, none => Pre (a ≤ l.length) (K (.str (l.drop a)))
  | some a, some h => Pre (a ≤ h ∧ h ≤ l.length) (K (.str ((l.drop a).take (h - a))))

/-- the offset of a slice from a on, whose room ends at m: nothing is left of it where m is a -/
def slO (m a : Nat) : Nat := if m = a then 0 else a
attribute [irreducible] slO

/-- of memory with room for c elements of es cells, n of which count -/
def slMemK (k j b : Nat) (o : List (Nat × Nat)) (n c es : Nat) (lo hi mx : Option Nat) (K : SV → Prop) : Prop :=
  let go (m h : Nat) : Prop := match lo with
    | none => K (.sl k j b o h m)
    | some a => Pre (a ≤ h) (K (.sl k j b (addO o (slO m a) es) (h - a) (m - a)))
  match hi, mx with
  | none, none => go c n
  | some h, none => Pre (h ≤ c) (go c h)
  | some h, some m => Pre (h ≤ m ∧ m ≤ c) (go m h)
  | none, some _ => False

def zeroO (x : Option Nat) : Prop := match x with | none => True | some n => n = 0

def sliceK (Γ : Ctx) (t : TypeId) (x : SV) (lo hi mx : Option Nat) (K : SV → Prop) : Prop :=
  match x with
  | .str l => lookK Γ.ty t fun ti => match ti.d with
    | .str => match mx with | none => slStrK l lo hi K | some _ => False
    | _ => False
  | .nilsl => lookK Γ.ty t fun ti => match ti.d with
    | .sl e => lookK Γ.ty e fun _ => match hi, mx with | none, some _ => False | _, _ => Pre (zeroO lo ∧ zeroO hi ∧ zeroO mx) (K .nilsl)
    | _ => False
  | .sl k j b o n c => lookK Γ.ty t fun ti => match ti.d with
    | .sl e => lookK Γ.ty e fun ei => slMemK k j b o n c ei.sz lo hi mx K
    | _ => False
  | .ptr k j b o => lookK Γ.ty t fun ti => match ti.d with
    | .arr n e => lookK Γ.ty e fun ei => slMemK k j b o n n ei.sz lo hi mx K
    | _ => False
  | _ => False

/-! ### make, build, convert, append, copy -/
/-- n equal parts, written out -/
def repK (z : SV) : Nat → (List SV → Prop) → Prop
  | 0, k => k []
  | n + 1, k => repK z n fun l => k (z :: l)

/-- the parts of so many elements, each its type's zero -/
def madeK (z : SV) (c : Nat) (K : List SV → Prop) : Prop :=
  match z with
  | .u8 x => K [.arr8 c (List.replicate c x)]
  | .u32 x => K [.arr32 c (List.replicate c x)]
  | .u64 x => K [.arr64 c (List.replicate c x)]
  | .int x => K [.arri c (List.replicate c x)]
  | .str x => K [.arrs c (List.replicate c x)]
  | .bool x => K [.tab c 1 fun _ => [.bool x]]
  | .arr8 m (x :: l) => Pre (x :: l = List.replicate m x) (K [.arr8 (c * m) (List.replicate (c * m) x)])
  | .agg ps => toAtsK ps fun as => match as with | [] => False | a :: r => K [.tab c (r.length + 1) fun _ => a :: r]
  | .nilsl => repK .nilsl c K
  | .nilptr => repK .nilptr c K
  | .nilif => repK .nilif c K
  | .nilfn => repK .nilfn c K
  | _ => False

def makeK (Γ : Ctx) (t : TypeId) (hp : List Blk) (n c : Nat) (K : SV → List Blk → Prop) : Prop :=
  lookK Γ.ty t fun ti => match ti.d with
    | .sl e => lookK Γ.ty e fun ei => Pre (n ≤ c ∧ ei.bytes * c ≤ 281474976710656 ∧ c < 9223372036854775808)
        (madeK ei.zero c fun ps => allocK hp (.mk e ps) fun q hp' => K (.sl q 0 0 [] n c) hp')
    | _ => False

/-- element i of a row of elements, written -/
def putElemK (ei : TyI) (ps : List SV) (i : Nat) (v : SV) (k : List SV → Prop) : Prop :=
  let walk : Prop := walkK ps 0 0 (i * ei.sz) fun j b o => storeK ei ps j b o v k
  match ps with
  | [p] => match p.isRow with | true => storeK ei ps 0 0 [(i, ei.sz)] v k | false => walk
  | _ => walk

def putElemsK (ei : TyI) : List SV → List (Nat × SV) → (List SV → Prop) → Prop
  | ps, [], k => k ps
  | ps, (i, v) :: r, k => putElemK ei ps i v fun ps' => putElemsK ei ps' r k

def putFieldsK (Γ : Ctx) (fs : List (Nat × TypeId)) : List SV → List (Nat × SV) → (List SV → Prop) → Prop
  | ps, [], k => k ps
  | ps, (i, v) :: r, k => nthK fs i fun ft => lookK Γ.ty ft.2 fun fi => walkK ps 0 0 ft.1 fun j b o => storeK fi ps j b o v fun ps' => putFieldsK Γ fs ps' r k

def convK (Γ : Ctx) (src dst : TypeId) (x : SV) (hp : List Blk) (K : SV → List Blk → Prop) : Prop :=
  lookK Γ.ty src fun si => lookK Γ.ty dst fun di => match di.d with
    | .int d => convIntK d x fun v => K v hp
    | .str => match x with
      | .str l => K (.str l) hp
      | .nilsl => match si.d with
        | .sl e => lookK Γ.ty e fun ei => match ei.d with
          | .int .u8 => K (.str []) hp
          | _ => False
        | _ => False
      | .sl .. => match si.d with
        | .sl e => lookK Γ.ty e fun ei => match ei.d with
          | .int .u8 => bytesK hp x fun l => K (.str l) hp
          | _ => False
        | _ => False
      | _ => False
    | .sl e => match x with
      | .str l => lookK Γ.ty e fun ei => match ei.d with
        | .int .u8 => AllVC fun tail : List UInt8 => allocK hp (.mk e [.arr8 (l.length + tail.length) (l ++ tail)]) fun q hp' => K (.sl q 0 0 [] l.length (l.length + tail.length)) hp'
        | _ => False
      | _ => False
    | _ => False

/-- Go's copy of bytes -/
def copyK (Γ : Ctx) (t : TypeId) (dst src : SV) (hp : List Blk) (K : SV → List Blk → Prop) : Prop :=
  lookK Γ.ty t fun ti => match ti.d with
    | .sl e => lookK Γ.ty e fun ei => match Nat.beq ei.sz 1 with
      | true => bytesK hp src fun s => match dst with
        | .nilsl => K (.int 0) hp
        | .sl k j b o n _ => partsK hp k fun el ps => splitK ps j b fun a r => match r with
          | .arr8 w l :: r' => Pre (off o + min s.length n ≤ l.length) (appK a (.arr8 w (splice l (off o) (s.take (min s.length n))) :: r') fun ps' => setK hp k (.mk el ps') fun hp' => K (.int (min s.length n : Nat)) hp')
          | _ => False
        | _ => False
      | false => False
    | _ => False

def appBodyK (Γ : Ctx) (e : TypeId) (s x : SV) (hp : List Blk) (K : SV → List Blk → Prop) : Prop :=
  lookK Γ.ty e fun ei => match ei.zero with
    | .u8 _ => match Nat.beq ei.bytes 1 with
      | true => bytesK hp x fun new => match s with
        | .nilsl => CondVC (decide (new.length = 0)) (K .nilsl hp) (Pre (new.length ≤ 140737488355328)
            (AllVC fun tail : List UInt8 => allocK hp (.mk e [.arr8 (new.length + tail.length) (new ++ tail)]) fun q hp2 =>
              K (.sl q 0 0 [] new.length (new.length + tail.length)) hp2))
        | .sl k 0 0 [] n c => partsK hp k fun _ ps => match ps with
          | [.arr8 _ l] => Pre (n ≤ c ∧ c = l.length ∧ n + new.length ≤ 140737488355328)
              (AllVC fun tail : List UInt8 => setK hp k .dead fun hp1 => snocK hp1 (.mk e [.arr8 (n + new.length + tail.length) (l.take n ++ new ++ tail)]) fun hp2 => lenK hp fun q =>
                K (.sl q 0 0 [] (n + new.length) (n + new.length + tail.length)) hp2)
          | _ => False
        | _ => False
      | false => False
    | _ => False

def appendK (Γ : Ctx) (t u : TypeId) (s x : SV) (hp : List Blk) (K : SV → List Blk → Prop) : Prop :=
  lookK Γ.ty t fun ti => lookK Γ.ty u fun ui => match ti.d with
    | .sl e => match ui.d with
      | .str => appBodyK Γ e s x hp K
      | .sl _ => appBodyK Γ e s x hp K
      | _ => False
    | _ => False

/-- all of a struct's field types are known -/
def knownK (Γ : Ctx) : List (Nat × TypeId) → Prop → Prop
  | [], K => K
  | (_, t) :: fs, K => lookK Γ.ty t fun _ => knownK Γ fs K

def buildK (Γ : Ctx) (t : TypeId) (given : List (Nat × SV)) (K : SV → Prop) : Prop :=
  lookK Γ.ty t fun ti => match ti.zero.many with
    | true => flatK ti.zero fun zs => match ti.d with
      | .struct fs => knownK Γ fs (putFieldsK Γ fs zs given fun ps => K (.agg ps))
      | .arr _ e => lookK Γ.ty e fun ei => putElemsK ei zs given fun ps => packK ps K
      | _ => False
    | false => False

def buildSliceK (Γ : Ctx) (t : TypeId) (hp : List Blk) (n : Nat) (given : List (Nat × SV)) (K : SV → List Blk → Prop) : Prop :=
  lookK Γ.ty t fun ti => match ti.d with
    | .sl e => lookK Γ.ty e fun ei => Pre (n * ei.sz ≤ 16777216) (madeK ei.zero n fun zs => putElemsK ei zs given fun ps => allocK hp (.mk e ps) fun q hp' => K (.sl q 0 0 [] n n) hp')
    | _ => False

/-! ### calls -/
def elemB : List Nat → Nat → Bool
  | [], _ => false
  | x :: xs, n => match Nat.beq x n with | true => true | false => elemB xs n
/-- the place of n in a list (its length, if it is not there) -/
def idxOf : List Nat → Nat → Nat
  | [], _ => 0
  | x :: xs, n => match Nat.beq x n with | true => 0 | false => idxOf xs n + 1
def fwd : List Nat → Nat → Nat → Nat
  | [], n, i => n + i
  | x :: _, _, 0 => x
  | _ :: xs, n, i + 1 => fwd xs n i
def nodupB : List Nat → Bool
  | [] => true
  | x :: xs => match elemB xs x with | true => false | false => nodupB xs

def reachK (hp : List Blk) : Nat → List Nat → List Nat → (List Nat → Prop) → Prop
  | 0, _, _, _ => False
  | _ + 1, [], seen, K => K seen
  | f + 1, k :: todo, seen, K => match elemB seen k with
    | true => reachK hp f todo seen K
    | false => nthK hp k fun b => match b with
      | .mk _ ps => snocK seen k fun seen' => appK (ksL ps) todo fun todo' => reachK hp f todo' seen' K
      | .dead => snocK seen k fun seen' => reachK hp f todo seen' K

def subHeapK (hp : List Blk) (g : Nat → Nat) (ι0 : List Nat) : List Nat → (List Blk → Prop) → Prop
  | [], K => K []
  | i :: is, K => nthK hp i fun b => match b with
    | .mk el ps => match allL (elemB ι0) ps with
      | true => subHeapK hp g ι0 is fun l => K (.mk el (renL g ps) :: l)
      | false => False
    | .dead => subHeapK hp g ι0 is fun l => K (.dead :: l)

/-- the caller's blocks behind the call -/
def backK (g : Nat → Nat) : List Nat → List Blk → List Blk → (List Blk → Prop) → Prop
  | [], new, hp, K => newK new hp K
  | i :: is, b :: bs, hp, K => setK hp i (b.ren g) fun hp' => backK g is bs hp' K
  | _ :: _, [], _, _ => False
where newK : List Blk → List Blk → (List Blk → Prop) → Prop
  | [], hp, K => K hp
  | b :: bs, hp, K => snocK hp (b.ren g) fun hp' => newK bs hp' K

def callK (S : Spec) (args : List SV) (hp : List Blk) (K : SV → List Blk → Prop) : Prop :=
  match ksL args with
  | [] => S args [] fun r h' => match h' with
    | [] => match ksL [r] with | [] => K r hp | _ => False
    | _ => lenK hp fun n => backK (fun i => n + i) [] h' hp fun hp' => K (r.ren fun i => n + i) hp'
  | _ => reachK hp 200 (ksL args) [] fun ι => match nodupB ι with
    | true => match allL (elemB ι) args with
      | true => subHeapK hp (idxOf ι) ι ι fun h => S (renL (idxOf ι) args) h fun r h' => lenK hp fun n => backK (fwd ι n) ι h' hp fun hp' => K (r.ren (fwd ι n)) hp'
      | false => False
    | false => False

/-! ### operations -/
/-- operations that only reckon: no memory is read -/
def pureK (Γ : Ctx) (op : Op) (tm : List (Nat × SV)) (put : SV → Prop) : Prop :=
  match op with
  | .move x | .assign x => evK tm x put
  | .pick c a b => evK tm c fun cv => evK tm a fun av => evK tm b fun bv => match cv with
    | .bool t => CondVC t (put av) (put bv)
    | _ => False
  | .build t ps => partsVK tm ps.toList fun given => buildK Γ t given put
  | .nilCheck x => evK tm x fun v => match v with
    | .ptr .. => put v
    | .xptr _ => put v
    | .func .. => put v
    | _ => False
  | .binOp op t x y _ => evK tm x fun a => evK tm y fun b => binTK Γ op t a b put
  | .unOp op _ x => evK tm x fun a => unK op a put
  | .slice t x lo hi mx => evK tm x fun v => optIdxK tm lo fun lo => optIdxK tm hi fun hi => optIdxK tm mx fun mx => sliceK Γ t v lo hi mx put
  | .field s x f => lookK Γ.ty s fun si => match si.d with
    | .struct fs => nthK fs f fun ft => lookK Γ.ty ft.2 fun fi => evK tm x fun v => match v.many with | true => flatK v fun ps => fieldK fi ps ft.1 put | false => False
    | _ => False
  | .indexAddr t x i => lookK Γ.ty t fun ti => evK tm x fun v => evK tm i fun iv => idxK iv fun ix => match ti.d with
    | .arr n e => lookK Γ.ty e fun ei => match v with
      | .ptr k j b oo => Pre (ix < n) (put (.ptr k j b (addO oo ix ei.sz)))
      | _ => False
    | .sl e => lookK Γ.ty e fun ei => match v with
      | .sl k j b oo n _ => Pre (ix < n) (put (.ptr k j b (addO oo ix ei.sz)))
      | .xsl a n _ => Pre (ix < n) (put (.xptr ((a.getD ⟨0, 0, none⟩).add (ix * ei.sz))))
      | _ => False
    | _ => False
  | .index t x i => lookK Γ.ty t fun ti => evK tm x fun v => evK tm i fun iv => idxK iv fun ix => match v with
    | .str l => match ti.d with
      | .str => Pre (ix < l.length) (put (.u8 (l.getD ix 0)))
      | _ => False
    | v => match ti.d with
      | .arr n e => lookK Γ.ty e fun ei => match v.many with
        | true => Pre (ix < n) (loadK ei [v] 0 0 [(ix, ei.sz)] put)
        | false => False
      | _ => False
  | .extract x i => evK tm x fun v => match v with
    | .tup vs => nthK vs i put
    | _ => False
  | .convert s d x => lookK Γ.ty s fun _ => lookK Γ.ty d fun di => match di.d with
    | .int k => evK tm x fun v => convIntK k v put
    | _ => False
  | .call c => evsK tm c.args.toList fun args => match c.callee with
    | .builtin .len => match c.argTypes.toList with
      | [t] => lookK Γ.ty t fun ti => match ti.d with
        | .str => match args with
          | [.str l] => put (.int l.length)
          | _ => False
        | .sl _ => match args with
          | [.sl _ _ _ _ n _] => put (.int n)
          | [.nilsl] => put (.int 0)
          | [.xsl _ n _] => put (.int n)
          | _ => False
        | .arr n _ => match args with
          | [_] => put (.int n)
          | _ => False
        | _ => False
      | _ => False
    | .builtin .min => match args with
      | [.int a, .int b] => put (.int (min a b))
      | [.int a, .int b, .int c] => put (.int (min (min a b) c))
      | _ => False
    | .builtin .max => match args with
      | [.int a, .int b] => put (.int (max a b))
      | [.int a, .int b, .int c] => put (.int (max (max a b) c))
      | _ => False
    | _ => False
  | _ => False

/-- operations that read memory, and turn none -/
def readK (Γ : Ctx) (op : Op) (tm : List (Nat × SV)) (hp : List Blk) (put : SV → Prop) : Prop :=
  match op with
  | .load t x => lookK Γ.ty t fun ti => evK tm x fun v => match v with
    | .ptr k j b oo => partsK hp k fun _ ps => loadK ti ps j b oo put
    | .xptr a => ExtVC (Γ.ext a t) put
    | _ => False
  | .fieldAddr s x f => lookK Γ.ty s fun si => match si.d with
    | .struct fs => nthK fs f fun ft => lookK Γ.ty ft.2 fun fi => match fi.sz with
      | 0 => False
      | _ + 1 => evK tm x fun v => match v with
        | .ptr k j b oo => match ft.1 with
          | 0 => put (.ptr k j b oo)
          | c + 1 => match oo with
            | [] => partsK hp k fun _ ps => splitK ps j b fun _ r => walkK r j b (c + 1) fun j' b' o' => put (.ptr k j' b' o')
            | _ => put (.ptr k j b (addO oo (c + 1) 1))
        | .xptr a => put (.xptr (a.add ft.1))
        | _ => False
    | _ => False
  | .convert s d x => lookK Γ.ty s fun si => lookK Γ.ty d fun di => match di.d with
    | .str => evK tm x fun v => match v with
      | .str l => put (.str l)
      | .nilsl => match si.d with
        | .sl e => lookK Γ.ty e fun ei => match ei.d with
          | .int .u8 => put (.str [])
          | _ => False
        | _ => False
      | .sl .. => match si.d with
        | .sl e => lookK Γ.ty e fun ei => match ei.d with
          | .int .u8 => bytesK hp v fun l => put (.str l)
          | _ => False
        | _ => False
      | _ => False
    | _ => False
  | _ => False

/-- operations that make memory, out of nothing but their operands; n: the new block's number -/
def makerK (Γ : Ctx) (op : Op) (tm : List (Nat × SV)) (n : Nat) (put : SV → Blk → Prop) : Prop :=
  match op with
  | .alloc t => lookK Γ.ty t fun ti => flatK ti.zero fun ps => put (.ptr n 0 0 []) (.mk t ps)
  | .box t x => evK tm x fun v => flatK v fun ps => put (.ptr n 0 0 []) (.mk t ps)
  | .buildSlice t m ps => partsVK tm ps.toList fun given => lookK Γ.ty t fun ti => match ti.d with
    | .sl e => lookK Γ.ty e fun ei => Pre (m * ei.sz ≤ 16777216) (madeK ei.zero m fun zs => putElemsK ei zs given fun ps => put (.sl n 0 0 [] m m) (.mk e ps))
    | _ => False
  | .makeSlice t l c => evK tm l fun lv => evK tm c fun cv => idxK lv fun l => idxK cv fun c => lookK Γ.ty t fun ti => match ti.d with
    | .sl e => lookK Γ.ty e fun ei => Pre (l ≤ c ∧ ei.bytes * c ≤ 281474976710656 ∧ c < 9223372036854775808) (madeK ei.zero c fun ps => put (.sl n 0 0 [] l c) (.mk e ps))
    | _ => False
  | _ => False

/-- the rest: what writes memory, calls, makes memory of a size that is drawn; skip: what yields nothing -/
def anchorK (Γ : Ctx) (op : Op) (tm : List (Nat × SV)) (hp : List Blk) (put : SV → List Blk → Prop) (skip : List Blk → Prop) : Prop :=
  match op with
  | .store t x y => lookK Γ.ty t fun ti => evK tm x fun v => evK tm y fun u => match v with
    | .ptr k j b oo => partsK hp k fun el ps => storeK ti ps j b oo u fun ps' => setK hp k (.mk el ps') skip
    | _ => False
  | .convert s d x => evK tm x fun a => convK Γ s d a hp put
  | .call c => evsK tm c.args.toList fun args => match c.callee with
    | .value f => evK tm f fun fv => match fv with
      | .func fi caps => lookK Γ.fn fi fun S => appK args caps fun all => callK S all hp put
      | _ => False
    | .builtin .copy => match args with
      | [d, s] => match c.argTypes.toList with
        | t :: _ => copyK Γ t d s hp put
        | [] => False
      | _ => False
    | .builtin .append => match args with
      | [s, x] => match c.argTypes.toList with
        | [t, u] => appendK Γ t u s x hp put
        | _ => False
      | _ => False
    | _ => False
  | _ => False

inductive Kind where
  | pure | read | maker | anchor
  deriving DecidableEq

def isInt : Option TyI → Bool
  | some ⟨.int _, _, _, _, _⟩ => true
  | _ => false
def isStr : Option TyI → Bool
  | some ⟨.str, _, _, _, _⟩ => true
  | _ => false
def find {α : Type} : List (Nat × α) → Nat → Option α
  | [], _ => none
  | (i, v) :: r, n => match Nat.beq i n with | true => some v | false => find r n

/-- which of the four -/
def kindOf (Γ : Ctx) (op : Op) : Kind :=
  match op with
  | .load .. | .fieldAddr .. => .read
  | .alloc _ | .box .. | .buildSlice .. | .makeSlice .. => .maker
  | .store .. => .anchor
  | .convert _ d _ => match isInt (find Γ.ty d) with
    | true => .pure
    | false => match isStr (find Γ.ty d) with | true => .read | false => .anchor
  | .call c => match c.callee with
    | .builtin .len | .builtin .min | .builtin .max => .pure
    | _ => .anchor
  | _ => .pure

def vcOp (Γ : Ctx) (o : Oper) (tm : List (Nat × SV)) (hp : List Blk) (K : St → Prop) : Prop :=
  match kindOf Γ o.op with
  | .pure => pureK Γ o.op tm fun v => putK Γ.nt tm hp o.dst v K
  | .read => readK Γ o.op tm hp fun v => putK Γ.nt tm hp o.dst v K
  | .maker => lenK hp fun n => makerK Γ o.op tm n fun v b => snocK hp b fun hp' => putK Γ.nt tm hp' o.dst v K
  | .anchor => anchorK Γ o.op tm hp (fun v hp' => putK Γ.nt tm hp' o.dst v K) fun hp' => match o.dst with
    | none => K ⟨tm, hp'⟩
    | some _ => False

/-- an operation under its guard: what a guard forbids yields nothing -/
def vcG (Γ : Ctx) (ops : List Oper) (o : Oper) (tm : List (Nat × SV)) (hp : List Blk) (K : St → Prop) : Prop :=
  match o.guard with
  | none => vcOp Γ o tm hp K
  | some (j, want) => nthK ops j fun g => match g.dst with
    | some d => lookK tm d fun v => match v with
      | .bool t => CondVC (t == want) (vcOp Γ o tm hp K) (putK Γ.nt tm hp o.dst (.tup []) K)
      | _ => False
    | none => False

def vcOps (Γ : Ctx) (all : List Oper) : List Oper → St → (St → Prop) → Prop
  | [], st, K => K st
  | o :: os, st, K => match st with | ⟨tm, hp⟩ => vcG Γ all o tm hp fun st' => vcOps Γ all os st' K

end Go.Sym
