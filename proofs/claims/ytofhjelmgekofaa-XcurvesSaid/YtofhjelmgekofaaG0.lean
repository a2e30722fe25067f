/-
  Contracts of functions of the program, each said of symbolic values, and plain laws; no condition beyond each statement's own.
-/
import GoSem.Dispatch
import GoSem.Core.Code
import Derived.Calls
import Derived.Orders
import Derived.Laws.Cells
import Derived.Laws.Strings
import Derived.Laws.Entries
set_option linter.unusedSimpArgs false
set_option linter.unusedVariables false
/-
  The symbolic engine, part 1: symbolic values, blocks, states, and their meaning in the model's memory. No program in sight; no condition.
-/
namespace Go.Sym

/-- a datum without a pointer -/
inductive At where
  | bool (b : Bool)
  | int (n : Int)
  | u8 (x : UInt8)
  | u16 (x : UInt16)
  | u32 (x : UInt32)
  | u64 (x : UInt64)
  | str (l : List UInt8)
  deriving Inhabited

/-- A symbolic value. Leaves are Lean terms; pointers name a symbolic block (k), a part of it (j), the cell where that part begins (b), and offsets within the part (o: so many times so many cells). -/
inductive SV where
  | bool (b : Bool)
  | int (n : Int)
  | u8 (x : UInt8)
  | u16 (x : UInt16)
  | u32 (x : UInt32)
  | u64 (x : UInt64)
  | str (l : List UInt8)
  | ptr (k j b : Nat) (o : List (Nat × Nat))
  | nilptr
  | sl (k j b : Nat) (o : List (Nat × Nat)) (n c : Nat)
  | nilsl
  | func (f : FuncId) (caps : List SV)
  | nilfn
  | nilif
  | iface (t : TypeId) (v : SV)
  | arr8 (n : Nat) (l : List UInt8)
  | arr32 (n : Nat) (l : List UInt32)
  | arr64 (n : Nat) (l : List UInt64)
  | arri (n : Nat) (l : List Int)
  | arrs (n : Nat) (l : List (List UInt8))
  | tab (n es : Nat) (f : Nat → List At)
  | agg (ps : List SV)
  | tup (vs : List SV)
  | xptr (a : Addr)
  | xsl (a : Option Addr) (n c : Nat)
  deriving Inhabited

inductive Blk where
  | mk (el : TypeId) (ps : List SV)
  | dead
  deriving Inhabited

structure St where
  tm : List (Nat × SV)
  hp : List Blk

def offE (x : Nat × Nat) : Nat := match x with | (i, 1) => i | (i, e) => i * e
/-- the sum of offsets -/
def off : List (Nat × Nat) → Nat
  | [] => 0
  | [x] => offE x
  | x :: y :: r => offE x + off (y :: r)

theorem offE_eq (x : Nat × Nat) : offE x = x.1 * x.2 := by
  obtain ⟨i, e⟩ := x
  unfold offE
  split
  · rename_i h; cases h; simp
  · rename_i h; cases h; rfl
theorem off_cons (x : Nat × Nat) (r : List (Nat × Nat)) : off (x :: r) = x.1 * x.2 + off r := by
  cases r with
  | nil => simp [off, offE_eq]
  | cons y r => simp [off, offE_eq]
theorem off_append (a b : List (Nat × Nat)) : off (a ++ b) = off a + off b := by
  induction a with
  | nil => simp [off]
  | cons x r ih => rw [List.cons_append, off_cons, off_cons, ih]; omega

def At.val : At → Value
  | .bool b => .bool b
  | .int n => .int .i64 n
  | .u8 x => .int .u8 (x.toNat : Int)
  | .u16 x => .int .u16 (x.toNat : Int)
  | .u32 x => .int .u32 (x.toNat : Int)
  | .u64 x => .int .u64 (x.toNat : Int)
  | .str l => .string ⟨l.toArray⟩

def At.sv : At → SV
  | .bool b => .bool b
  | .int n => .int n
  | .u8 x => .u8 x
  | .u16 x => .u16 x
  | .u32 x => .u32 x
  | .u64 x => .u64 x
  | .str l => .str l

def c8 (l : List UInt8) : List Value := l.map fun x => .int .u8 (x.toNat : Int)
def c32 (l : List UInt32) : List Value := l.map fun x => .int .u32 (x.toNat : Int)
def c64 (l : List UInt64) : List Value := l.map fun x => .int .u64 (x.toNat : Int)
def ci (l : List Int) : List Value := l.map fun x => .int .i64 x
def cs (l : List (List UInt8)) : List Value := l.map fun x => .string ⟨x.toArray⟩
def ctab (n : Nat) (f : Nat → List At) : List Value := (List.range n).flatMap fun i => (f i).map At.val

mutual
/-- the value's cells -/
def SV.cells (ρ : Nat → Nat) : SV → List Value
  | .bool b => [.bool b]
  | .int n => [.int .i64 n]
  | .u8 x => [.int .u8 (x.toNat : Int)]
  | .u16 x => [.int .u16 (x.toNat : Int)]
  | .u32 x => [.int .u32 (x.toNat : Int)]
  | .u64 x => [.int .u64 (x.toNat : Int)]
  | .str l => [.string ⟨l.toArray⟩]
  | .ptr k _ b o => [.pointer (some ⟨ρ k, b + off o, none⟩)]
  | .nilptr => [.pointer none]
  | .sl k _ b o n c => [.slice (some ⟨ρ k, b + off o, none⟩) n c]
  | .nilsl => [.slice none 0 0]
  | .func f caps => [.func (.func f) #[] (denL ρ caps).toArray]
  | .nilfn => [.nilFunc]
  | .nilif => [.nilIface]
  | .iface t v => [.iface t (v.den ρ)]
  | .arr8 _ l => c8 l
  | .arr32 _ l => c32 l
  | .arr64 _ l => c64 l
  | .arri _ l => ci l
  | .arrs _ l => cs l
  | .tab n _ f => ctab n f
  | .agg ps => cellsL ρ ps
  | .tup vs => [.tuple (denL ρ vs).toArray]
  | .xptr a => [.pointer (some a)]
  | .xsl a n c => [.slice a n c]
def cellsL (ρ : Nat → Nat) : List SV → List Value
  | [] => []
  | v :: vs => v.cells ρ ++ cellsL ρ vs
/-- the value itself -/
def SV.den (ρ : Nat → Nat) : SV → Value
  | .bool b => .bool b
  | .int n => .int .i64 n
  | .u8 x => .int .u8 (x.toNat : Int)
  | .u16 x => .int .u16 (x.toNat : Int)
  | .u32 x => .int .u32 (x.toNat : Int)
  | .u64 x => .int .u64 (x.toNat : Int)
  | .str l => .string ⟨l.toArray⟩
  | .ptr k _ b o => .pointer (some ⟨ρ k, b + off o, none⟩)
  | .nilptr => .pointer none
  | .sl k _ b o n c => .slice (some ⟨ρ k, b + off o, none⟩) n c
  | .nilsl => .slice none 0 0
  | .func f caps => .func (.func f) #[] (denL ρ caps).toArray
  | .nilfn => .nilFunc
  | .nilif => .nilIface
  | .iface t v => .iface t (v.den ρ)
  | .arr8 _ l => .agg (c8 l).toArray
  | .arr32 _ l => .agg (c32 l).toArray
  | .arr64 _ l => .agg (c64 l).toArray
  | .arri _ l => .agg (ci l).toArray
  | .arrs _ l => .agg (cs l).toArray
  | .tab n _ f => .agg (ctab n f).toArray
  | .agg ps => .agg (cellsL ρ ps).toArray
  | .tup vs => .tuple (denL ρ vs).toArray
  | .xptr a => .pointer (some a)
  | .xsl a n c => .slice a n c
def denL (ρ : Nat → Nat) : List SV → List Value
  | [] => []
  | v :: vs => v.den ρ :: denL ρ vs
end

mutual
/-- how many cells -/
def SV.size : SV → Nat
  | .arr8 n _ => n
  | .arr32 n _ => n
  | .arr64 n _ => n
  | .arri n _ => n
  | .arrs n _ => n
  | .tab n es _ => n * es
  | .agg ps => sizeL ps
  | _ => 1
def sizeL : List SV → Nat
  | [] => 0
  | v :: vs => v.size + sizeL vs
end

mutual
/-- lists are as long as they say, blocks are such that p -/
def SV.ok (p : Nat → Prop) : SV → Prop
  | .ptr k _ _ _ => p k
  | .sl k _ _ _ _ _ => p k
  | .xsl a n _ => a.isSome = true ∨ n = 0
  | .arr8 n l => l.length = n
  | .arr32 n l => l.length = n
  | .arr64 n l => l.length = n
  | .arri n l => l.length = n
  | .arrs n l => l.length = n
  | .tab n es f => ∀ i, i < n → (f i).length = es
  | .agg ps => okL p ps
  | .tup vs => okL p vs
  | .func _ caps => okL p caps
  | .iface _ v => v.ok p
  | _ => True
def okL (p : Nat → Prop) : List SV → Prop
  | [] => True
  | v :: vs => v.ok p ∧ okL p vs
end

mutual
/-- which blocks it names: all such that p? -/
def SV.all (p : Nat → Bool) : SV → Bool
  | .ptr k _ _ _ => p k
  | .sl k _ _ _ _ _ => p k
  | .agg ps => allL p ps
  | .tup vs => allL p vs
  | .func _ caps => allL p caps
  | .iface _ v => v.all p
  | _ => true
def allL (p : Nat → Bool) : List SV → Bool
  | [] => true
  | v :: vs => match v.all p with | true => allL p vs | false => false
end

mutual
/-- the blocks that it names -/
def SV.ks : SV → List Nat
  | .ptr k _ _ _ => [k]
  | .sl k _ _ _ _ _ => [k]
  | .agg ps => ksL ps
  | .tup vs => ksL vs
  | .func _ caps => ksL caps
  | .iface _ v => v.ks
  | _ => []
def ksL : List SV → List Nat
  | [] => []
  | v :: vs => v.ks ++ ksL vs
end

mutual
/-- the same with other numbers of blocks -/
def SV.ren (g : Nat → Nat) : SV → SV
  | .ptr k j b o => .ptr (g k) j b o
  | .sl k j b o n c => .sl (g k) j b o n c
  | .func f caps => .func f (renL g caps)
  | .iface t v => .iface t (v.ren g)
  | .agg ps => .agg (renL g ps)
  | .tup vs => .tup (renL g vs)
  | .bool b => .bool b
  | .int n => .int n
  | .u8 x => .u8 x
  | .u16 x => .u16 x
  | .u32 x => .u32 x
  | .u64 x => .u64 x
  | .str l => .str l
  | .nilptr => .nilptr
  | .nilsl => .nilsl
  | .nilfn => .nilfn
  | .nilif => .nilif
  | .xptr a => .xptr a
  | .xsl a n c => .xsl a n c
  | .arr8 n l => .arr8 n l
  | .arr32 n l => .arr32 n l
  | .arr64 n l => .arr64 n l
  | .arri n l => .arri n l
  | .arrs n l => .arrs n l
  | .tab n es f => .tab n es f
def renL (g : Nat → Nat) : List SV → List SV
  | [] => []
  | v :: vs => v.ren g :: renL g vs
end

def Blk.ren (g : Nat → Nat) : Blk → Blk
  | .mk el ps => .mk el (renL g ps)
  | .dead => .dead

/-! ### plain facts -/
theorem ctab_length (n es : Nat) (f : Nat → List At) (h : ∀ i, i < n → (f i).length = es) : (ctab n f).length = n * es := by
  unfold ctab
  induction n with
  | zero => simp
  | succ n ih =>
    rw [List.range_succ, List.flatMap_append, List.length_append, ih (fun i hi => h i (by omega))]
    simp [h n (by omega), Nat.add_mul]

mutual
theorem SV.cells_length {p : Nat → Prop} (ρ : Nat → Nat) : ∀ v : SV, v.ok p → (v.cells ρ).length = v.size
  | .bool _, _ => rfl
  | .int _, _ => rfl
  | .u8 _, _ => rfl
  | .u16 _, _ => rfl
  | .u32 _, _ => rfl
  | .u64 _, _ => rfl
  | .str _, _ => rfl
  | .ptr .., _ => rfl
  | .nilptr, _ => rfl
  | .sl .., _ => rfl
  | .nilsl, _ => rfl
  | .func .., _ => rfl
  | .nilfn, _ => rfl
  | .nilif, _ => rfl
  | .xptr _, _ => rfl
  | .xsl .., _ => rfl
  | .iface .., _ => rfl
  | .arr8 n l, h => by simpa [SV.cells, SV.size, SV.ok, c8] using h
  | .arr32 n l, h => by simpa [SV.cells, SV.size, SV.ok, c32] using h
  | .arr64 n l, h => by simpa [SV.cells, SV.size, SV.ok, c64] using h
  | .arri n l, h => by simpa [SV.cells, SV.size, SV.ok, ci] using h
  | .arrs n l, h => by simpa [SV.cells, SV.size, SV.ok, cs] using h
  | .tab n es f, h => by simpa [SV.cells, SV.size] using ctab_length n es f (by simpa [SV.ok] using h)
  | .agg ps, h => by simpa [SV.cells, SV.size] using cellsL_length ρ ps (by simpa [SV.ok] using h)
  | .tup _, _ => rfl
theorem cellsL_length {p : Nat → Prop} (ρ : Nat → Nat) : ∀ vs : List SV, okL p vs → (cellsL ρ vs).length = sizeL vs
  | [], _ => rfl
  | v :: vs, h => by
    simp only [okL] at h
    simp [cellsL, sizeL, SV.cells_length ρ v h.1, cellsL_length ρ vs h.2]
end

mutual
theorem SV.cells_ren (ρ g : Nat → Nat) : ∀ v : SV, (v.ren g).cells ρ = v.cells (fun k => ρ (g k))
  | .bool _ => rfl
  | .int _ => rfl
  | .u8 _ => rfl
  | .u16 _ => rfl
  | .u32 _ => rfl
  | .u64 _ => rfl
  | .str _ => rfl
  | .ptr .. => rfl
  | .nilptr => rfl
  | .sl .. => rfl
  | .nilsl => rfl
  | .func f caps => by simp [SV.ren, SV.cells, denL_ren ρ g caps]
  | .nilfn => rfl
  | .nilif => rfl
  | .xptr _ => rfl
  | .xsl .. => rfl
  | .iface t v => by simp [SV.ren, SV.cells, SV.den_ren ρ g v]
  | .arr8 .. => rfl
  | .arr32 .. => rfl
  | .arr64 .. => rfl
  | .arri .. => rfl
  | .arrs .. => rfl
  | .tab .. => rfl
  | .agg ps => by simp [SV.ren, SV.cells, cellsL_ren ρ g ps]
  | .tup vs => by simp [SV.ren, SV.cells, denL_ren ρ g vs]
theorem cellsL_ren (ρ g : Nat → Nat) : ∀ vs : List SV, cellsL ρ (renL g vs) = cellsL (fun k => ρ (g k)) vs
  | [] => rfl
  | v :: vs => by simp [renL, cellsL, SV.cells_ren ρ g v, cellsL_ren ρ g vs]
theorem SV.den_ren (ρ g : Nat → Nat) : ∀ v : SV, (v.ren g).den ρ = v.den (fun k => ρ (g k))
  | .bool _ => rfl
  | .int _ => rfl
  | .u8 _ => rfl
  | .u16 _ => rfl
  | .u32 _ => rfl
  | .u64 _ => rfl
  | .str _ => rfl
  | .ptr .. => rfl
  | .nilptr => rfl
  | .sl .. => rfl
  | .nilsl => rfl
  | .func f caps => by simp [SV.ren, SV.den, denL_ren ρ g caps]
  | .nilfn => rfl
  | .nilif => rfl
  | .xptr _ => rfl
  | .xsl .. => rfl
  | .iface t v => by simp [SV.ren, SV.den, SV.den_ren ρ g v]
  | .arr8 .. => rfl
  | .arr32 .. => rfl
  | .arr64 .. => rfl
  | .arri .. => rfl
  | .arrs .. => rfl
  | .tab .. => rfl
  | .agg ps => by simp [SV.ren, SV.den, cellsL_ren ρ g ps]
  | .tup vs => by simp [SV.ren, SV.den, denL_ren ρ g vs]
theorem denL_ren (ρ g : Nat → Nat) : ∀ vs : List SV, denL ρ (renL g vs) = denL (fun k => ρ (g k)) vs
  | [] => rfl
  | v :: vs => by simp [renL, denL, SV.den_ren ρ g v, denL_ren ρ g vs]
end

mutual
theorem SV.size_ren (g : Nat → Nat) : ∀ v : SV, (v.ren g).size = v.size
  | .bool _ => rfl
  | .int _ => rfl
  | .u8 _ => rfl
  | .u16 _ => rfl
  | .u32 _ => rfl
  | .u64 _ => rfl
  | .str _ => rfl
  | .ptr .. => rfl
  | .nilptr => rfl
  | .sl .. => rfl
  | .nilsl => rfl
  | .func .. => rfl
  | .nilfn => rfl
  | .nilif => rfl
  | .xptr _ => rfl
  | .xsl .. => rfl
  | .iface .. => rfl
  | .arr8 .. => rfl
  | .arr32 .. => rfl
  | .arr64 .. => rfl
  | .arri .. => rfl
  | .arrs .. => rfl
  | .tab .. => rfl
  | .agg ps => by simp [SV.ren, SV.size, sizeL_ren g ps]
  | .tup .. => rfl
theorem sizeL_ren (g : Nat → Nat) : ∀ vs : List SV, sizeL (renL g vs) = sizeL vs
  | [] => rfl
  | v :: vs => by simp [renL, sizeL, SV.size_ren g v, sizeL_ren g vs]
end

mutual
theorem SV.ok_ren {p q : Nat → Prop} (g : Nat → Nat) (hg : ∀ k, p k → q (g k)) : ∀ v : SV, v.ok p → (v.ren g).ok q
  | .bool _, _ => trivial
  | .int _, _ => trivial
  | .u8 _, _ => trivial
  | .u16 _, _ => trivial
  | .u32 _, _ => trivial
  | .u64 _, _ => trivial
  | .str _, _ => trivial
  | .nilptr, _ => trivial
  | .nilsl, _ => trivial
  | .nilfn, _ => trivial
  | .nilif, _ => trivial
  | .xptr _, _ => trivial
  | .xsl .., h => h
  | .ptr k _ _ _, h => hg k h
  | .sl k _ _ _ _ _, h => hg k h
  | .func _ caps, h => by simp only [SV.ren, SV.ok] at h ⊢; exact okL_ren g hg caps h
  | .iface _ v, h => by simp only [SV.ren, SV.ok] at h ⊢; exact SV.ok_ren g hg v h
  | .arr8 _ _, h => h
  | .arr32 _ _, h => h
  | .arr64 _ _, h => h
  | .arri _ _, h => h
  | .arrs _ _, h => h
  | .tab _ _ _, h => h
  | .agg ps, h => by simp only [SV.ren, SV.ok] at h ⊢; exact okL_ren g hg ps h
  | .tup vs, h => by simp only [SV.ren, SV.ok] at h ⊢; exact okL_ren g hg vs h
theorem okL_ren {p q : Nat → Prop} (g : Nat → Nat) (hg : ∀ k, p k → q (g k)) : ∀ vs : List SV, okL p vs → okL q (renL g vs)
  | [], _ => trivial
  | v :: vs, h => ⟨SV.ok_ren g hg v h.1, okL_ren g hg vs h.2⟩
end

mutual
theorem SV.ok_mono {p q : Nat → Prop} (hg : ∀ k, p k → q k) : ∀ v : SV, v.ok p → v.ok q
  | .bool _, _ => trivial
  | .int _, _ => trivial
  | .u8 _, _ => trivial
  | .u16 _, _ => trivial
  | .u32 _, _ => trivial
  | .u64 _, _ => trivial
  | .str _, _ => trivial
  | .nilptr, _ => trivial
  | .nilsl, _ => trivial
  | .nilfn, _ => trivial
  | .nilif, _ => trivial
  | .xptr _, _ => trivial
  | .xsl .., h => h
  | .ptr k _ _ _, h => hg k h
  | .sl k _ _ _ _ _, h => hg k h
  | .func _ caps, h => by simp only [SV.ok] at h ⊢; exact okL_mono hg caps h
  | .iface _ v, h => by simp only [SV.ok] at h ⊢; exact SV.ok_mono hg v h
  | .arr8 _ _, h => h
  | .arr32 _ _, h => h
  | .arr64 _ _, h => h
  | .arri _ _, h => h
  | .arrs _ _, h => h
  | .tab _ _ _, h => h
  | .agg ps, h => by simp only [SV.ok] at h ⊢; exact okL_mono hg ps h
  | .tup vs, h => by simp only [SV.ok] at h ⊢; exact okL_mono hg vs h
theorem okL_mono {p q : Nat → Prop} (hg : ∀ k, p k → q k) : ∀ vs : List SV, okL p vs → okL q vs
  | [], _ => trivial
  | v :: vs, h => ⟨SV.ok_mono hg v h.1, okL_mono hg vs h.2⟩
end

mutual
theorem SV.ok_all {p : Nat → Prop} {b : Nat → Bool} : ∀ v : SV, v.ok p → v.all b = true → v.ok (fun k => b k = true)
  | .bool _, _, _ => trivial
  | .int _, _, _ => trivial
  | .u8 _, _, _ => trivial
  | .u16 _, _, _ => trivial
  | .u32 _, _, _ => trivial
  | .u64 _, _, _ => trivial
  | .str _, _, _ => trivial
  | .nilptr, _, _ => trivial
  | .nilsl, _, _ => trivial
  | .nilfn, _, _ => trivial
  | .nilif, _, _ => trivial
  | .xptr _, _, _ => trivial
  | .xsl .., h, _ => h
  | .ptr k _ _ _, _, h => h
  | .sl k _ _ _ _ _, _, h => h
  | .func _ caps, h, h' => by simp only [SV.ok, SV.all] at h h' ⊢; exact okL_all caps h h'
  | .iface _ v, h, h' => by simp only [SV.ok, SV.all] at h h' ⊢; exact SV.ok_all v h h'
  | .arr8 _ _, h, _ => h
  | .arr32 _ _, h, _ => h
  | .arr64 _ _, h, _ => h
  | .arri _ _, h, _ => h
  | .arrs _ _, h, _ => h
  | .tab _ _ _, h, _ => h
  | .agg ps, h, h' => by simp only [SV.ok, SV.all] at h h' ⊢; exact okL_all ps h h'
  | .tup vs, h, h' => by simp only [SV.ok, SV.all] at h h' ⊢; exact okL_all vs h h'
theorem okL_all {p : Nat → Prop} {b : Nat → Bool} : ∀ vs : List SV, okL p vs → allL b vs = true → okL (fun k => b k = true) vs
  | [], _, _ => trivial
  | v :: vs, h, h' => by
    have hv : v.all b = true ∧ allL b vs = true := by
      cases hb : v.all b <;> simp [allL, hb] at h' ⊢
      exact h'
    exact ⟨SV.ok_all v h.1 hv.1, okL_all vs h.2 hv.2⟩
end

mutual
theorem SV.cells_congr {p : Nat → Prop} {ρ ρ' : Nat → Nat} (hp : ∀ k, p k → ρ k = ρ' k) : ∀ v : SV, v.ok p → v.cells ρ = v.cells ρ'
  | .bool _, _ => rfl
  | .int _, _ => rfl
  | .u8 _, _ => rfl
  | .u16 _, _ => rfl
  | .u32 _, _ => rfl
  | .u64 _, _ => rfl
  | .str _, _ => rfl
  | .nilptr, _ => rfl
  | .nilsl, _ => rfl
  | .nilfn, _ => rfl
  | .nilif, _ => rfl
  | .xptr _, _ => rfl
  | .xsl .., _ => rfl
  | .ptr k _ _ _, h => by simp only [SV.cells, hp k h]
  | .sl k _ _ _ _ _, h => by simp only [SV.cells, hp k h]
  | .func _ caps, h => by simp only [SV.ok] at h; simp only [SV.cells, denL_congr hp caps h]
  | .iface _ v, h => by simp only [SV.ok] at h; simp only [SV.cells, SV.den_congr hp v h]
  | .arr8 _ _, _ => rfl
  | .arr32 _ _, _ => rfl
  | .arr64 _ _, _ => rfl
  | .arri _ _, _ => rfl
  | .arrs _ _, _ => rfl
  | .tab _ _ _, _ => rfl
  | .agg ps, h => by simp only [SV.ok] at h; simp only [SV.cells, cellsL_congr hp ps h]
  | .tup vs, h => by simp only [SV.ok] at h; simp only [SV.cells, denL_congr hp vs h]
theorem cellsL_congr {p : Nat → Prop} {ρ ρ' : Nat → Nat} (hp : ∀ k, p k → ρ k = ρ' k) : ∀ vs : List SV, okL p vs → cellsL ρ vs = cellsL ρ' vs
  | [], _ => rfl
  | v :: vs, h => by simp only [cellsL, SV.cells_congr hp v h.1, cellsL_congr hp vs h.2]
theorem SV.den_congr {p : Nat → Prop} {ρ ρ' : Nat → Nat} (hp : ∀ k, p k → ρ k = ρ' k) : ∀ v : SV, v.ok p → v.den ρ = v.den ρ'
  | .bool _, _ => rfl
  | .int _, _ => rfl
  | .u8 _, _ => rfl
  | .u16 _, _ => rfl
  | .u32 _, _ => rfl
  | .u64 _, _ => rfl
  | .str _, _ => rfl
  | .nilptr, _ => rfl
  | .nilsl, _ => rfl
  | .nilfn, _ => rfl
  | .nilif, _ => rfl
  | .xptr _, _ => rfl
  | .xsl .., _ => rfl
  | .ptr k _ _ _, h => by simp only [SV.den, hp k h]
  | .sl k _ _ _ _ _, h => by simp only [SV.den, hp k h]
  | .func _ caps, h => by simp only [SV.ok] at h; simp only [SV.den, denL_congr hp caps h]
  | .iface _ v, h => by simp only [SV.ok] at h; simp only [SV.den, SV.den_congr hp v h]
  | .arr8 _ _, _ => rfl
  | .arr32 _ _, _ => rfl
  | .arr64 _ _, _ => rfl
  | .arri _ _, _ => rfl
  | .arrs _ _, _ => rfl
  | .tab _ _ _, _ => rfl
  | .agg ps, h => by simp only [SV.ok] at h; simp only [SV.den, cellsL_congr hp ps h]
  | .tup vs, h => by simp only [SV.ok] at h; simp only [SV.den, denL_congr hp vs h]
theorem denL_congr {p : Nat → Prop} {ρ ρ' : Nat → Nat} (hp : ∀ k, p k → ρ k = ρ' k) : ∀ vs : List SV, okL p vs → denL ρ vs = denL ρ' vs
  | [], _ => rfl
  | v :: vs, h => by simp only [denL, SV.den_congr hp v h.1, denL_congr hp vs h.2]
end

theorem okL_append {p : Nat → Prop} {a b : List SV} : okL p (a ++ b) ↔ okL p a ∧ okL p b := by
  induction a with
  | nil => simp [okL]
  | cons x r ih => simp [okL, ih, and_assoc]
theorem cellsL_append (ρ : Nat → Nat) (a b : List SV) : cellsL ρ (a ++ b) = cellsL ρ a ++ cellsL ρ b := by
  induction a with
  | nil => simp [cellsL]
  | cons x r ih => simp [cellsL, ih]
theorem denL_length (ρ : Nat → Nat) (vs : List SV) : (denL ρ vs).length = vs.length := by
  induction vs with
  | nil => rfl
  | cons v vs ih => simp [denL, ih]

/-- is it one cell? (what a store may put there) -/
def SV.scalar : SV → Bool
  | .arr8 .. | .arr32 .. | .arr64 .. | .arri .. | .arrs .. | .tab .. | .agg _ | .tup _ => false
  | _ => true
/-- an array or a struct -/
def SV.many : SV → Bool
  | .arr8 .. | .arr32 .. | .arr64 .. | .arri .. | .arrs .. | .tab .. | .agg _ => true
  | _ => false

theorem den_scalar {ρ : Nat → Nat} {v : SV} (h : v.scalar = true) : v.cells ρ = [v.den ρ] := by
  cases v <;> first | rfl | (simp [SV.scalar] at h)
theorem den_many {ρ : Nat → Nat} {v : SV} (h : v.many = true) : v.den ρ = .agg (v.cells ρ).toArray := by
  cases v <;> first | rfl | (simp [SV.many] at h) | simp [SV.den, SV.cells]
theorem cells_den (ρ : Nat → Nat) (v : SV) : (v.den ρ).cells = (v.cells ρ).toArray := by
  cases v <;> simp [SV.den, SV.cells, Value.cells]
theorem At.val_eq (ρ : Nat → Nat) (a : At) : a.val = a.sv.den ρ := by cases a <;> rfl
theorem At.sv_ok {p : Nat → Prop} (a : At) : a.sv.ok p := by cases a <;> simp [At.sv, SV.ok]
theorem At.sv_scalar (a : At) : a.sv.scalar = true := by cases a <;> rfl

end Go.Sym

/-
  The symbolic engine, part 2: the function 'vc', which computes what is left to prove of a piece of the model's code, from a symbolic state on. No program in sight; no condition.
-/
namespace Go.Sym

inductive Ty where
  | int (k : IntKind) | bool | str | ptr | sl (e : TypeId) | arr (n : Nat) (e : TypeId) | struct (fs : List (Nat × TypeId)) | func | iface | other
  deriving Inhabited

structure TyI where
  d : Ty
  sz : Nat
  bytes : Nat
  zero : SV
  eqOk : Bool := false

/-- What a call does, said of symbolic values and of the blocks that its arguments reach. -/
abbrev Spec := List SV → List Blk → (SV → List Blk → Prop) → Prop

/-- E: what is known of every world on the way; ext: what stands at an address of the first world -/
structure Ctx where
  nt : Nat
  ty : List (Nat × TyI)
  fn : List (Nat × Spec)
  E : World → Prop := fun _ => True
  ext : Addr → TypeId → SV → Prop := fun _ _ _ => False

/-- What the engine stops at. -/
def Pre (p q : Prop) : Prop := p ∧ q
def CondVC (t : Bool) (a b : Prop) : Prop := (t = true → a) ∧ (t = false → b)
def AllVC {α : Type} (f : α → Prop) : Prop := ∀ x, f x
def ExtVC (R k : SV → Prop) : Prop := ∃ v, R v ∧ k v
attribute [irreducible] Pre CondVC AllVC ExtVC
theorem ext_i {R k : SV → Prop} (v : SV) (h : R v) (h' : k v) : ExtVC R k := by unfold ExtVC; exact ⟨v, h, h'⟩
theorem ext_e {R k : SV → Prop} (h : ExtVC R k) : ∃ v, R v ∧ k v := by unfold ExtVC at h; exact h
theorem pre_i {p q : Prop} (h : p) (h' : q) : Pre p q := by unfold Pre; exact ⟨h, h'⟩
theorem pre_e {p q : Prop} (h : Pre p q) : p ∧ q := by unfold Pre at h; exact h
theorem cond_i {t : Bool} {a b : Prop} (h : t = true → a) (h' : t = false → b) : CondVC t a b := by unfold CondVC; exact ⟨h, h'⟩
theorem cond_e {t : Bool} {a b : Prop} (h : CondVC t a b) : (t = true → a) ∧ (t = false → b) := by unfold CondVC at h; exact h
theorem cond_t {t : Bool} {a b : Prop} (e : t = true) (h : a) : CondVC t a b := cond_i (fun _ => h) (fun h => by rw [e] at h; cases h)
theorem cond_f {t : Bool} {a b : Prop} (e : t = false) (h : b) : CondVC t a b := cond_i (fun h => by rw [e] at h; cases h) (fun _ => h)
theorem all_i {α : Type} {f : α → Prop} (h : ∀ x, f x) : AllVC f := by unfold AllVC; exact h
theorem all_e {α : Type} {f : α → Prop} (h : AllVC f) : ∀ x, f x := by unfold AllVC at h; exact h

/-! ### lists, built while the continuation waits: the state stays written out -/
def snocK {α : Type} : List α → α → (List α → Prop) → Prop
  | [], x, k => k [x]
  | y :: ys, x, k => snocK ys x fun l => k (y :: l)
def appK {α : Type} : List α → List α → (List α → Prop) → Prop
  | [], b, k => k b
  | y :: ys, b, k => appK ys b fun l => k (y :: l)
def setK {α : Type} : List α → Nat → α → (List α → Prop) → Prop
  | [], _, _, _ => False
  | _ :: xs, 0, y, k => k (y :: xs)
  | x :: xs, n + 1, y, k => setK xs n y fun l => k (x :: l)
def nthK {α : Type} : List α → Nat → (α → Prop) → Prop
  | [], _, _ => False
  | x :: _, 0, k => k x
  | _ :: xs, n + 1, k => nthK xs n k
def lookK {α : Type} : List (Nat × α) → Nat → (α → Prop) → Prop
  | [], _, _ => False
  | (i, v) :: r, n, k => match Nat.beq i n with | true => k v | false => lookK r n k
def lenK {α : Type} (l : List α) (k : Nat → Prop) : Prop :=
  match l with
  | [] => k 0
  | [_] => k 1
  | [_, _] => k 2
  | [_, _, _] => k 3
  | [_, _, _, _] => k 4
  | [_, _, _, _, _] => k 5
  | [_, _, _, _, _, _] => k 6
  | [_, _, _, _, _, _, _] => k 7
  | [_, _, _, _, _, _, _, _] => k 8
  | [_, _, _, _, _, _, _, _, _] => k 9
  | [_, _, _, _, _, _, _, _, _, _] => k 10
  | [_, _, _, _, _, _, _, _, _, _, _] => k 11
  | [_, _, _, _, _, _, _, _, _, _, _, _] => k 12
  | [_, _, _, _, _, _, _, _, _, _, _, _, _] => k 13
  | [_, _, _, _, _, _, _, _, _, _, _, _, _, _] => k 14
  | [_, _, _, _, _, _, _, _, _, _, _, _, _, _, _] => k 15
  | [_, _, _, _, _, _, _, _, _, _, _, _, _, _, _, _] => k 16
  | [_, _, _, _, _, _, _, _, _, _, _, _, _, _, _, _, _] => k 17
  | [_, _, _, _, _, _, _, _, _, _, _, _, _, _, _, _, _, _] => k 18
  | [_, _, _, _, _, _, _, _, _, _, _, _, _, _, _, _, _, _, _] => k 19
  | [_, _, _, _, _, _, _, _, _, _, _, _, _, _, _, _, _, _, _, _] => k 20
  | [_, _, _, _, _, _, _, _, _, _, _, _, _, _, _, _, _, _, _, _, _] => k 21
  | [_, _, _, _, _, _, _, _, _, _, _, _, _, _, _, _, _, _, _, _, _, _] => k 22
  | [_, _, _, _, _, _, _, _, _, _, _, _, _, _, _, _, _, _, _, _, _, _, _] => k 23
  | [_, _, _, _, _, _, _, _, _, _, _, _, _, _, _, _, _, _, _, _, _, _, _, _] => k 24
  | [_, _, _, _, _, _, _, _, _, _, _, _, _, _, _, _, _, _, _, _, _, _, _, _, _] => k 25
  | [_, _, _, _, _, _, _, _, _, _, _, _, _, _, _, _, _, _, _, _, _, _, _, _, _, _] => k 26
  | [_, _, _, _, _, _, _, _, _, _, _, _, _, _, _, _, _, _, _, _, _, _, _, _, _, _, _] => k 27
  | [_, _, _, _, _, _, _, _, _, _, _, _, _, _, _, _, _, _, _, _, _, _, _, _, _, _, _, _] => k 28
  | [_, _, _, _, _, _, _, _, _, _, _, _, _, _, _, _, _, _, _, _, _, _, _, _, _, _, _, _, _] => k 29
  | [_, _, _, _, _, _, _, _, _, _, _, _, _, _, _, _, _, _, _, _, _, _, _, _, _, _, _, _, _, _] => k 30
  | [_, _, _, _, _, _, _, _, _, _, _, _, _, _, _, _, _, _, _, _, _, _, _, _, _, _, _, _, _, _, _] => k 31
  | [_, _, _, _, _, _, _, _, _, _, _, _, _, _, _, _, _, _, _, _, _, _, _, _, _, _, _, _, _, _, _, _] => k 32
  | l => k l.length

/-! ### operands -/
def constK (v : Value) (k : SV → Prop) : Prop :=
  match v with
  | .bool b => k (.bool b)
  | .int .i64 n => k (.int n)
  | .int .u8 (.ofNat n) => match Nat.blt n 256 with | true => k (.u8 (UInt8.ofNat n)) | false => False
  | .int .u16 (.ofNat n) => match Nat.blt n 65536 with | true => k (.u16 (UInt16.ofNat n)) | false => False
  | .int .u32 (.ofNat n) => match Nat.blt n 4294967296 with | true => k (.u32 (UInt32.ofNat n)) | false => False
  | .int .u64 (.ofNat n) => match Nat.blt n 18446744073709551616 with | true => k (.u64 (UInt64.ofNat n)) | false => False
  | .string ⟨⟨l⟩⟩ => k (.str l)
  | .pointer none => k .nilptr
  | .slice none 0 0 => k .nilsl
  | .nilFunc => k .nilfn
  | .nilIface => k .nilif
  | _ => False

def evK (tm : List (Nat × SV)) (x : Operand) (k : SV → Prop) : Prop :=
  match x with
  | .tmp t => lookK tm t k
  | .const v => constK v k
  | .func f => k (.func f [])
  | .global _ => False

def evsK (tm : List (Nat × SV)) : List Operand → (List SV → Prop) → Prop
  | [], k => k []
  | x :: xs, k => evK tm x fun v => evsK tm xs fun vs => k (v :: vs)

/-- the state behind an operation that yields v -/
def putK (nt : Nat) (tm : List (Nat × SV)) (hp : List Blk) (d : Option Nat) (v : SV) (K : St → Prop) : Prop :=
  match d with
  | some d => match Nat.blt d nt with | true => K ⟨(d, v) :: tm, hp⟩ | false => False
  | none => K ⟨tm, hp⟩

/-! ### parts -/
def SV.isRow : SV → Bool
  | .arr8 .. | .arr32 .. | .arr64 .. | .arri .. | .arrs .. | .tab .. => true
  | _ => false

mutual
def flatK : SV → (List SV → Prop) → Prop
  | .agg ps, k => flatLK ps k
  | v, k => k [v]
def flatLK : List SV → (List SV → Prop) → Prop
  | [], k => k []
  | v :: vs, k => flatK v fun a => flatLK vs fun b => appK a b k
end

/-- the parts ahead of part j (which begins at cell b), and those from it on -/
def splitK : List SV → Nat → Nat → (List SV → List SV → Prop) → Prop
  | ps, 0, b, k => match Nat.beq b 0 with | true => k [] ps | false => False
  | [], _ + 1, _, _ => False
  | p :: ps, j + 1, b, k => match Nat.ble p.size b with | true => splitK ps j (b - p.size) fun a r => k (p :: a) r | false => False

/-- the first parts, which have n cells together, and the rest -/
def takeK : List SV → Nat → (List SV → List SV → Prop) → Prop
  | ps, 0, k => k [] ps
  | [], _ + 1, _ => False
  | p :: ps, n + 1, k => match Nat.ble p.size (n + 1) with | true => takeK ps (n + 1 - p.size) fun a r => k (p :: a) r | false => False

/-- some parts as one value -/
def packK (ps : List SV) (k : SV → Prop) : Prop :=
  match ps with
  | [p] => match p.isRow with | true => k p | false => k (.agg [p])
  | ps => k (.agg ps)

/-- where the field at cell c behind the head of part j lies -/
def walkK : List SV → (j b c : Nat) → (Nat → Nat → List (Nat × Nat) → Prop) → Prop
  | _, j, b, 0, k => k j b []
  | [], _, _, _ + 1, _ => False
  | p :: ps, j, b, c + 1, k => match Nat.ble p.size (c + 1) with
    | true => walkK ps (j + 1) (b + p.size) (c + 1 - p.size) k
    | false => match p.isRow with | true => k j b [(c + 1, 1)] | false => False

/-- one offset more -/
def addO : List (Nat × Nat) → Nat → Nat → List (Nat × Nat)
  | [], i, e => [(i, e)]
  | (i', e') :: [], i, e => match Nat.beq e' e with | true => [(i' + i, e)] | false => [(i', e'), (i, e)]
  | x :: y :: r, i, e => x :: addO (y :: r) i e

/-- the row and the column in a table of rows of es cells -/
def tabK (o : List (Nat × Nat)) (es : Nat) (k : Nat → Nat → Prop) : Prop :=
  match o with
  | [] => k 0 0
  | [(i, e)] => match Nat.beq e es with | true => k i 0 | false => False
  | [(i, e), (c, 1)] => match Nat.beq e es with | true => k i c | false => False
  | _ => False

def atK (a : At) (k : SV → Prop) : Prop :=
  match a with
  | .bool b => k (.bool b) | .int n => k (.int n) | .u8 x => k (.u8 x) | .u16 x => k (.u16 x) | .u32 x => k (.u32 x) | .u64 x => k (.u64 x) | .str l => k (.str l)
def atsK : List At → (List SV → Prop) → Prop
  | [], k => k []
  | a :: as, k => atK a fun v => atsK as fun vs => k (v :: vs)
def dropK {α : Type} : List α → Nat → (List α → Prop) → Prop
  | l, 0, k => k l
  | [], _ + 1, _ => False
  | _ :: xs, n + 1, k => dropK xs n k
def firstK {α : Type} : List α → Nat → (List α → Prop) → Prop
  | _, 0, k => k []
  | [], _ + 1, _ => False
  | x :: xs, n + 1, k => firstK xs n fun l => k (x :: l)

/-- one cell out of a part -/
def cellK (p : SV) (o : List (Nat × Nat)) (k : SV → Prop) : Prop :=
  match p with
  | .arr8 _ l => Pre (off o < l.length) (k (.u8 (l.getD (off o) 0)))
  | .arr32 _ l => Pre (off o < l.length) (k (.u32 (l.getD (off o) 0)))
  | .arr64 _ l => Pre (off o < l.length) (k (.u64 (l.getD (off o) 0)))
  | .arri _ l => Pre (off o < l.length) (k (.int (l.getD (off o) 0)))
  | .arrs _ l => Pre (off o < l.length) (k (.str (l.getD (off o) [])))
  | .tab n es f => tabK o es fun i c => Pre (i < n) (nthK (f i) c fun a => atK a k)
  | .agg _ => False
  | .tup _ => False
  | v => match o with | [] => k v | _ => False

/-- m cells out of a row -/
def subK (p : SV) (o : List (Nat × Nat)) (m : Nat) (k : SV → Prop) : Prop :=
  match p with
  | .arr8 _ l => Pre (off o + m ≤ l.length) (k (.arr8 m ((l.drop (off o)).take m)))
  | .arr32 _ l => Pre (off o + m ≤ l.length) (k (.arr32 m ((l.drop (off o)).take m)))
  | .arr64 _ l => Pre (off o + m ≤ l.length) (k (.arr64 m ((l.drop (off o)).take m)))
  | .arri _ l => Pre (off o + m ≤ l.length) (k (.arri m ((l.drop (off o)).take m)))
  | .arrs _ l => Pre (off o + m ≤ l.length) (k (.arrs m ((l.drop (off o)).take m)))
  | .tab n es f => tabK o es fun i c => Pre (i < n) (dropK (f i) c fun r => firstK r m fun as => atsK as fun vs => k (.agg vs))
  | _ => False

def loadK (ti : TyI) (ps : List SV) (j b : Nat) (o : List (Nat × Nat)) (k : SV → Prop) : Prop :=
  splitK ps j b fun _ r => match ti.d with
    | .arr .. | .struct .. => match o with
      | [] => takeK r ti.sz fun a _ => packK a k
      | _ => match r with | p :: _ => subK p o ti.sz k | [] => False
    | _ => match r with | p :: _ => cellK p o k | [] => False

/-! ### stores -/
def toB8K : List SV → (List UInt8 → Prop) → Prop
  | [], k => k []
  | .u8 x :: r, k => toB8K r fun l => k (x :: l)
  | _, _ => False
def to64K : List SV → (List UInt64 → Prop) → Prop
  | [], k => k []
  | .u64 x :: r, k => to64K r fun l => k (x :: l)
  | _, _ => False
def toAtK (v : SV) (k : At → Prop) : Prop :=
  match v with
  | .bool b => k (.bool b) | .int n => k (.int n) | .u8 x => k (.u8 x) | .u16 x => k (.u16 x) | .u32 x => k (.u32 x) | .u64 x => k (.u64 x) | .str l => k (.str l)
  | _ => False
def toAtsK : List SV → (List At → Prop) → Prop
  | [], k => k []
  | v :: vs, k => toAtK v fun a => toAtsK vs fun as => k (a :: as)

/-- a list with some of its places written anew -/
def splice {α : Type} (l : List α) (i : Nat) (m : List α) : List α := l.take i ++ m ++ l.drop (i + m.length)
def updF (f : Nat → List At) (i : Nat) (r : List At) : Nat → List At := fun x => if x = i then r else f x

/-- a part with one cell (or a few) written -/
def writeK (p : SV) (o : List (Nat × Nat)) (v : SV) (k : SV → Prop) : Prop :=
  match p with
  | .arr8 n l => match v with
    | .u8 x => Pre (off o < l.length) (k (.arr8 n (l.set (off o) x)))
    | .arr8 m x => Pre (off o + m ≤ l.length) (k (.arr8 n (splice l (off o) x)))
    | _ => False
  | .arr32 n l => match v with
    | .u32 x => Pre (off o < l.length) (k (.arr32 n (l.set (off o) x)))
    | .arr32 m x => Pre (off o + m ≤ l.length) (k (.arr32 n (splice l (off o) x)))
    | _ => False
  | .arr64 n l => match v with
    | .u64 x => Pre (off o < l.length) (k (.arr64 n (l.set (off o) x)))
    | .arr64 m x => Pre (off o + m ≤ l.length) (k (.arr64 n (splice l (off o) x)))
    | .agg vs => to64K vs fun x => Pre (off o + x.length ≤ l.length) (k (.arr64 n (splice l (off o) x)))
    | _ => False
  | .arri n l => match v with
    | .int x => Pre (off o < l.length) (k (.arri n (l.set (off o) x)))
    | .arri m x => Pre (off o + m ≤ l.length) (k (.arri n (splice l (off o) x)))
    | _ => False
  | .arrs n l => match v with
    | .str x => Pre (off o < l.length) (k (.arrs n (l.set (off o) x)))
    | _ => False
  | .tab n es f => match v with
    | .agg vs => toAtsK vs fun as => tabK o es fun i c => match c with
      | 0 => Pre (i < n ∧ as.length = es) (k (.tab n es (updF f i as)))
      | _ => False
    | v => toAtK v fun a => tabK o es fun i c => Pre (i < n) (setK (f i) c a fun r => k (.tab n es (updF f i r)))
  | .agg _ => False
  | .tup _ => False
  | _ => match o with
    | [] => match v.scalar with | true => k v | false => False
    | _ => False

def SV.plain (v : SV) : Bool := match v with | .agg _ => false | .tup _ => false | _ => true
def plainL : List SV → Bool
  | [] => true
  | v :: vs => match v.plain with | true => plainL vs | false => false

def storeK (ti : TyI) (ps : List SV) (j b : Nat) (o : List (Nat × Nat)) (v : SV) (k : List SV → Prop) : Prop :=
  splitK ps j b fun a r =>
    match o with
    | [] => match v.many with
      | true => takeK r ti.sz fun _ r' => flatK v fun fs => match Nat.beq (sizeL fs) ti.sz with | true => (match plainL fs with | true => appK fs r' fun q => appK a q k | false => False) | false => False
      | false => match Nat.beq ti.sz 1 with
        | true => match r with | p :: r' => writeK p [] v fun p' => appK a (p' :: r') k | [] => False
        | false => False
    | _ => match Nat.beq v.size ti.sz with
      | true => match r with | p :: r' => writeK p o v fun p' => appK a (p' :: r') k | [] => False
      | false => False

/-! ### numbers -/
def fits (n : Int) : Prop := -9223372036854775808 ≤ n ∧ n < 9223372036854775808
def ibits (op : BinOp) (a b : Int) : Int :=
  IntKind.i64.wrap (match op with
    | .and => ((BitVec.ofInt 64 a &&& BitVec.ofInt 64 b).toNat : Int)
    | .or => ((BitVec.ofInt 64 a ||| BitVec.ofInt 64 b).toNat : Int)
    | .xor => ((BitVec.ofInt 64 a ^^^ BitVec.ofInt 64 b).toNat : Int)
    | _ => ((BitVec.ofInt 64 a &&& ~~~(BitVec.ofInt 64 b)).toNat : Int))

def intK (op : BinOp) (a b : Int) (k : SV → Prop) : Prop :=
  match op with
  | .add => Pre (fits (a + b)) (k (.int (a + b)))
  | .sub => Pre (fits (a - b)) (k (.int (a - b)))
  | .mul => Pre (fits (a * b)) (k (.int (a * b)))
  | .quo => Pre (b ≠ 0 ∧ fits (a.tdiv b)) (k (.int (a.tdiv b)))
  | .rem => Pre (b ≠ 0) (k (.int (a.tmod b)))
  | .and => k (.int (ibits .and a b))
  | .or => k (.int (ibits .or a b))
  | .xor => k (.int (ibits .xor a b))
  | .andNot => k (.int (ibits .andNot a b))
  | .eql => k (.bool (decide (a = b)))
  | .neq => k (.bool (!decide (a = b)))
  | .lss => k (.bool (decide (a < b)))
  | .leq => k (.bool (decide (a ≤ b)))
  | .gtr => k (.bool (decide (a > b)))
  | .geq => k (.bool (decide (a ≥ b)))
  | _ => False

def cntK (y : SV) (k : Nat → Prop) : Prop :=
  match y with
  | .int n => Pre (0 ≤ n) (k n.toNat)
  | .u8 x => k x.toNat
  | .u16 x => k x.toNat
  | .u32 x => k x.toNat
  | .u64 x => k x.toNat
  | _ => False

def u8K (op : BinOp) (a b : UInt8) (k : SV → Prop) : Prop :=
  match op with
  | .add => k (.u8 (a + b))
  | .sub => k (.u8 (a - b))
  | .mul => k (.u8 (a * b))
  | .quo => Pre (b.toNat ≠ 0) (k (.u8 (a / b)))
  | .rem => Pre (b.toNat ≠ 0) (k (.u8 (a % b)))
  | .and => k (.u8 (a &&& b))
  | .or => k (.u8 (a ||| b))
  | .xor => k (.u8 (a ^^^ b))
  | .andNot => k (.u8 (a &&& ~~~b))
  | .eql => k (.bool (decide (a = b)))
  | .neq => k (.bool (!decide (a = b)))
  | .lss => k (.bool (decide (a < b)))
  | .leq => k (.bool (decide (a ≤ b)))
  | .gtr => k (.bool (decide (b < a)))
  | .geq => k (.bool (decide (b ≤ a)))
  | _ => False
def u16K (op : BinOp) (a b : UInt16) (k : SV → Prop) : Prop :=
  match op with
  | .add => k (.u16 (a + b))
  | .sub => k (.u16 (a - b))
  | .mul => k (.u16 (a * b))
  | .quo => Pre (b.toNat ≠ 0) (k (.u16 (a / b)))
  | .rem => Pre (b.toNat ≠ 0) (k (.u16 (a % b)))
  | .and => k (.u16 (a &&& b))
  | .or => k (.u16 (a ||| b))
  | .xor => k (.u16 (a ^^^ b))
  | .andNot => k (.u16 (a &&& ~~~b))
  | .eql => k (.bool (decide (a = b)))
  | .neq => k (.bool (!decide (a = b)))
  | .lss => k (.bool (decide (a < b)))
  | .leq => k (.bool (decide (a ≤ b)))
  | .gtr => k (.bool (decide (b < a)))
  | .geq => k (.bool (decide (b ≤ a)))
  | _ => False
def u32K (op : BinOp) (a b : UInt32) (k : SV → Prop) : Prop :=
  match op with
  | .add => k (.u32 (a + b))
  | .sub => k (.u32 (a - b))
  | .mul => k (.u32 (a * b))
  | .quo => Pre (b.toNat ≠ 0) (k (.u32 (a / b)))
  | .rem => Pre (b.toNat ≠ 0) (k (.u32 (a % b)))
  | .and => k (.u32 (a &&& b))
  | .or => k (.u32 (a ||| b))
  | .xor => k (.u32 (a ^^^ b))
  | .andNot => k (.u32 (a &&& ~~~b))
  | .eql => k (.bool (decide (a = b)))
  | .neq => k (.bool (!decide (a = b)))
  | .lss => k (.bool (decide (a < b)))
  | .leq => k (.bool (decide (a ≤ b)))
  | .gtr => k (.bool (decide (b < a)))
  | .geq => k (.bool (decide (b ≤ a)))
  | _ => False
def u64K (op : BinOp) (a b : UInt64) (k : SV → Prop) : Prop :=
  match op with
  | .add => k (.u64 (a + b))
  | .sub => k (.u64 (a - b))
  | .mul => k (.u64 (a * b))
  | .quo => Pre (b.toNat ≠ 0) (k (.u64 (a / b)))
  | .rem => Pre (b.toNat ≠ 0) (k (.u64 (a % b)))
  | .and => k (.u64 (a &&& b))
  | .or => k (.u64 (a ||| b))
  | .xor => k (.u64 (a ^^^ b))
  | .andNot => k (.u64 (a &&& ~~~b))
  | .eql => k (.bool (decide (a = b)))
  | .neq => k (.bool (!decide (a = b)))
  | .lss => k (.bool (decide (a < b)))
  | .leq => k (.bool (decide (a ≤ b)))
  | .gtr => k (.bool (decide (b < a)))
  | .geq => k (.bool (decide (b ≤ a)))
  | _ => False

def shlK (x y : SV) (k : SV → Prop) : Prop :=
  cntK y fun n => match x with
    | .int a => Pre (n < 64 ∧ fits (a * 2 ^ n)) (k (.int (a * 2 ^ n)))
    | .u8 a => Pre (n < 8) (k (.u8 (a <<< UInt8.ofNat n)))
    | .u16 a => Pre (n < 16) (k (.u16 (a <<< UInt16.ofNat n)))
    | .u32 a => Pre (n < 32) (k (.u32 (a <<< UInt32.ofNat n)))
    | .u64 a => Pre (n < 64) (k (.u64 (a <<< UInt64.ofNat n)))
    | _ => False
def shrK (x y : SV) (k : SV → Prop) : Prop :=
  cntK y fun n => match x with
    | .int a => Pre (n < 64) (k (.int (a / 2 ^ n)))
    | .u8 a => Pre (n < 8) (k (.u8 (a >>> UInt8.ofNat n)))
    | .u16 a => Pre (n < 16) (k (.u16 (a >>> UInt16.ofNat n)))
    | .u32 a => Pre (n < 32) (k (.u32 (a >>> UInt32.ofNat n)))
    | .u64 a => Pre (n < 64) (k (.u64 (a >>> UInt64.ofNat n)))
    | _ => False

def strK (op : BinOp) (a b : List UInt8) (k : SV → Prop) : Prop :=
  match op with
  | .add => Pre (a.length + b.length < 9223372036854775808) (k (.str (a ++ b)))
  | .eql => k (.bool (decide (a = b)))
  | .neq => k (.bool (!decide (a = b)))
  | _ => False

def binK (op : BinOp) (x y : SV) (k : SV → Prop) : Prop :=
  match op with
  | .shl => shlK x y k
  | .shr => shrK x y k
  | op => match x, y with
    | .int a, .int b => intK op a b k
    | .u8 a, .u8 b => u8K op a b k
    | .u16 a, .u16 b => u16K op a b k
    | .u32 a, .u32 b => u32K op a b k
    | .u64 a, .u64 b => u64K op a b k
    | .str a, .str b => strK op a b k
    | _, _ => False

def unK (op : UnOp) (x : SV) (k : SV → Prop) : Prop :=
  match op, x with
  | .not, .bool b => k (.bool (!b))
  | .neg, .int a => Pre (fits (0 - a)) (k (.int (0 - a)))
  | .neg, .u8 a => k (.u8 (0 - a))
  | .neg, .u16 a => k (.u16 (0 - a))
  | .neg, .u32 a => k (.u32 (0 - a))
  | .neg, .u64 a => k (.u64 (0 - a))
  | .xor, .u8 a => k (.u8 (~~~a))
  | .xor, .u16 a => k (.u16 (~~~a))
  | .xor, .u32 a => k (.u32 (~~~a))
  | .xor, .u64 a => k (.u64 (~~~a))
  | _, _ => False

def convIntK (d : IntKind) (x : SV) (k : SV → Prop) : Prop :=
  match d, x with
  | .i64, .int n => Pre (fits n) (k (.int n))
  | .i64, .u8 a => k (.int a.toNat)
  | .i64, .u16 a => k (.int a.toNat)
  | .i64, .u32 a => k (.int a.toNat)
  | .i64, .u64 a => Pre (a.toNat < 9223372036854775808) (k (.int a.toNat))
  | .u8, .int n => k (.u8 (UInt8.ofInt n))
  | .u8, .u8 a => k (.u8 a)
  | .u8, .u16 a => k (.u8 a.toUInt8)
  | .u8, .u32 a => k (.u8 a.toUInt8)
  | .u8, .u64 a => k (.u8 a.toUInt8)
  | .u16, .int n => k (.u16 (UInt16.ofInt n))
  | .u16, .u8 a => k (.u16 a.toUInt16)
  | .u16, .u16 a => k (.u16 a)
  | .u16, .u32 a => k (.u16 a.toUInt16)
  | .u16, .u64 a => k (.u16 a.toUInt16)
  | .u32, .int n => k (.u32 (UInt32.ofInt n))
  | .u32, .u8 a => k (.u32 a.toUInt32)
  | .u32, .u16 a => k (.u32 a.toUInt32)
  | .u32, .u32 a => k (.u32 a)
  | .u32, .u64 a => k (.u32 a.toUInt32)
  | .u64, .int n => k (.u64 (UInt64.ofInt n))
  | .u64, .u8 a => k (.u64 a.toUInt64)
  | .u64, .u16 a => k (.u64 a.toUInt64)
  | .u64, .u32 a => k (.u64 a.toUInt64)
  | .u64, .u64 a => k (.u64 a)
  | _, _ => False

end Go.Sym

/-
  The symbolic engine, part 3: operations, calls, code. No program in sight; no condition.
-/
namespace Go.Sym

/-- an index that is not below 0 -/
def idxK (v : SV) (k : Nat → Prop) : Prop :=
  match v with
  | .int n => Pre (0 ≤ n) (k n.toNat)
  | .u8 x => k x.toNat
  | .u16 x => k x.toNat
  | .u32 x => k x.toNat
  | .u64 x => k x.toNat
  | _ => False

def optIdxK (tm : List (Nat × SV)) (x : Option Operand) (k : Option Nat → Prop) : Prop :=
  match x with
  | none => k none
  | some x => evK tm x fun v => idxK v fun n => k (some n)

def partsVK (tm : List (Nat × SV)) : List (Nat × Operand) → (List (Nat × SV) → Prop) → Prop
  | [], k => k []
  | (i, x) :: r, k => evK tm x fun v => partsVK tm r fun l => k ((i, v) :: l)

def partsK (hp : List Blk) (k : Nat) (K : TypeId → List SV → Prop) : Prop :=
  nthK hp k fun b => match b with | .mk el ps => K el ps | .dead => False

def allocK (hp : List Blk) (b : Blk) (K : Nat → List Blk → Prop) : Prop :=
  lenK hp fun n => snocK hp b fun hp' => K n hp'

/-- a slice's part: the row that it lies in -/
def rowK (hp : List Blk) (k j b : Nat) (K : SV → Prop) : Prop :=
  partsK hp k fun _ ps => splitK ps j b fun _ r => match r with | p :: _ => K p | [] => False

/-- a slice's bytes (of a string: its bytes) -/
def bytesK (hp : List Blk) (v : SV) (K : List UInt8 → Prop) : Prop :=
  match v with
  | .str l => K l
  | .nilsl => K []
  | .sl k j b o n _ => rowK hp k j b fun p => match p with
    | .arr8 _ l => Pre (off o + n ≤ l.length) (K ((l.drop (off o)).take n))
    | _ => False
  | _ => False

/-! ### equality -/
/-- the field at cell c of a value's parts -/
def fieldK (fi : TyI) (ps : List SV) (c : Nat) (k : SV → Prop) : Prop :=
  match c with
  | 0 => loadK fi ps 0 0 [] k
  | c + 1 => walkK ps 0 0 (c + 1) fun j b o => loadK fi ps j b o k

mutual
def eqK (Γ : Ctx) : Nat → TypeId → SV → SV → (Bool → Prop) → Prop
  | 0, _, _, _, _ => False
  | f + 1, t, x, y, k => lookK Γ.ty t fun ti => match ti.d with
    | .int .i64 => match x, y with | .int a, .int b => k (decide (a = b)) | _, _ => False
    | .int .u8 => match x, y with | .u8 a, .u8 b => k (decide (a = b)) | _, _ => False
    | .int .u16 => match x, y with | .u16 a, .u16 b => k (decide (a = b)) | _, _ => False
    | .int .u32 => match x, y with | .u32 a, .u32 b => k (decide (a = b)) | _, _ => False
    | .int .u64 => match x, y with | .u64 a, .u64 b => k (decide (a = b)) | _, _ => False
    | .bool => match x, y with | .bool a, .bool b => k (a == b) | _, _ => False
    | .str => match x, y with | .str a, .str b => k (decide (a = b)) | _, _ => False
    | .ptr => match x, y with | .nilptr, .nilptr => k true | .nilptr, .ptr .. => k false | .ptr .., .nilptr => k false | _, _ => False
    | .sl _ => match x, y with | .nilsl, .nilsl => k true | .nilsl, .sl .. => k false | .sl .., .nilsl => k false | _, _ => False
    | .func => match x, y with | .nilfn, .nilfn => k true | .nilfn, .func .. => k false | .func .., .nilfn => k false | _, _ => False
    | .arr n e => lookK Γ.ty e fun ei => match ei.d with
      | .int .u64 => match x, y with | .arr64 m a, .arr64 m' b => (match Nat.beq m n with | true => (match Nat.beq m' n with | true => k (decide (a = b)) | false => False) | false => False) | _, _ => False
      | .int .u32 => match x, y with | .arr32 m a, .arr32 m' b => (match Nat.beq m n with | true => (match Nat.beq m' n with | true => k (decide (a = b)) | false => False) | false => False) | _, _ => False
      | .int .u8 => match x, y with | .arr8 m a, .arr8 m' b => (match Nat.beq m n with | true => (match Nat.beq m' n with | true => k (decide (a = b)) | false => False) | false => False) | _, _ => False
      | .int .i64 => match x, y with | .arri m a, .arri m' b => (match Nat.beq m n with | true => (match Nat.beq m' n with | true => k (decide (a = b)) | false => False) | false => False) | _, _ => False
      | _ => False
    | .struct fs => match ti.eqOk with
      | true => match x.many with
        | true => match y.many with
          | true => flatK x fun xs => flatK y fun ys => eqLK Γ f fs xs ys k
          | false => False
        | false => False
      | false => False
    | _ => False
def eqLK (Γ : Ctx) : Nat → List (Nat × TypeId) → List SV → List SV → (Bool → Prop) → Prop
  | 0, _, _, _, _ => False
  | _ + 1, [], _, _, k => k true
  | f + 1, (c, t) :: fs, xs, ys, k => lookK Γ.ty t fun ti => fieldK ti xs c fun a => fieldK ti ys c fun b =>
      eqK Γ f t a b fun r => eqLK Γ f fs xs ys fun r' => k (r && r')
end

def binTK (Γ : Ctx) (op : BinOp) (t : TypeId) (x y : SV) (k : SV → Prop) : Prop :=
  match x with
  | .int _ | .u8 _ | .u16 _ | .u32 _ | .u64 _ | .str _ => binK op x y k
  | _ =>
    let go (k : Bool → Prop) : Prop := match x.many with
      | true => lookK Γ.ty t fun ti => match ti.eqOk with | true => eqK Γ 60 t x y k | false => False
      | false => eqK Γ 60 t x y k
    match op with
    | .eql => go fun r => k (.bool r)
    | .neq => go fun r => k (.bool (!r))
    | _ => False

/-! ### slicing -/
def slStrK (l : List UInt8) (lo hi : Option Nat) (K : SV → Prop) : Prop :=
  match lo, hi with
  | none, none => K (.str l)
  | none, some h => Pre (h ≤ l.length) (K (.str (l.take h)))
  | some a, none => Pre (a ≤ l.length) (K (.str (l.drop a)))
  | some a, some h => Pre (a ≤ h ∧ h ≤ l.length) (K (.str ((l.drop a).take (h - a))))

/-- the offset of a slice from a on, whose room ends at m: nothing is left of it where m is a -/
def slO (m a : Nat) : Nat := if m = a then 0 else a
attribute [irreducible] slO

/-- of memory with room for c elements of es cells, n of which count -/
def slMemK (k j b : Nat) (o : List (Nat × Nat)) (n c es : Nat) (lo hi mx : Option Nat) (K : SV → Prop) : Prop :=
  let go (m h : Nat) : Prop := match lo with
    | none => K (.sl k j b o h m)
    | some a => Pre (a ≤ h) (K (.sl k j b (addO o (slO m a) es) (h - a) (m - a)))
  match hi, mx with
  | none, none => go c n
  | some h, none => Pre (h ≤ c) (go c h)
  | some h, some m => Pre (h ≤ m ∧ m ≤ c) (go m h)
  | none, some _ => False

def zeroO (x : Option Nat) : Prop := match x with | none => True | some n => n = 0

def sliceK (Γ : Ctx) (t : TypeId) (x : SV) (lo hi mx : Option Nat) (K : SV → Prop) : Prop :=
  match x with
  | .str l => lookK Γ.ty t fun ti => match ti.d with
    | .str => match mx with | none => slStrK l lo hi K | some _ => False
    | _ => False
  | .nilsl => lookK Γ.ty t fun ti => match ti.d with
    | .sl e => lookK Γ.ty e fun _ => match hi, mx with | none, some _ => False | _, _ => Pre (zeroO lo ∧ zeroO hi ∧ zeroO mx) (K .nilsl)
    | _ => False
  | .sl k j b o n c => lookK Γ.ty t fun ti => match ti.d with
    | .sl e => lookK Γ.ty e fun ei => slMemK k j b o n c ei.sz lo hi mx K
    | _ => False
  | .ptr k j b o => lookK Γ.ty t fun ti => match ti.d with
    | .arr n e => lookK Γ.ty e fun ei => slMemK k j b o n n ei.sz lo hi mx K
    | _ => False
  | _ => False

/-! ### make, build, convert, append, copy -/
/-- n equal parts, written out -/
def repK (z : SV) : Nat → (List SV → Prop) → Prop
  | 0, k => k []
  | n + 1, k => repK z n fun l => k (z :: l)

/-- the parts of so many elements, each its type's zero -/
def madeK (z : SV) (c : Nat) (K : List SV → Prop) : Prop :=
  match z with
  | .u8 x => K [.arr8 c (List.replicate c x)]
  | .u32 x => K [.arr32 c (List.replicate c x)]
  | .u64 x => K [.arr64 c (List.replicate c x)]
  | .int x => K [.arri c (List.replicate c x)]
  | .str x => K [.arrs c (List.replicate c x)]
  | .bool x => K [.tab c 1 fun _ => [.bool x]]
  | .arr8 m (x :: l) => Pre (x :: l = List.replicate m x) (K [.arr8 (c * m) (List.replicate (c * m) x)])
  | .agg ps => toAtsK ps fun as => match as with | [] => False | a :: r => K [.tab c (r.length + 1) fun _ => a :: r]
  | .nilsl => repK .nilsl c K
  | .nilptr => repK .nilptr c K
  | .nilif => repK .nilif c K
  | .nilfn => repK .nilfn c K
  | _ => False

def makeK (Γ : Ctx) (t : TypeId) (hp : List Blk) (n c : Nat) (K : SV → List Blk → Prop) : Prop :=
  lookK Γ.ty t fun ti => match ti.d with
    | .sl e => lookK Γ.ty e fun ei => Pre (n ≤ c ∧ ei.bytes * c ≤ 281474976710656 ∧ c < 9223372036854775808)
        (madeK ei.zero c fun ps => allocK hp (.mk e ps) fun q hp' => K (.sl q 0 0 [] n c) hp')
    | _ => False

/-- element i of a row of elements, written -/
def putElemK (ei : TyI) (ps : List SV) (i : Nat) (v : SV) (k : List SV → Prop) : Prop :=
  let walk : Prop := walkK ps 0 0 (i * ei.sz) fun j b o => storeK ei ps j b o v k
  match ps with
  | [p] => match p.isRow with | true => storeK ei ps 0 0 [(i, ei.sz)] v k | false => walk
  | _ => walk

def putElemsK (ei : TyI) : List SV → List (Nat × SV) → (List SV → Prop) → Prop
  | ps, [], k => k ps
  | ps, (i, v) :: r, k => putElemK ei ps i v fun ps' => putElemsK ei ps' r k

def putFieldsK (Γ : Ctx) (fs : List (Nat × TypeId)) : List SV → List (Nat × SV) → (List SV → Prop) → Prop
  | ps, [], k => k ps
  | ps, (i, v) :: r, k => nthK fs i fun ft => lookK Γ.ty ft.2 fun fi => walkK ps 0 0 ft.1 fun j b o => storeK fi ps j b o v fun ps' => putFieldsK Γ fs ps' r k

def convK (Γ : Ctx) (src dst : TypeId) (x : SV) (hp : List Blk) (K : SV → List Blk → Prop) : Prop :=
  lookK Γ.ty src fun si => lookK Γ.ty dst fun di => match di.d with
    | .int d => convIntK d x fun v => K v hp
    | .str => match x with
      | .str l => K (.str l) hp
      | .nilsl => match si.d with
        | .sl e => lookK Γ.ty e fun ei => match ei.d with
          | .int .u8 => K (.str []) hp
          | _ => False
        | _ => False
      | .sl .. => match si.d with
        | .sl e => lookK Γ.ty e fun ei => match ei.d with
          | .int .u8 => bytesK hp x fun l => K (.str l) hp
          | _ => False
        | _ => False
      | _ => False
    | .sl e => match x with
      | .str l => lookK Γ.ty e fun ei => match ei.d with
        | .int .u8 => AllVC fun tail : List UInt8 => allocK hp (.mk e [.arr8 (l.length + tail.length) (l ++ tail)]) fun q hp' => K (.sl q 0 0 [] l.length (l.length + tail.length)) hp'
        | _ => False
      | _ => False
    | _ => False

/-- Go's copy of bytes -/
def copyK (Γ : Ctx) (t : TypeId) (dst src : SV) (hp : List Blk) (K : SV → List Blk → Prop) : Prop :=
  lookK Γ.ty t fun ti => match ti.d with
    | .sl e => lookK Γ.ty e fun ei => match Nat.beq ei.sz 1 with
      | true => bytesK hp src fun s => match dst with
        | .nilsl => K (.int 0) hp
        | .sl k j b o n _ => partsK hp k fun el ps => splitK ps j b fun a r => match r with
          | .arr8 w l :: r' => Pre (off o + min s.length n ≤ l.length) (appK a (.arr8 w (splice l (off o) (s.take (min s.length n))) :: r') fun ps' => setK hp k (.mk el ps') fun hp' => K (.int (min s.length n : Nat)) hp')
          | _ => False
        | _ => False
      | false => False
    | _ => False

def appBodyK (Γ : Ctx) (e : TypeId) (s x : SV) (hp : List Blk) (K : SV → List Blk → Prop) : Prop :=
  lookK Γ.ty e fun ei => match ei.zero with
    | .u8 _ => match Nat.beq ei.bytes 1 with
      | true => bytesK hp x fun new => match s with
        | .nilsl => CondVC (decide (new.length = 0)) (K .nilsl hp) (Pre (new.length ≤ 140737488355328)
            (AllVC fun tail : List UInt8 => allocK hp (.mk e [.arr8 (new.length + tail.length) (new ++ tail)]) fun q hp2 =>
              K (.sl q 0 0 [] new.length (new.length + tail.length)) hp2))
        | .sl k 0 0 [] n c => partsK hp k fun _ ps => match ps with
          | [.arr8 _ l] => Pre (n ≤ c ∧ c = l.length ∧ n + new.length ≤ 140737488355328)
              (AllVC fun tail : List UInt8 => setK hp k .dead fun hp1 => snocK hp1 (.mk e [.arr8 (n + new.length + tail.length) (l.take n ++ new ++ tail)]) fun hp2 => lenK hp fun q =>
                K (.sl q 0 0 [] (n + new.length) (n + new.length + tail.length)) hp2)
          | _ => False
        | _ => False
      | false => False
    | _ => False

def appendK (Γ : Ctx) (t u : TypeId) (s x : SV) (hp : List Blk) (K : SV → List Blk → Prop) : Prop :=
  lookK Γ.ty t fun ti => lookK Γ.ty u fun ui => match ti.d with
    | .sl e => match ui.d with
      | .str => appBodyK Γ e s x hp K
      | .sl _ => appBodyK Γ e s x hp K
      | _ => False
    | _ => False

/-- all of a struct's field types are known -/
def knownK (Γ : Ctx) : List (Nat × TypeId) → Prop → Prop
  | [], K => K
  | (_, t) :: fs, K => lookK Γ.ty t fun _ => knownK Γ fs K

def buildK (Γ : Ctx) (t : TypeId) (given : List (Nat × SV)) (K : SV → Prop) : Prop :=
  lookK Γ.ty t fun ti => match ti.zero.many with
    | true => flatK ti.zero fun zs => match ti.d with
      | .struct fs => knownK Γ fs (putFieldsK Γ fs zs given fun ps => K (.agg ps))
      | .arr _ e => lookK Γ.ty e fun ei => putElemsK ei zs given fun ps => packK ps K
      | _ => False
    | false => False

def buildSliceK (Γ : Ctx) (t : TypeId) (hp : List Blk) (n : Nat) (given : List (Nat × SV)) (K : SV → List Blk → Prop) : Prop :=
  lookK Γ.ty t fun ti => match ti.d with
    | .sl e => lookK Γ.ty e fun ei => Pre (n * ei.sz ≤ 16777216) (madeK ei.zero n fun zs => putElemsK ei zs given fun ps => allocK hp (.mk e ps) fun q hp' => K (.sl q 0 0 [] n n) hp')
    | _ => False

/-! ### calls -/
def elemB : List Nat → Nat → Bool
  | [], _ => false
  | x :: xs, n => match Nat.beq x n with | true => true | false => elemB xs n
/-- the place of n in a list (its length, if it is not there) -/
def idxOf : List Nat → Nat → Nat
  | [], _ => 0
  | x :: xs, n => match Nat.beq x n with | true => 0 | false => idxOf xs n + 1
def fwd : List Nat → Nat → Nat → Nat
  | [], n, i => n + i
  | x :: _, _, 0 => x
  | _ :: xs, n, i + 1 => fwd xs n i
def nodupB : List Nat → Bool
  | [] => true
  | x :: xs => match elemB xs x with | true => false | false => nodupB xs

def reachK (hp : List Blk) : Nat → List Nat → List Nat → (List Nat → Prop) → Prop
  | 0, _, _, _ => False
  | _ + 1, [], seen, K => K seen
  | f + 1, k :: todo, seen, K => match elemB seen k with
    | true => reachK hp f todo seen K
    | false => nthK hp k fun b => match b with
      | .mk _ ps => snocK seen k fun seen' => appK (ksL ps) todo fun todo' => reachK hp f todo' seen' K
      | .dead => snocK seen k fun seen' => reachK hp f todo seen' K

def subHeapK (hp : List Blk) (g : Nat → Nat) (ι0 : List Nat) : List Nat → (List Blk → Prop) → Prop
  | [], K => K []
  | i :: is, K => nthK hp i fun b => match b with
    | .mk el ps => match allL (elemB ι0) ps with
      | true => subHeapK hp g ι0 is fun l => K (.mk el (renL g ps) :: l)
      | false => False
    | .dead => subHeapK hp g ι0 is fun l => K (.dead :: l)

/-- the caller's blocks behind the call -/
def backK (g : Nat → Nat) : List Nat → List Blk → List Blk → (List Blk → Prop) → Prop
  | [], new, hp, K => newK new hp K
  | i :: is, b :: bs, hp, K => setK hp i (b.ren g) fun hp' => backK g is bs hp' K
  | _ :: _, [], _, _ => False
where newK : List Blk → List Blk → (List Blk → Prop) → Prop
  | [], hp, K => K hp
  | b :: bs, hp, K => snocK hp (b.ren g) fun hp' => newK bs hp' K

def callK (S : Spec) (args : List SV) (hp : List Blk) (K : SV → List Blk → Prop) : Prop :=
  match ksL args with
  | [] => S args [] fun r h' => match h' with
    | [] => match ksL [r] with | [] => K r hp | _ => False
    | _ => lenK hp fun n => backK (fun i => n + i) [] h' hp fun hp' => K (r.ren fun i => n + i) hp'
  | _ => reachK hp 200 (ksL args) [] fun ι => match nodupB ι with
    | true => match allL (elemB ι) args with
      | true => subHeapK hp (idxOf ι) ι ι fun h => S (renL (idxOf ι) args) h fun r h' => lenK hp fun n => backK (fwd ι n) ι h' hp fun hp' => K (r.ren (fwd ι n)) hp'
      | false => False
    | false => False

/-! ### operations -/
/-- operations that only reckon: no memory is read -/
def pureK (Γ : Ctx) (op : Op) (tm : List (Nat × SV)) (put : SV → Prop) : Prop :=
  match op with
  | .move x | .assign x => evK tm x put
  | .pick c a b => evK tm c fun cv => evK tm a fun av => evK tm b fun bv => match cv with
    | .bool t => CondVC t (put av) (put bv)
    | _ => False
  | .build t ps => partsVK tm ps.toList fun given => buildK Γ t given put
  | .nilCheck x => evK tm x fun v => match v with
    | .ptr .. => put v
    | .xptr _ => put v
    | .func .. => put v
    | _ => False
  | .binOp op t x y _ => evK tm x fun a => evK tm y fun b => binTK Γ op t a b put
  | .unOp op _ x => evK tm x fun a => unK op a put
  | .slice t x lo hi mx => evK tm x fun v => optIdxK tm lo fun lo => optIdxK tm hi fun hi => optIdxK tm mx fun mx => sliceK Γ t v lo hi mx put
  | .field s x f => lookK Γ.ty s fun si => match si.d with
    | .struct fs => nthK fs f fun ft => lookK Γ.ty ft.2 fun fi => evK tm x fun v => match v.many with | true => flatK v fun ps => fieldK fi ps ft.1 put | false => False
    | _ => False
  | .indexAddr t x i => lookK Γ.ty t fun ti => evK tm x fun v => evK tm i fun iv => idxK iv fun ix => match ti.d with
    | .arr n e => lookK Γ.ty e fun ei => match v with
      | .ptr k j b oo => Pre (ix < n) (put (.ptr k j b (addO oo ix ei.sz)))
      | _ => False
    | .sl e => lookK Γ.ty e fun ei => match v with
      | .sl k j b oo n _ => Pre (ix < n) (put (.ptr k j b (addO oo ix ei.sz)))
      | .xsl a n _ => Pre (ix < n) (put (.xptr ((a.getD ⟨0, 0, none⟩).add (ix * ei.sz))))
      | _ => False
    | _ => False
  | .index t x i => lookK Γ.ty t fun ti => evK tm x fun v => evK tm i fun iv => idxK iv fun ix => match v with
    | .str l => match ti.d with
      | .str => Pre (ix < l.length) (put (.u8 (l.getD ix 0)))
      | _ => False
    | v => match ti.d with
      | .arr n e => lookK Γ.ty e fun ei => match v.many with
        | true => Pre (ix < n) (loadK ei [v] 0 0 [(ix, ei.sz)] put)
        | false => False
      | _ => False
  | .extract x i => evK tm x fun v => match v with
    | .tup vs => nthK vs i put
    | _ => False
  | .convert s d x => lookK Γ.ty s fun _ => lookK Γ.ty d fun di => match di.d with
    | .int k => evK tm x fun v => convIntK k v put
    | _ => False
  | .call c => evsK tm c.args.toList fun args => match c.callee with
    | .builtin .len => match c.argTypes.toList with
      | [t] => lookK Γ.ty t fun ti => match ti.d with
        | .str => match args with
          | [.str l] => put (.int l.length)
          | _ => False
        | .sl _ => match args with
          | [.sl _ _ _ _ n _] => put (.int n)
          | [.nilsl] => put (.int 0)
          | [.xsl _ n _] => put (.int n)
          | _ => False
        | .arr n _ => match args with
          | [_] => put (.int n)
          | _ => False
        | _ => False
      | _ => False
    | .builtin .min => match args with
      | [.int a, .int b] => put (.int (min a b))
      | [.int a, .int b, .int c] => put (.int (min (min a b) c))
      | _ => False
    | .builtin .max => match args with
      | [.int a, .int b] => put (.int (max a b))
      | [.int a, .int b, .int c] => put (.int (max (max a b) c))
      | _ => False
    | _ => False
  | _ => False

/-- operations that read memory, and turn none -/
def readK (Γ : Ctx) (op : Op) (tm : List (Nat × SV)) (hp : List Blk) (put : SV → Prop) : Prop :=
  match op with
  | .load t x => lookK Γ.ty t fun ti => evK tm x fun v => match v with
    | .ptr k j b oo => partsK hp k fun _ ps => loadK ti ps j b oo put
    | .xptr a => ExtVC (Γ.ext a t) put
    | _ => False
  | .fieldAddr s x f => lookK Γ.ty s fun si => match si.d with
    | .struct fs => nthK fs f fun ft => lookK Γ.ty ft.2 fun fi => match fi.sz with
      | 0 => False
      | _ + 1 => evK tm x fun v => match v with
        | .ptr k j b oo => match ft.1 with
          | 0 => put (.ptr k j b oo)
          | c + 1 => match oo with
            | [] => partsK hp k fun _ ps => splitK ps j b fun _ r => walkK r j b (c + 1) fun j' b' o' => put (.ptr k j' b' o')
            | _ => put (.ptr k j b (addO oo (c + 1) 1))
        | .xptr a => put (.xptr (a.add ft.1))
        | _ => False
    | _ => False
  | .convert s d x => lookK Γ.ty s fun si => lookK Γ.ty d fun di => match di.d with
    | .str => evK tm x fun v => match v with
      | .str l => put (.str l)
      | .nilsl => match si.d with
        | .sl e => lookK Γ.ty e fun ei => match ei.d with
          | .int .u8 => put (.str [])
          | _ => False
        | _ => False
      | .sl .. => match si.d with
        | .sl e => lookK Γ.ty e fun ei => match ei.d with
          | .int .u8 => bytesK hp v fun l => put (.str l)
          | _ => False
        | _ => False
      | _ => False
    | _ => False
  | _ => False

/-- operations that make memory, out of nothing but their operands; n: the new block's number -/
def makerK (Γ : Ctx) (op : Op) (tm : List (Nat × SV)) (n : Nat) (put : SV → Blk → Prop) : Prop :=
  match op with
  | .alloc t => lookK Γ.ty t fun ti => flatK ti.zero fun ps => put (.ptr n 0 0 []) (.mk t ps)
  | .box t x => evK tm x fun v => flatK v fun ps => put (.ptr n 0 0 []) (.mk t ps)
  | .buildSlice t m ps => partsVK tm ps.toList fun given => lookK Γ.ty t fun ti => match ti.d with
    | .sl e => lookK Γ.ty e fun ei => Pre (m * ei.sz ≤ 16777216) (madeK ei.zero m fun zs => putElemsK ei zs given fun ps => put (.sl n 0 0 [] m m) (.mk e ps))
    | _ => False
  | .makeSlice t l c => evK tm l fun lv => evK tm c fun cv => idxK lv fun l => idxK cv fun c => lookK Γ.ty t fun ti => match ti.d with
    | .sl e => lookK Γ.ty e fun ei => Pre (l ≤ c ∧ ei.bytes * c ≤ 281474976710656 ∧ c < 9223372036854775808) (madeK ei.zero c fun ps => put (.sl n 0 0 [] l c) (.mk e ps))
    | _ => False
  | _ => False

/-- the rest: what writes memory, calls, makes memory of a size that is drawn; skip: what yields nothing -/
def anchorK (Γ : Ctx) (op : Op) (tm : List (Nat × SV)) (hp : List Blk) (put : SV → List Blk → Prop) (skip : List Blk → Prop) : Prop :=
  match op with
  | .store t x y => lookK Γ.ty t fun ti => evK tm x fun v => evK tm y fun u => match v with
    | .ptr k j b oo => partsK hp k fun el ps => storeK ti ps j b oo u fun ps' => setK hp k (.mk el ps') skip
    | _ => False
  | .convert s d x => evK tm x fun a => convK Γ s d a hp put
  | .call c => evsK tm c.args.toList fun args => match c.callee with
    | .value f => evK tm f fun fv => match fv with
      | .func fi caps => lookK Γ.fn fi fun S => appK args caps fun all => callK S all hp put
      | _ => False
    | .builtin .copy => match args with
      | [d, s] => match c.argTypes.toList with
        | t :: _ => copyK Γ t d s hp put
        | [] => False
      | _ => False
    | .builtin .append => match args with
      | [s, x] => match c.argTypes.toList with
        | [t, u] => appendK Γ t u s x hp put
        | _ => False
      | _ => False
    | _ => False
  | _ => False

inductive Kind where
  | pure | read | maker | anchor
  deriving DecidableEq

def isInt : Option TyI → Bool
  | some ⟨.int _, _, _, _, _⟩ => true
  | _ => false
def isStr : Option TyI → Bool
  | some ⟨.str, _, _, _, _⟩ => true
  | _ => false
def find {α : Type} : List (Nat × α) → Nat → Option α
  | [], _ => none
  | (i, v) :: r, n => match Nat.beq i n with | true => some v | false => find r n

/-- which of the four -/
def kindOf (Γ : Ctx) (op : Op) : Kind :=
  match op with
  | .load .. | .fieldAddr .. => .read
  | .alloc _ | .box .. | .buildSlice .. | .makeSlice .. => .maker
  | .store .. => .anchor
  | .convert _ d _ => match isInt (find Γ.ty d) with
    | true => .pure
    | false => match isStr (find Γ.ty d) with | true => .read | false => .anchor
  | .call c => match c.callee with
    | .builtin .len | .builtin .min | .builtin .max => .pure
    | _ => .anchor
  | _ => .pure

def vcOp (Γ : Ctx) (o : Oper) (tm : List (Nat × SV)) (hp : List Blk) (K : St → Prop) : Prop :=
  match kindOf Γ o.op with
  | .pure => pureK Γ o.op tm fun v => putK Γ.nt tm hp o.dst v K
  | .read => readK Γ o.op tm hp fun v => putK Γ.nt tm hp o.dst v K
  | .maker => lenK hp fun n => makerK Γ o.op tm n fun v b => snocK hp b fun hp' => putK Γ.nt tm hp' o.dst v K
  | .anchor => anchorK Γ o.op tm hp (fun v hp' => putK Γ.nt tm hp' o.dst v K) fun hp' => match o.dst with
    | none => K ⟨tm, hp'⟩
    | some _ => False

/-- an operation under its guard: what a guard forbids yields nothing -/
def vcG (Γ : Ctx) (ops : List Oper) (o : Oper) (tm : List (Nat × SV)) (hp : List Blk) (K : St → Prop) : Prop :=
  match o.guard with
  | none => vcOp Γ o tm hp K
  | some (j, want) => nthK ops j fun g => match g.dst with
    | some d => lookK tm d fun v => match v with
      | .bool t => CondVC (t == want) (vcOp Γ o tm hp K) (putK Γ.nt tm hp o.dst (.tup []) K)
      | _ => False
    | none => False

def vcOps (Γ : Ctx) (all : List Oper) : List Oper → St → (St → Prop) → Prop
  | [], st, K => K st
  | o :: os, st, K => match st with | ⟨tm, hp⟩ => vcG Γ all o tm hp fun st' => vcOps Γ all os st' K

end Go.Sym

/-
  The symbolic engine, part 4: what a symbolic heap says of the model's memory; reading and writing cells. No program in sight; no condition beyond each lemma's own.
-/
namespace Go.Sym

/-- the live blocks are there, whole, writable, each another one -/
structure HpRel (ρ : Nat → Nat) (hp : List Blk) (w : World) : Prop where
  mem : ∀ k el ps, hp[k]? = some (.mk el ps) → okL (· < hp.length) ps ∧
    ∃ (el' : TypeId) (fz : Nat × Nat), w.heap[ρ k]? = some (.cells (cellsL ρ ps).toArray el' fz) ∧ (fz.2 ≤ fz.1 ∨ (cellsL ρ ps).length ≤ fz.1)
  inj : ∀ k k' el ps el' ps', hp[k]? = some (.mk el ps) → hp[k']? = some (.mk el' ps') → ρ k = ρ k' → k = k'

/-- the memory that the live blocks are -/
def Foot (ρ : Nat → Nat) (hp : List Blk) (b : Nat) : Prop := ∃ k el ps, hp[k]? = some (.mk el ps) ∧ ρ k = b

/-- all that stood in memory, but for F, stands there as it did -/
structure Ext (F : Nat → Prop) (w w' : World) : Prop where
  size : w.heap.size ≤ w'.heap.size
  keep : ∀ b, b < w.heap.size → ¬ F b → w'.heap[b]? = w.heap[b]?
  os : w'.os = w.os
  out : w'.output = w.output
  tape : w'.tape = w.tape

theorem Ext.refl (F : Nat → Prop) (w : World) : Ext F w w := ⟨Nat.le_refl _, fun _ _ _ => rfl, rfl, rfl, rfl⟩
theorem Ext.trans {F G : Nat → Prop} {w w1 w2 : World} (h : Ext F w w1) (h' : Ext G w1 w2) (hF : ∀ b, G b → F b ∨ w.heap.size ≤ b) : Ext F w w2 :=
  ⟨Nat.le_trans h.size h'.size, fun b hb hn => by
    rw [h'.keep b (Nat.lt_of_lt_of_le hb h.size) (fun hg => (hF b hg).elim hn (fun hl => absurd hb (Nat.not_lt.2 hl))), h.keep b hb hn],
   h'.os.trans h.os, h'.out.trans h.out, h'.tape.trans h.tape⟩
theorem Ext.mono {F G : Nat → Prop} {w w1 : World} (h : Ext F w w1) (hF : ∀ b, F b → G b) : Ext G w w1 :=
  ⟨h.size, fun b hb hn => h.keep b hb (fun hf => hn (hF b hf)), h.os, h.out, h.tape⟩

/-- from one symbolic heap to a later one -/
structure Step (ρ : Nat → Nat) (hp : List Blk) (w : World) (ρ' : Nat → Nat) (hp' : List Blk) (w' : World) : Prop where
  rel : HpRel ρ' hp' w'
  same : ∀ k, k < hp.length → ρ' k = ρ k
  le : hp.length ≤ hp'.length
  ext : Ext (Foot ρ hp) w w'
  foot : ∀ b, Foot ρ' hp' b → Foot ρ hp b ∨ w.heap.size ≤ b

theorem Step.refl {ρ : Nat → Nat} {hp : List Blk} {w : World} (h : HpRel ρ hp w) : Step ρ hp w ρ hp w :=
  ⟨h, fun _ _ => rfl, Nat.le_refl _, Ext.refl _ _, fun _ h => .inl h⟩

/-! ### what the engine's steps over lists come to -/
theorem snocK_e {α : Type} {l : List α} {x : α} {k : List α → Prop} (h : snocK l x k) : k (l ++ [x]) := by
  induction l generalizing k with
  | nil => exact h
  | cons y ys ih => exact ih h
theorem appK_e {α : Type} {a b : List α} {k : List α → Prop} (h : appK a b k) : k (a ++ b) := by
  induction a generalizing k with
  | nil => exact h
  | cons y ys ih => exact ih h
theorem setK_e {α : Type} {l : List α} {i : Nat} {y : α} {k : List α → Prop} (h : setK l i y k) : i < l.length ∧ k (l.set i y) := by
  induction l generalizing k i with
  | nil => exact h.elim
  | cons x xs ih =>
    cases i with
    | zero => exact ⟨by simp, h⟩
    | succ i => obtain ⟨h1, h2⟩ := ih h; exact ⟨by simp; omega, h2⟩
theorem nthK_e {α : Type} {l : List α} {i : Nat} {k : α → Prop} (h : nthK l i k) : ∃ x, l[i]? = some x ∧ k x := by
  induction l generalizing i with
  | nil => exact h.elim
  | cons x xs ih =>
    cases i with
    | zero => exact ⟨x, rfl, h⟩
    | succ i => obtain ⟨y, h1, h2⟩ := ih h; exact ⟨y, by simpa using h1, h2⟩
def look {α : Type} : List (Nat × α) → Nat → Option α
  | [], _ => none
  | (i, v) :: r, n => if i = n then some v else look r n
theorem lookK_e {α : Type} {l : List (Nat × α)} {n : Nat} {k : α → Prop} (h : lookK l n k) : ∃ x, look l n = some x ∧ k x := by
  induction l with
  | nil => exact h.elim
  | cons p r ih =>
    obtain ⟨i, v⟩ := p
    simp only [lookK] at h
    simp only [look]
    split at h
    · rename_i e; rw [if_pos (Nat.eq_of_beq_eq_true e)]; exact ⟨v, rfl, h⟩
    · rename_i e; rw [if_neg (Nat.ne_of_beq_eq_false e)]; exact ih h
theorem lenK_e {α : Type} {l : List α} {k : Nat → Prop} (h : lenK l k) : k l.length := by
  unfold lenK at h
  split at h <;> exact h
theorem flat_all {p : Nat → Prop} (ρ : Nat → Nat) :
    (∀ v : SV, ∀ k : List SV → Prop, flatK v k → ∃ fs, k fs ∧ cellsL ρ fs = v.cells ρ ∧ sizeL fs = v.size ∧ (v.ok p → okL p fs)) ∧
    (∀ vs : List SV, ∀ k : List SV → Prop, flatLK vs k → ∃ fs, k fs ∧ cellsL ρ fs = cellsL ρ vs ∧ sizeL fs = sizeL vs ∧ (okL p vs → okL p fs)) := by
  have scal : ∀ v : SV, ∀ k : List SV → Prop, k [v] → ∃ fs, k fs ∧ cellsL ρ fs = v.cells ρ ∧ sizeL fs = v.size ∧ (v.ok p → okL p fs) :=
    fun v k h => ⟨[v], h, by simp [cellsL], by simp [sizeL], fun hv => ⟨hv, trivial⟩⟩
  refine ⟨fun v => ?_, fun vs => ?_⟩
  · exact SV.rec (motive_1 := fun v => ∀ k : List SV → Prop, flatK v k → ∃ fs, k fs ∧ cellsL ρ fs = v.cells ρ ∧ sizeL fs = v.size ∧ (v.ok p → okL p fs))
      (motive_2 := fun vs => ∀ k : List SV → Prop, flatLK vs k → ∃ fs, k fs ∧ cellsL ρ fs = cellsL ρ vs ∧ sizeL fs = sizeL vs ∧ (okL p vs → okL p fs))
      (fun b k h => scal (.bool b) k h) (fun b k h => scal (.int b) k h) (fun b k h => scal (.u8 b) k h) (fun b k h => scal (.u16 b) k h) (fun b k h => scal (.u32 b) k h)
      (fun b k h => scal (.u64 b) k h) (fun b k h => scal (.str b) k h) (fun a b c d k h => scal (.ptr a b c d) k h) (fun k h => scal .nilptr k h)
      (fun a b c d e f k h => scal (.sl a b c d e f) k h) (fun k h => scal .nilsl k h) (fun a b _ k h => scal (.func a b) k h) (fun k h => scal .nilfn k h)
      (fun k h => scal .nilif k h) (fun a b _ k h => scal (.iface a b) k h) (fun a b k h => scal (.arr8 a b) k h) (fun a b k h => scal (.arr32 a b) k h) (fun a b k h => scal (.arr64 a b) k h)
      (fun a b k h => scal (.arri a b) k h) (fun a b k h => scal (.arrs a b) k h) (fun a b c k h => scal (.tab a b c) k h)
      (fun ps ih k h => by
        obtain ⟨fs, h1, h2, h3, h4⟩ := ih k h
        exact ⟨fs, h1, h2, h3, h4⟩)
      (fun vs _ k h => scal (.tup vs) k h) (fun a k h => scal (.xptr a) k h) (fun a n c k h => scal (.xsl a n c) k h)
      (fun k h => ⟨[], h, rfl, rfl, fun _ => trivial⟩)
      (fun v vs ihv ihs k h => by
        obtain ⟨a, h1, h2, h3, h4⟩ := ihv _ h
        obtain ⟨b, g1, g2, g3, g4⟩ := ihs _ h1
        refine ⟨a ++ b, appK_e g1, ?_, ?_, fun hv => okL_append.2 ⟨h4 hv.1, g4 hv.2⟩⟩
        · rw [cellsL_append, h2, g2]; rfl
        · have : ∀ x y : List SV, sizeL (x ++ y) = sizeL x + sizeL y := fun x y => by
            induction x with
            | nil => simp [sizeL]
            | cons z zs ih => simp only [List.cons_append, sizeL, ih]; omega
          rw [this, h3, g3]; rfl) v
  · induction vs with
    | nil => exact fun k h => ⟨[], h, rfl, rfl, fun _ => trivial⟩
    | cons v vs ihs =>
      intro k h
      have ihv : ∀ k : List SV → Prop, flatK v k → ∃ fs, k fs ∧ cellsL ρ fs = v.cells ρ ∧ sizeL fs = v.size ∧ (v.ok p → okL p fs) := by
        exact SV.rec (motive_1 := fun v => ∀ k : List SV → Prop, flatK v k → ∃ fs, k fs ∧ cellsL ρ fs = v.cells ρ ∧ sizeL fs = v.size ∧ (v.ok p → okL p fs))
          (motive_2 := fun vs => ∀ k : List SV → Prop, flatLK vs k → ∃ fs, k fs ∧ cellsL ρ fs = cellsL ρ vs ∧ sizeL fs = sizeL vs ∧ (okL p vs → okL p fs))
          (fun b k h => scal (.bool b) k h) (fun b k h => scal (.int b) k h) (fun b k h => scal (.u8 b) k h) (fun b k h => scal (.u16 b) k h) (fun b k h => scal (.u32 b) k h)
          (fun b k h => scal (.u64 b) k h) (fun b k h => scal (.str b) k h) (fun a b c d k h => scal (.ptr a b c d) k h) (fun k h => scal .nilptr k h)
          (fun a b c d e f k h => scal (.sl a b c d e f) k h) (fun k h => scal .nilsl k h) (fun a b _ k h => scal (.func a b) k h) (fun k h => scal .nilfn k h)
          (fun k h => scal .nilif k h) (fun a b _ k h => scal (.iface a b) k h) (fun a b k h => scal (.arr8 a b) k h) (fun a b k h => scal (.arr32 a b) k h) (fun a b k h => scal (.arr64 a b) k h)
          (fun a b k h => scal (.arri a b) k h) (fun a b k h => scal (.arrs a b) k h) (fun a b c k h => scal (.tab a b c) k h)
          (fun ps ih k h => by
            obtain ⟨fs, h1, h2, h3, h4⟩ := ih k h
            exact ⟨fs, h1, h2, h3, h4⟩)
          (fun vs _ k h => scal (.tup vs) k h) (fun a k h => scal (.xptr a) k h) (fun a n c k h => scal (.xsl a n c) k h)
          (fun k h => ⟨[], h, rfl, rfl, fun _ => trivial⟩)
          (fun v vs ihv ihs k h => by
            obtain ⟨a, h1, h2, h3, h4⟩ := ihv _ h
            obtain ⟨b, g1, g2, g3, g4⟩ := ihs _ h1
            refine ⟨a ++ b, appK_e g1, ?_, ?_, fun hv => okL_append.2 ⟨h4 hv.1, g4 hv.2⟩⟩
            · rw [cellsL_append, h2, g2]; rfl
            · have : ∀ x y : List SV, sizeL (x ++ y) = sizeL x + sizeL y := fun x y => by
                induction x with
                | nil => simp [sizeL]
                | cons z zs ih => simp only [List.cons_append, sizeL, ih]; omega
              rw [this, h3, g3]; rfl) v
      obtain ⟨a, h1, h2, h3, h4⟩ := ihv _ h
      obtain ⟨b, g1, g2, g3, g4⟩ := ihs _ h1
      refine ⟨a ++ b, appK_e g1, ?_, ?_, fun hv => okL_append.2 ⟨h4 hv.1, g4 hv.2⟩⟩
      · rw [cellsL_append, h2, g2]; rfl
      · have : ∀ x y : List SV, sizeL (x ++ y) = sizeL x + sizeL y := fun x y => by
          induction x with
          | nil => simp [sizeL]
          | cons z zs ih => simp only [List.cons_append, sizeL, ih]; omega
        rw [this, h3, g3]; rfl
theorem flatK_e {p : Nat → Prop} (ρ : Nat → Nat) {v : SV} {k : List SV → Prop} (h : flatK v k) : ∃ fs, k fs ∧ cellsL ρ fs = v.cells ρ ∧ sizeL fs = v.size ∧ (v.ok p → okL p fs) :=
  (flat_all ρ).1 v k h
theorem sizeL_append (a b : List SV) : sizeL (a ++ b) = sizeL a + sizeL b := by
  induction a with
  | nil => simp [sizeL]
  | cons x r ih => simp only [List.cons_append, sizeL, ih]; omega
theorem splitK_e {ps : List SV} {j b : Nat} {k : List SV → List SV → Prop} (h : splitK ps j b k) : ∃ a r, ps = a ++ r ∧ sizeL a = b ∧ k a r := by
  induction ps generalizing j b k with
  | nil =>
    cases j with
    | zero =>
      simp only [splitK] at h
      split at h
      · rename_i e; exact ⟨[], [], rfl, (Nat.eq_of_beq_eq_true e).symm, h⟩
      · exact h.elim
    | succ j => exact h.elim
  | cons p ps ih =>
    cases j with
    | zero =>
      simp only [splitK] at h
      split at h
      · rename_i e; exact ⟨[], p :: ps, rfl, (Nat.eq_of_beq_eq_true e).symm, h⟩
      · exact h.elim
    | succ j =>
      simp only [splitK] at h
      split at h
      · rename_i e
        obtain ⟨a, r, h1, h2, h3⟩ := ih h
        exact ⟨p :: a, r, by rw [h1]; rfl, by simp only [sizeL, h2]; have := Nat.le_of_ble_eq_true e; omega, h3⟩
      · exact h.elim
theorem takeK_e {ps : List SV} {n : Nat} {k : List SV → List SV → Prop} (h : takeK ps n k) : ∃ a r, ps = a ++ r ∧ sizeL a = n ∧ k a r := by
  induction ps generalizing n k with
  | nil =>
    cases n with
    | zero => exact ⟨[], [], rfl, rfl, h⟩
    | succ n => exact h.elim
  | cons p ps ih =>
    cases n with
    | zero => exact ⟨[], p :: ps, rfl, rfl, h⟩
    | succ n =>
      simp only [takeK] at h
      split at h
      · rename_i e
        obtain ⟨a, r, h1, h2, h3⟩ := ih h
        exact ⟨p :: a, r, by rw [h1]; rfl, by simp only [sizeL, h2]; have := Nat.le_of_ble_eq_true e; omega, h3⟩
      · exact h.elim
theorem isRow_many {v : SV} (h : v.isRow = true) : v.many = true := by cases v <;> first | rfl | (simp [SV.isRow] at h)
theorem packK_e {p : Nat → Prop} {ps : List SV} {k : SV → Prop} (h : packK ps k) : ∃ v : SV, v.many = true ∧ (∀ ρ, v.cells ρ = cellsL ρ ps) ∧ (okL p ps → v.ok p) ∧ k v := by
  unfold packK at h
  split at h
  · rename_i q
    split at h
    · rename_i e; exact ⟨q, isRow_many e, fun ρ => by simp [cellsL], fun hp => hp.1, h⟩
    · exact ⟨.agg [q], rfl, fun ρ => rfl, fun hp => hp, h⟩
  · exact ⟨.agg ps, rfl, fun ρ => rfl, fun hp => hp, h⟩
theorem walkK_e {ps : List SV} {j b c : Nat} {k : Nat → Nat → List (Nat × Nat) → Prop} (h : walkK ps j b c k) : ∃ j' b' o', b' + off o' = b + c ∧ k j' b' o' := by
  induction ps generalizing j b c with
  | nil =>
    cases c with
    | zero => exact ⟨j, b, [], by simp [off], h⟩
    | succ c => exact h.elim
  | cons p ps ih =>
    cases c with
    | zero => exact ⟨j, b, [], by simp [off], h⟩
    | succ c =>
      simp only [walkK] at h
      split at h
      · rename_i e
        obtain ⟨j', b', o', h1, h2⟩ := ih h
        exact ⟨j', b', o', by have := Nat.le_of_ble_eq_true e; omega, h2⟩
      · split at h
        · exact ⟨j, b, [(c + 1, 1)], by simp [off, offE_eq], h⟩
        · exact h.elim
theorem off_addO (o : List (Nat × Nat)) (i e : Nat) : off (addO o i e) = off o + i * e := by
  induction o with
  | nil => simp [addO, off, offE_eq]
  | cons x r ih =>
    obtain ⟨i', e'⟩ := x
    cases r with
    | nil =>
      simp only [addO]
      split
      · rename_i h
        have := Nat.eq_of_beq_eq_true h
        subst this
        simp [off, offE_eq, Nat.add_mul]
      · simp [off, offE_eq]
    | cons y r => simp only [addO]; rw [off_cons, off_cons, ih]; omega

/-! ### memory -/
theorem HpRel.cell {ρ : Nat → Nat} {hp : List Blk} {w : World} (h : HpRel ρ hp w) {k : Nat} {el : TypeId} {ps : List SV} (hk : hp[k]? = some (.mk el ps)) (i : Nat) :
    w.cell? ⟨ρ k, i, none⟩ = (cellsL ρ ps)[i]? := by
  obtain ⟨_, _, fz, h1, _⟩ := h.mem k el ps hk
  simp [World.cell?, h1]
theorem addr_add (b s n : Nat) : (⟨b, s, none⟩ : Addr).add n = ⟨b, s + n, none⟩ := by
  unfold Addr.add
  split
  · rename_i e; subst e; rfl
  · rfl
/-- so many cells, read -/
theorem run_loadCells_part {P : Program} {w : World} {b s : Nat} {L M : List Value} (hc : ∀ i, w.cell? ⟨b, i, none⟩ = L[i]?) (hM : ∀ i, i < M.length → L[s + i]? = M[i]?) :
    (loadCells ⟨b, s, none⟩ M.length).run P w = .ok M.toArray w := by
  refine run_loadCells_list w _ M fun j v hv => ?_
  rw [addr_add, hc]
  have hj : j < M.length := by
    rcases Nat.lt_or_ge j M.length with h | h
    · exact h
    · rw [List.getElem?_eq_none h] at hv; cases hv
  rw [hM j hj, hv]

def World.putAt (w : World) (b : Nat) (o : Obj) : World := { w with heap := w.heap.setIfInBounds b o }

theorem run_storeCells_part {P : Program} {b s : Nat} {el : TypeId} {fz : Nat × Nat} : ∀ (vs : List Value) (i : Nat) (L : List Value) (w : World),
    w.heap[b]? = some (.cells L.toArray el fz) → (fz.2 ≤ fz.1 ∨ L.length ≤ fz.1) → s + i + vs.length ≤ L.length → (∀ v ∈ vs, v.oneCell' = true) →
    (storeCells ⟨b, s, none⟩ vs i).run P w = .ok () (World.putAt w b (.cells (splice L (s + i) vs).toArray el fz))
  | [], i, L, w, hb, _, hl, _ => by
    have e : splice L (s + i) [] = L := by simp [splice]
    have hlt : b < w.heap.size := (Array.getElem?_eq_some_iff.1 hb).1
    have hv : w.heap[b] = .cells L.toArray el fz := (Array.getElem?_eq_some_iff.1 hb).2
    rw [e]
    show Result.ok () w = _
    congr 1
    unfold World.putAt
    cases w with
    | mk heap tape drawn os output =>
      congr 1
      simp only at hv
      rw [← hv]
      refine Array.ext_getElem? fun x => ?_
      rw [Array.getElem?_setIfInBounds]
      split
      · rename_i e; subst e; exact Array.getElem?_eq_getElem hlt
      · rfl
  | v :: vs, i, L, w, hb, hf, hl, h1 => by
    have hi : s + i < L.length := by simp at hl; omega
    have hcell : w.cell? ⟨b, s + i, none⟩ = some (L[s + i]) := by simp [World.cell?, hb, hi]
    have hfro : w.frozen? ⟨b, s + i, none⟩ = false := by
      simp only [World.frozen?, hb]
      simp only [Bool.and_eq_false_imp, decide_eq_true_eq, decide_eq_false_iff_not]
      intro h; rcases hf with h' | h' <;> omega
    have hlt : b < w.heap.size := (Array.getElem?_eq_some_iff.1 hb).1
    have hst : (store ((⟨b, s, none⟩ : Addr).add i) v).run P w = .ok () (World.putAt w b (.cells (L.set (s + i) v).toArray el fz)) := by
      rw [addr_add, run_store P w _ v _ (h1 v (by simp)), hcell]
      simp only [hfro, Bool.false_eq_true, if_false]
      congr 1
      unfold World.setCell World.putAt
      congr 1
      refine Array.ext_getElem? fun x => ?_
      rw [Array.getElem?_setIfInBounds, Array.getElem?_modify]
      by_cases e : b = x
      · subst e
        have hbx : w.heap[b] = .cells L.toArray el fz := (Array.getElem?_eq_some_iff.1 hb).2
        simp [hlt, hbx]
      · simp [e]
    have hb2 : (World.putAt w b (.cells (L.set (s + i) v).toArray el fz)).heap[b]? = some (.cells (L.set (s + i) v).toArray el fz) := by
      simp [World.putAt, hlt]
    have ih := run_storeCells_part (P := P) (s := s) vs (i + 1) (L.set (s + i) v) _ hb2 (by simpa using hf) (by simp at hl ⊢; omega) (fun x hx => h1 x (by simp [hx]))
    simp only [storeCells, Sem.run_bind, hst, Result.andThen, ih]
    congr 1
    unfold World.putAt
    simp only [Array.setIfInBounds_setIfInBounds]
    congr 4
    have e1 : (L.set (s + i) v).take (s + (i + 1)) = L.take (s + i) ++ [v] := by
      rw [show s + (i + 1) = (s + i) + 1 by omega, List.take_add_one, List.take_set, List.set_eq_of_length_le (by simp; omega)]
      simp [hi]
    have e2 : (L.set (s + i) v).drop (s + (i + 1) + vs.length) = L.drop (s + i + (vs.length + 1)) := by
      rw [List.drop_set_of_lt (by omega), show s + (i + 1) + vs.length = s + i + (vs.length + 1) by omega]
    simp only [splice, e1, e2, List.length_cons, List.append_assoc, List.singleton_append]

end Go.Sym

/-
  The symbolic engine, part 5: numbers: what the engine reckons is what the model reckons. No program in sight; no condition beyond each lemma's own. (Written by gen_SymE.py.)
-/
namespace Go.Sym

theorem wrap_i64 (n : Int) (h : fits n) : IntKind.i64.wrap n = n := by
  unfold fits at h
  simp [IntKind.wrap, IntKind.bits, IntKind.signed]
  split <;> omega
theorem wrap_u8 (n : Int) : IntKind.u8.wrap n = n % 256 := by simp [IntKind.wrap, IntKind.bits, IntKind.signed]
theorem lt_8 (a : UInt8) : a.toNat < 256 := a.toNat_lt
theorem ofInt_8 (n : Int) : ((UInt8.ofInt n).toNat : Int) = n % 256 := by
  have h : (UInt8.ofInt n).toNat = (n % 256).toNat % 256 := by show (UInt8.ofNat (n % 2 ^ 8).toNat).toNat = _; rw [UInt8.toNat_ofNat']; rfl
  omega
theorem bv8 (a : UInt8) : BitVec.ofInt 8 (a.toNat : Int) = a.toBitVec := by
  apply BitVec.eq_of_toNat_eq; simp
theorem wrapn8 (a : UInt8) : IntKind.u8.wrap (a.toNat : Int) = (a.toNat : Int) := by
  rw [wrap_u8]; have := lt_8 a; omega
theorem wrap_u16 (n : Int) : IntKind.u16.wrap n = n % 65536 := by simp [IntKind.wrap, IntKind.bits, IntKind.signed]
theorem lt_16 (a : UInt16) : a.toNat < 65536 := a.toNat_lt
theorem ofInt_16 (n : Int) : ((UInt16.ofInt n).toNat : Int) = n % 65536 := by
  have h : (UInt16.ofInt n).toNat = (n % 65536).toNat % 65536 := by show (UInt16.ofNat (n % 2 ^ 16).toNat).toNat = _; rw [UInt16.toNat_ofNat']; rfl
  omega
theorem bv16 (a : UInt16) : BitVec.ofInt 16 (a.toNat : Int) = a.toBitVec := by
  apply BitVec.eq_of_toNat_eq; simp
theorem wrapn16 (a : UInt16) : IntKind.u16.wrap (a.toNat : Int) = (a.toNat : Int) := by
  rw [wrap_u16]; have := lt_16 a; omega
theorem wrap_u32 (n : Int) : IntKind.u32.wrap n = n % 4294967296 := by simp [IntKind.wrap, IntKind.bits, IntKind.signed]
theorem lt_32 (a : UInt32) : a.toNat < 4294967296 := a.toNat_lt
theorem ofInt_32 (n : Int) : ((UInt32.ofInt n).toNat : Int) = n % 4294967296 := by
  have h : (UInt32.ofInt n).toNat = (n % 4294967296).toNat % 4294967296 := by show (UInt32.ofNat (n % 2 ^ 32).toNat).toNat = _; rw [UInt32.toNat_ofNat']; rfl
  omega
theorem bv32 (a : UInt32) : BitVec.ofInt 32 (a.toNat : Int) = a.toBitVec := by
  apply BitVec.eq_of_toNat_eq; simp
theorem wrapn32 (a : UInt32) : IntKind.u32.wrap (a.toNat : Int) = (a.toNat : Int) := by
  rw [wrap_u32]; have := lt_32 a; omega
theorem wrap_u64 (n : Int) : IntKind.u64.wrap n = n % 18446744073709551616 := by simp [IntKind.wrap, IntKind.bits, IntKind.signed]
theorem lt_64 (a : UInt64) : a.toNat < 18446744073709551616 := a.toNat_lt
theorem ofInt_64 (n : Int) : ((UInt64.ofInt n).toNat : Int) = n % 18446744073709551616 := by
  have h : (UInt64.ofInt n).toNat = (n % 18446744073709551616).toNat % 18446744073709551616 := by show (UInt64.ofNat (n % 2 ^ 64).toNat).toNat = _; rw [UInt64.toNat_ofNat']; rfl
  omega
theorem bv64 (a : UInt64) : BitVec.ofInt 64 (a.toNat : Int) = a.toBitVec := by
  apply BitVec.eq_of_toNat_eq; simp
theorem wrapn64 (a : UInt64) : IntKind.u64.wrap (a.toNat : Int) = (a.toNat : Int) := by
  rw [wrap_u64]; have := lt_64 a; omega

section
variable {P : Program} {ρ : Nat → Nat}

/-- a number's outcome: k holds of it, it names no block, and the model's reckoning comes to it -/
def Num (P : Program) (ρ : Nat → Nat) (k : SV → Prop) (s : Sem Value) : Prop :=
  ∃ v : SV, k v ∧ (∀ p, v.ok p) ∧ ∀ w, s.run P w = .ok (v.den ρ) w

theorem intK_e {op : BinOp} {a b : Int} {k : SV → Prop} (t : TypeId) (h : intK op a b k) : Num P ρ k (binOp op t (.int .i64 a) (.int .i64 b)) := by
  cases op <;> simp only [intK] at h
  case add => exact ⟨_, (pre_e h).2, fun _ => trivial, fun w => by simp [binOp, Op.intArith, SV.den, wrap_i64 _ (pre_e h).1]⟩
  case sub => exact ⟨_, (pre_e h).2, fun _ => trivial, fun w => by simp [binOp, Op.intArith, SV.den, wrap_i64 _ (pre_e h).1]⟩
  case mul => exact ⟨_, (pre_e h).2, fun _ => trivial, fun w => by simp [binOp, Op.intArith, SV.den, wrap_i64 _ (pre_e h).1]⟩
  case quo => exact ⟨_, (pre_e h).2, fun _ => trivial, fun w => by simp [binOp, Op.intDiv, SV.den, (pre_e h).1.1, wrap_i64 _ (pre_e h).1.2]⟩
  case rem => exact ⟨_, (pre_e h).2, fun _ => trivial, fun w => by simp [binOp, Op.intDiv, SV.den, (pre_e h).1]⟩
  case and => exact ⟨_, h, fun _ => trivial, fun w => rfl⟩
  case or => exact ⟨_, h, fun _ => trivial, fun w => rfl⟩
  case xor => exact ⟨_, h, fun _ => trivial, fun w => rfl⟩
  case andNot => exact ⟨_, h, fun _ => trivial, fun w => rfl⟩
  case eql => exact ⟨_, h, fun _ => trivial, fun w => by simp [binOp, Op.intCmp, SV.den]; rw [Bool.eq_iff_iff]; simp⟩
  case neq => exact ⟨_, h, fun _ => trivial, fun w => by simp [binOp, Op.intCmp, SV.den]; rw [Bool.eq_iff_iff]; simp⟩
  case lss => exact ⟨_, h, fun _ => trivial, fun w => by simp [binOp, Op.intCmp, SV.den]⟩
  case leq => exact ⟨_, h, fun _ => trivial, fun w => by simp [binOp, Op.intCmp, SV.den]⟩
  case gtr => exact ⟨_, h, fun _ => trivial, fun w => by simp [binOp, Op.intCmp, SV.den]⟩
  case geq => exact ⟨_, h, fun _ => trivial, fun w => by simp [binOp, Op.intCmp, SV.den]⟩

theorem u8K_e {op : BinOp} {a b : UInt8} {k : SV → Prop} (t : TypeId) (h : u8K op a b k) : Num P ρ k (binOp op t (.int .u8 a.toNat) (.int .u8 b.toNat)) := by
  have ha := lt_8 a
  have hb := lt_8 b
  cases op <;> simp only [u8K] at h
  case add => exact ⟨_, h, fun _ => trivial, fun w => by simp [binOp, Op.intArith, SV.den, wrap_u8]⟩
  case sub => exact ⟨_, h, fun _ => trivial, fun w => by simp [binOp, Op.intArith, SV.den, wrap_u8, UInt8.toNat_sub]; omega⟩
  case mul => exact ⟨_, h, fun _ => trivial, fun w => by simp [binOp, Op.intArith, SV.den, wrap_u8]⟩
  case quo =>
    have h0 := (pre_e h).1
    have e : ((a.toNat : Int).tdiv (b.toNat : Int)) = ((a / b).toNat : Int) := by rw [UInt8.toNat_div]; rfl
    have h1 : (b.toNat : Int) ≠ 0 := by omega
    exact ⟨_, (pre_e h).2, fun _ => trivial, fun w => by simp only [binOp, Op.intDiv, if_neg h1, e, wrapn8, SV.den]; rfl⟩
  case rem =>
    have h0 := (pre_e h).1
    have e : ((a.toNat : Int).tmod (b.toNat : Int)) = ((a % b).toNat : Int) := by rw [UInt8.toNat_mod]; rfl
    have h1 : (b.toNat : Int) ≠ 0 := by omega
    exact ⟨_, (pre_e h).2, fun _ => trivial, fun w => by simp only [binOp, Op.intDiv, if_neg h1, e, SV.den]; rfl⟩
  case and => exact ⟨_, h, fun _ => trivial, fun w => by
    show Result.ok (Value.int .u8 (IntKind.u8.wrap ((BitVec.ofInt 8 (a.toNat : Int) &&& BitVec.ofInt 8 (b.toNat : Int)).toNat : Int))) w = _
    rw [bv8, bv8]; exact congrArg (fun x => Result.ok (Value.int .u8 x) w) (wrapn8 (a &&& b))⟩
  case or => exact ⟨_, h, fun _ => trivial, fun w => by
    show Result.ok (Value.int .u8 (IntKind.u8.wrap ((BitVec.ofInt 8 (a.toNat : Int) ||| BitVec.ofInt 8 (b.toNat : Int)).toNat : Int))) w = _
    rw [bv8, bv8]; exact congrArg (fun x => Result.ok (Value.int .u8 x) w) (wrapn8 (a ||| b))⟩
  case xor => exact ⟨_, h, fun _ => trivial, fun w => by
    show Result.ok (Value.int .u8 (IntKind.u8.wrap ((BitVec.ofInt 8 (a.toNat : Int) ^^^ BitVec.ofInt 8 (b.toNat : Int)).toNat : Int))) w = _
    rw [bv8, bv8]; exact congrArg (fun x => Result.ok (Value.int .u8 x) w) (wrapn8 (a ^^^ b))⟩
  case andNot => exact ⟨_, h, fun _ => trivial, fun w => by
    show Result.ok (Value.int .u8 (IntKind.u8.wrap ((BitVec.ofInt 8 (a.toNat : Int) &&& ~~~(BitVec.ofInt 8 (b.toNat : Int))).toNat : Int))) w = _
    rw [bv8, bv8]; exact congrArg (fun x => Result.ok (Value.int .u8 x) w) (wrapn8 (a &&& ~~~b))⟩
  case eql => exact ⟨_, h, fun _ => trivial, fun w => by simp [binOp, Op.intCmp, SV.den]; rw [Bool.eq_iff_iff]; simp; exact ⟨fun e => UInt8.toNat_inj.1 (by omega), fun e => by rw [e]⟩⟩
  case neq => exact ⟨_, h, fun _ => trivial, fun w => by simp [binOp, Op.intCmp, SV.den]; rw [Bool.eq_iff_iff]; simp; exact not_congr ⟨fun e => UInt8.toNat_inj.1 (by omega), fun e => by rw [e]⟩⟩
  case lss => exact ⟨_, h, fun _ => trivial, fun w => by simp [binOp, Op.intCmp, SV.den, UInt8.lt_iff_toNat_lt]⟩
  case leq => exact ⟨_, h, fun _ => trivial, fun w => by simp [binOp, Op.intCmp, SV.den, UInt8.le_iff_toNat_le]⟩
  case gtr => exact ⟨_, h, fun _ => trivial, fun w => by simp [binOp, Op.intCmp, SV.den, UInt8.lt_iff_toNat_lt]⟩
  case geq => exact ⟨_, h, fun _ => trivial, fun w => by simp [binOp, Op.intCmp, SV.den, UInt8.le_iff_toNat_le]⟩

theorem u16K_e {op : BinOp} {a b : UInt16} {k : SV → Prop} (t : TypeId) (h : u16K op a b k) : Num P ρ k (binOp op t (.int .u16 a.toNat) (.int .u16 b.toNat)) := by
  have ha := lt_16 a
  have hb := lt_16 b
  cases op <;> simp only [u16K] at h
  case add => exact ⟨_, h, fun _ => trivial, fun w => by simp [binOp, Op.intArith, SV.den, wrap_u16]⟩
  case sub => exact ⟨_, h, fun _ => trivial, fun w => by simp [binOp, Op.intArith, SV.den, wrap_u16, UInt16.toNat_sub]; omega⟩
  case mul => exact ⟨_, h, fun _ => trivial, fun w => by simp [binOp, Op.intArith, SV.den, wrap_u16]⟩
  case quo =>
    have h0 := (pre_e h).1
    have e : ((a.toNat : Int).tdiv (b.toNat : Int)) = ((a / b).toNat : Int) := by rw [UInt16.toNat_div]; rfl
    have h1 : (b.toNat : Int) ≠ 0 := by omega
    exact ⟨_, (pre_e h).2, fun _ => trivial, fun w => by simp only [binOp, Op.intDiv, if_neg h1, e, wrapn16, SV.den]; rfl⟩
  case rem =>
    have h0 := (pre_e h).1
    have e : ((a.toNat : Int).tmod (b.toNat : Int)) = ((a % b).toNat : Int) := by rw [UInt16.toNat_mod]; rfl
    have h1 : (b.toNat : Int) ≠ 0 := by omega
    exact ⟨_, (pre_e h).2, fun _ => trivial, fun w => by simp only [binOp, Op.intDiv, if_neg h1, e, SV.den]; rfl⟩
  case and => exact ⟨_, h, fun _ => trivial, fun w => by
    show Result.ok (Value.int .u16 (IntKind.u16.wrap ((BitVec.ofInt 16 (a.toNat : Int) &&& BitVec.ofInt 16 (b.toNat : Int)).toNat : Int))) w = _
    rw [bv16, bv16]; exact congrArg (fun x => Result.ok (Value.int .u16 x) w) (wrapn16 (a &&& b))⟩
  case or => exact ⟨_, h, fun _ => trivial, fun w => by
    show Result.ok (Value.int .u16 (IntKind.u16.wrap ((BitVec.ofInt 16 (a.toNat : Int) ||| BitVec.ofInt 16 (b.toNat : Int)).toNat : Int))) w = _
    rw [bv16, bv16]; exact congrArg (fun x => Result.ok (Value.int .u16 x) w) (wrapn16 (a ||| b))⟩
  case xor => exact ⟨_, h, fun _ => trivial, fun w => by
    show Result.ok (Value.int .u16 (IntKind.u16.wrap ((BitVec.ofInt 16 (a.toNat : Int) ^^^ BitVec.ofInt 16 (b.toNat : Int)).toNat : Int))) w = _
    rw [bv16, bv16]; exact congrArg (fun x => Result.ok (Value.int .u16 x) w) (wrapn16 (a ^^^ b))⟩
  case andNot => exact ⟨_, h, fun _ => trivial, fun w => by
    show Result.ok (Value.int .u16 (IntKind.u16.wrap ((BitVec.ofInt 16 (a.toNat : Int) &&& ~~~(BitVec.ofInt 16 (b.toNat : Int))).toNat : Int))) w = _
    rw [bv16, bv16]; exact congrArg (fun x => Result.ok (Value.int .u16 x) w) (wrapn16 (a &&& ~~~b))⟩
  case eql => exact ⟨_, h, fun _ => trivial, fun w => by simp [binOp, Op.intCmp, SV.den]; rw [Bool.eq_iff_iff]; simp; exact ⟨fun e => UInt16.toNat_inj.1 (by omega), fun e => by rw [e]⟩⟩
  case neq => exact ⟨_, h, fun _ => trivial, fun w => by simp [binOp, Op.intCmp, SV.den]; rw [Bool.eq_iff_iff]; simp; exact not_congr ⟨fun e => UInt16.toNat_inj.1 (by omega), fun e => by rw [e]⟩⟩
  case lss => exact ⟨_, h, fun _ => trivial, fun w => by simp [binOp, Op.intCmp, SV.den, UInt16.lt_iff_toNat_lt]⟩
  case leq => exact ⟨_, h, fun _ => trivial, fun w => by simp [binOp, Op.intCmp, SV.den, UInt16.le_iff_toNat_le]⟩
  case gtr => exact ⟨_, h, fun _ => trivial, fun w => by simp [binOp, Op.intCmp, SV.den, UInt16.lt_iff_toNat_lt]⟩
  case geq => exact ⟨_, h, fun _ => trivial, fun w => by simp [binOp, Op.intCmp, SV.den, UInt16.le_iff_toNat_le]⟩

theorem u32K_e {op : BinOp} {a b : UInt32} {k : SV → Prop} (t : TypeId) (h : u32K op a b k) : Num P ρ k (binOp op t (.int .u32 a.toNat) (.int .u32 b.toNat)) := by
  have ha := lt_32 a
  have hb := lt_32 b
  cases op <;> simp only [u32K] at h
  case add => exact ⟨_, h, fun _ => trivial, fun w => by simp [binOp, Op.intArith, SV.den, wrap_u32]⟩
  case sub => exact ⟨_, h, fun _ => trivial, fun w => by simp [binOp, Op.intArith, SV.den, wrap_u32, UInt32.toNat_sub]; omega⟩
  case mul => exact ⟨_, h, fun _ => trivial, fun w => by simp [binOp, Op.intArith, SV.den, wrap_u32]⟩
  case quo =>
    have h0 := (pre_e h).1
    have e : ((a.toNat : Int).tdiv (b.toNat : Int)) = ((a / b).toNat : Int) := by rw [UInt32.toNat_div]; rfl
    have h1 : (b.toNat : Int) ≠ 0 := by omega
    exact ⟨_, (pre_e h).2, fun _ => trivial, fun w => by simp only [binOp, Op.intDiv, if_neg h1, e, wrapn32, SV.den]; rfl⟩
  case rem =>
    have h0 := (pre_e h).1
    have e : ((a.toNat : Int).tmod (b.toNat : Int)) = ((a % b).toNat : Int) := by rw [UInt32.toNat_mod]; rfl
    have h1 : (b.toNat : Int) ≠ 0 := by omega
    exact ⟨_, (pre_e h).2, fun _ => trivial, fun w => by simp only [binOp, Op.intDiv, if_neg h1, e, SV.den]; rfl⟩
  case and => exact ⟨_, h, fun _ => trivial, fun w => by
    show Result.ok (Value.int .u32 (IntKind.u32.wrap ((BitVec.ofInt 32 (a.toNat : Int) &&& BitVec.ofInt 32 (b.toNat : Int)).toNat : Int))) w = _
    rw [bv32, bv32]; exact congrArg (fun x => Result.ok (Value.int .u32 x) w) (wrapn32 (a &&& b))⟩
  case or => exact ⟨_, h, fun _ => trivial, fun w => by
    show Result.ok (Value.int .u32 (IntKind.u32.wrap ((BitVec.ofInt 32 (a.toNat : Int) ||| BitVec.ofInt 32 (b.toNat : Int)).toNat : Int))) w = _
    rw [bv32, bv32]; exact congrArg (fun x => Result.ok (Value.int .u32 x) w) (wrapn32 (a ||| b))⟩
  case xor => exact ⟨_, h, fun _ => trivial, fun w => by
    show Result.ok (Value.int .u32 (IntKind.u32.wrap ((BitVec.ofInt 32 (a.toNat : Int) ^^^ BitVec.ofInt 32 (b.toNat : Int)).toNat : Int))) w = _
    rw [bv32, bv32]; exact congrArg (fun x => Result.ok (Value.int .u32 x) w) (wrapn32 (a ^^^ b))⟩
  case andNot => exact ⟨_, h, fun _ => trivial, fun w => by
    show Result.ok (Value.int .u32 (IntKind.u32.wrap ((BitVec.ofInt 32 (a.toNat : Int) &&& ~~~(BitVec.ofInt 32 (b.toNat : Int))).toNat : Int))) w = _
    rw [bv32, bv32]; exact congrArg (fun x => Result.ok (Value.int .u32 x) w) (wrapn32 (a &&& ~~~b))⟩
  case eql => exact ⟨_, h, fun _ => trivial, fun w => by simp [binOp, Op.intCmp, SV.den]; rw [Bool.eq_iff_iff]; simp; exact ⟨fun e => UInt32.toNat_inj.1 (by omega), fun e => by rw [e]⟩⟩
  case neq => exact ⟨_, h, fun _ => trivial, fun w => by simp [binOp, Op.intCmp, SV.den]; rw [Bool.eq_iff_iff]; simp; exact not_congr ⟨fun e => UInt32.toNat_inj.1 (by omega), fun e => by rw [e]⟩⟩
  case lss => exact ⟨_, h, fun _ => trivial, fun w => by simp [binOp, Op.intCmp, SV.den, UInt32.lt_iff_toNat_lt]⟩
  case leq => exact ⟨_, h, fun _ => trivial, fun w => by simp [binOp, Op.intCmp, SV.den, UInt32.le_iff_toNat_le]⟩
  case gtr => exact ⟨_, h, fun _ => trivial, fun w => by simp [binOp, Op.intCmp, SV.den, UInt32.lt_iff_toNat_lt]⟩
  case geq => exact ⟨_, h, fun _ => trivial, fun w => by simp [binOp, Op.intCmp, SV.den, UInt32.le_iff_toNat_le]⟩

theorem u64K_e {op : BinOp} {a b : UInt64} {k : SV → Prop} (t : TypeId) (h : u64K op a b k) : Num P ρ k (binOp op t (.int .u64 a.toNat) (.int .u64 b.toNat)) := by
  have ha := lt_64 a
  have hb := lt_64 b
  cases op <;> simp only [u64K] at h
  case add => exact ⟨_, h, fun _ => trivial, fun w => by simp [binOp, Op.intArith, SV.den, wrap_u64]⟩
  case sub => exact ⟨_, h, fun _ => trivial, fun w => by simp [binOp, Op.intArith, SV.den, wrap_u64, UInt64.toNat_sub]; omega⟩
  case mul => exact ⟨_, h, fun _ => trivial, fun w => by simp [binOp, Op.intArith, SV.den, wrap_u64]⟩
  case quo =>
    have h0 := (pre_e h).1
    have e : ((a.toNat : Int).tdiv (b.toNat : Int)) = ((a / b).toNat : Int) := by rw [UInt64.toNat_div]; rfl
    have h1 : (b.toNat : Int) ≠ 0 := by omega
    exact ⟨_, (pre_e h).2, fun _ => trivial, fun w => by simp only [binOp, Op.intDiv, if_neg h1, e, wrapn64, SV.den]; rfl⟩
  case rem =>
    have h0 := (pre_e h).1
    have e : ((a.toNat : Int).tmod (b.toNat : Int)) = ((a % b).toNat : Int) := by rw [UInt64.toNat_mod]; rfl
    have h1 : (b.toNat : Int) ≠ 0 := by omega
    exact ⟨_, (pre_e h).2, fun _ => trivial, fun w => by simp only [binOp, Op.intDiv, if_neg h1, e, SV.den]; rfl⟩
  case and => exact ⟨_, h, fun _ => trivial, fun w => by
    show Result.ok (Value.int .u64 (IntKind.u64.wrap ((BitVec.ofInt 64 (a.toNat : Int) &&& BitVec.ofInt 64 (b.toNat : Int)).toNat : Int))) w = _
    rw [bv64, bv64]; exact congrArg (fun x => Result.ok (Value.int .u64 x) w) (wrapn64 (a &&& b))⟩
  case or => exact ⟨_, h, fun _ => trivial, fun w => by
    show Result.ok (Value.int .u64 (IntKind.u64.wrap ((BitVec.ofInt 64 (a.toNat : Int) ||| BitVec.ofInt 64 (b.toNat : Int)).toNat : Int))) w = _
    rw [bv64, bv64]; exact congrArg (fun x => Result.ok (Value.int .u64 x) w) (wrapn64 (a ||| b))⟩
  case xor => exact ⟨_, h, fun _ => trivial, fun w => by
    show Result.ok (Value.int .u64 (IntKind.u64.wrap ((BitVec.ofInt 64 (a.toNat : Int) ^^^ BitVec.ofInt 64 (b.toNat : Int)).toNat : Int))) w = _
    rw [bv64, bv64]; exact congrArg (fun x => Result.ok (Value.int .u64 x) w) (wrapn64 (a ^^^ b))⟩
  case andNot => exact ⟨_, h, fun _ => trivial, fun w => by
    show Result.ok (Value.int .u64 (IntKind.u64.wrap ((BitVec.ofInt 64 (a.toNat : Int) &&& ~~~(BitVec.ofInt 64 (b.toNat : Int))).toNat : Int))) w = _
    rw [bv64, bv64]; exact congrArg (fun x => Result.ok (Value.int .u64 x) w) (wrapn64 (a &&& ~~~b))⟩
  case eql => exact ⟨_, h, fun _ => trivial, fun w => by simp [binOp, Op.intCmp, SV.den]; rw [Bool.eq_iff_iff]; simp; exact ⟨fun e => UInt64.toNat_inj.1 (by omega), fun e => by rw [e]⟩⟩
  case neq => exact ⟨_, h, fun _ => trivial, fun w => by simp [binOp, Op.intCmp, SV.den]; rw [Bool.eq_iff_iff]; simp; exact not_congr ⟨fun e => UInt64.toNat_inj.1 (by omega), fun e => by rw [e]⟩⟩
  case lss => exact ⟨_, h, fun _ => trivial, fun w => by simp [binOp, Op.intCmp, SV.den, UInt64.lt_iff_toNat_lt]⟩
  case leq => exact ⟨_, h, fun _ => trivial, fun w => by simp [binOp, Op.intCmp, SV.den, UInt64.le_iff_toNat_le]⟩
  case gtr => exact ⟨_, h, fun _ => trivial, fun w => by simp [binOp, Op.intCmp, SV.den, UInt64.lt_iff_toNat_lt]⟩
  case geq => exact ⟨_, h, fun _ => trivial, fun w => by simp [binOp, Op.intCmp, SV.den, UInt64.le_iff_toNat_le]⟩

theorem cntK_e {y : SV} {k : Nat → Prop} (h : cntK y k) : ∃ (yk : IntKind) (n : Int), 0 ≤ n ∧ y.den ρ = .int yk n ∧ k n.toNat := by
  unfold cntK at h
  split at h
  · exact ⟨.i64, _, (pre_e h).1, rfl, (pre_e h).2⟩
  · exact ⟨.u8, _, by omega, rfl, h⟩
  · exact ⟨.u16, _, by omega, rfl, h⟩
  · exact ⟨.u32, _, by omega, rfl, h⟩
  · exact ⟨.u64, _, by omega, rfl, h⟩
  · exact h.elim
theorem run_shl (t : TypeId) (k yk : IntKind) (x n : Int) (h : 0 ≤ n) (hb : n.toNat < k.bits) (w : World) : (binOp .shl t (.int k x) (.int yk n)).run P w = .ok (.int k (k.wrap (x * 2 ^ n.toNat))) w := by
  have h0 : ¬ n < 0 := by omega
  simp only [binOp, Op.shift, if_neg h0, Nat.min_eq_left (Nat.le_of_lt hb)]; rfl
theorem run_shr (t : TypeId) (k yk : IntKind) (x n : Int) (h : 0 ≤ n) (hb : n.toNat < k.bits) (w : World) : (binOp .shr t (.int k x) (.int yk n)).run P w = .ok (.int k (x.fdiv (2 ^ n.toNat))) w := by
  have h0 : ¬ n < 0 := by omega
  simp only [binOp, Op.shift, if_neg h0, Nat.min_eq_left (Nat.le_of_lt hb)]; rfl
theorem shl_8 (a : UInt8) (n : Nat) (h : n < 8) : ((a.toNat : Int) * 2 ^ n) % 256 = ((a <<< UInt8.ofNat n).toNat : Int) := by
  have e : (UInt8.ofNat n).toNat % 8 = n := by rw [UInt8.toNat_ofNat']; omega
  rw [UInt8.toNat_shiftLeft, e, Nat.shiftLeft_eq, Int.natCast_emod, Int.natCast_mul, Int.natCast_pow]
  rfl
theorem shr_8 (a : UInt8) (n : Nat) (h : n < 8) : (a.toNat : Int).fdiv (2 ^ n) = ((a >>> UInt8.ofNat n).toNat : Int) := by
  have e : (UInt8.ofNat n).toNat % 8 = n := by rw [UInt8.toNat_ofNat']; omega
  rw [UInt8.toNat_shiftRight, e, Nat.shiftRight_eq_div_pow, Int.fdiv_eq_ediv_of_nonneg _ (Int.pow_nonneg (by omega)), Int.natCast_ediv, Int.natCast_pow]
  rfl
theorem shl_16 (a : UInt16) (n : Nat) (h : n < 16) : ((a.toNat : Int) * 2 ^ n) % 65536 = ((a <<< UInt16.ofNat n).toNat : Int) := by
  have e : (UInt16.ofNat n).toNat % 16 = n := by rw [UInt16.toNat_ofNat']; omega
  rw [UInt16.toNat_shiftLeft, e, Nat.shiftLeft_eq, Int.natCast_emod, Int.natCast_mul, Int.natCast_pow]
  rfl
theorem shr_16 (a : UInt16) (n : Nat) (h : n < 16) : (a.toNat : Int).fdiv (2 ^ n) = ((a >>> UInt16.ofNat n).toNat : Int) := by
  have e : (UInt16.ofNat n).toNat % 16 = n := by rw [UInt16.toNat_ofNat']; omega
  rw [UInt16.toNat_shiftRight, e, Nat.shiftRight_eq_div_pow, Int.fdiv_eq_ediv_of_nonneg _ (Int.pow_nonneg (by omega)), Int.natCast_ediv, Int.natCast_pow]
  rfl
theorem shl_32 (a : UInt32) (n : Nat) (h : n < 32) : ((a.toNat : Int) * 2 ^ n) % 4294967296 = ((a <<< UInt32.ofNat n).toNat : Int) := by
  have e : (UInt32.ofNat n).toNat % 32 = n := by rw [UInt32.toNat_ofNat']; omega
  rw [UInt32.toNat_shiftLeft, e, Nat.shiftLeft_eq, Int.natCast_emod, Int.natCast_mul, Int.natCast_pow]
  rfl
theorem shr_32 (a : UInt32) (n : Nat) (h : n < 32) : (a.toNat : Int).fdiv (2 ^ n) = ((a >>> UInt32.ofNat n).toNat : Int) := by
  have e : (UInt32.ofNat n).toNat % 32 = n := by rw [UInt32.toNat_ofNat']; omega
  rw [UInt32.toNat_shiftRight, e, Nat.shiftRight_eq_div_pow, Int.fdiv_eq_ediv_of_nonneg _ (Int.pow_nonneg (by omega)), Int.natCast_ediv, Int.natCast_pow]
  rfl
theorem shl_64 (a : UInt64) (n : Nat) (h : n < 64) : ((a.toNat : Int) * 2 ^ n) % 18446744073709551616 = ((a <<< UInt64.ofNat n).toNat : Int) := by
  have e : (UInt64.ofNat n).toNat % 64 = n := by rw [UInt64.toNat_ofNat']; omega
  rw [UInt64.toNat_shiftLeft, e, Nat.shiftLeft_eq, Int.natCast_emod, Int.natCast_mul, Int.natCast_pow]
  rfl
theorem shr_64 (a : UInt64) (n : Nat) (h : n < 64) : (a.toNat : Int).fdiv (2 ^ n) = ((a >>> UInt64.ofNat n).toNat : Int) := by
  have e : (UInt64.ofNat n).toNat % 64 = n := by rw [UInt64.toNat_ofNat']; omega
  rw [UInt64.toNat_shiftRight, e, Nat.shiftRight_eq_div_pow, Int.fdiv_eq_ediv_of_nonneg _ (Int.pow_nonneg (by omega)), Int.natCast_ediv, Int.natCast_pow]
  rfl
theorem shlK_e {x y : SV} {k : SV → Prop} (t : TypeId) (h : shlK x y k) : Num P ρ k (binOp .shl t (x.den ρ) (y.den ρ)) := by
  unfold shlK at h
  obtain ⟨yk, n, h0, hy, hk⟩ := cntK_e (ρ := ρ) h
  rw [hy]
  split at hk
  · obtain ⟨h1, h2⟩ := pre_e hk
    exact ⟨_, h2, fun _ => trivial, fun w => by simp only [SV.den]; rw [run_shl t _ _ _ _ h0 (by simpa [IntKind.bits] using h1.1), wrap_i64 _ h1.2]⟩
  · obtain ⟨h1, h2⟩ := pre_e hk
    exact ⟨_, h2, fun _ => trivial, fun w => by simp only [SV.den]; rw [run_shl t _ _ _ _ h0 (by simpa [IntKind.bits] using h1), wrap_u8, shl_8 _ _ h1]⟩
  · obtain ⟨h1, h2⟩ := pre_e hk
    exact ⟨_, h2, fun _ => trivial, fun w => by simp only [SV.den]; rw [run_shl t _ _ _ _ h0 (by simpa [IntKind.bits] using h1), wrap_u16, shl_16 _ _ h1]⟩
  · obtain ⟨h1, h2⟩ := pre_e hk
    exact ⟨_, h2, fun _ => trivial, fun w => by simp only [SV.den]; rw [run_shl t _ _ _ _ h0 (by simpa [IntKind.bits] using h1), wrap_u32, shl_32 _ _ h1]⟩
  · obtain ⟨h1, h2⟩ := pre_e hk
    exact ⟨_, h2, fun _ => trivial, fun w => by simp only [SV.den]; rw [run_shl t _ _ _ _ h0 (by simpa [IntKind.bits] using h1), wrap_u64, shl_64 _ _ h1]⟩
  · exact hk.elim
theorem shrK_e {x y : SV} {k : SV → Prop} (t : TypeId) (h : shrK x y k) : Num P ρ k (binOp .shr t (x.den ρ) (y.den ρ)) := by
  unfold shrK at h
  obtain ⟨yk, n, h0, hy, hk⟩ := cntK_e (ρ := ρ) h
  rw [hy]
  split at hk
  · obtain ⟨h1, h2⟩ := pre_e hk
    exact ⟨_, h2, fun _ => trivial, fun w => by
      simp only [SV.den]; rw [run_shr t _ _ _ _ h0 (by simpa [IntKind.bits] using h1), Int.fdiv_eq_ediv_of_nonneg _ (Int.pow_nonneg (by omega))]⟩
  · obtain ⟨h1, h2⟩ := pre_e hk
    exact ⟨_, h2, fun _ => trivial, fun w => by simp only [SV.den]; rw [run_shr t _ _ _ _ h0 (by simpa [IntKind.bits] using h1), shr_8 _ _ h1]⟩
  · obtain ⟨h1, h2⟩ := pre_e hk
    exact ⟨_, h2, fun _ => trivial, fun w => by simp only [SV.den]; rw [run_shr t _ _ _ _ h0 (by simpa [IntKind.bits] using h1), shr_16 _ _ h1]⟩
  · obtain ⟨h1, h2⟩ := pre_e hk
    exact ⟨_, h2, fun _ => trivial, fun w => by simp only [SV.den]; rw [run_shr t _ _ _ _ h0 (by simpa [IntKind.bits] using h1), shr_32 _ _ h1]⟩
  · obtain ⟨h1, h2⟩ := pre_e hk
    exact ⟨_, h2, fun _ => trivial, fun w => by simp only [SV.den]; rw [run_shr t _ _ _ _ h0 (by simpa [IntKind.bits] using h1), shr_64 _ _ h1]⟩
  · exact hk.elim

theorem toList_mk (l : List UInt8) : (⟨l.toArray⟩ : ByteArray).toList = l := by rw [ByteArray.toList_eq]
theorem strK_e {op : BinOp} {a b : List UInt8} {k : SV → Prop} (t : TypeId) (h : strK op a b k) : Num P ρ k (binOp op t (.string ⟨a.toArray⟩) (.string ⟨b.toArray⟩)) := by
  cases op <;> simp only [strK] at h
  case add =>
    obtain ⟨h1, h2⟩ := pre_e h
    refine ⟨_, h2, fun _ => trivial, fun w => ?_⟩
    have hs : ¬ (((⟨a.toArray⟩ : ByteArray).size + (⟨b.toArray⟩ : ByteArray).size : Nat) : Int) > IntKind.i64.max := by
      have e1 : (⟨a.toArray⟩ : ByteArray).size = a.length := by simp [ByteArray.size]
      have e2 : (⟨b.toArray⟩ : ByteArray).size = b.length := by simp [ByteArray.size]
      have e3 : IntKind.i64.max = 9223372036854775807 := rfl
      rw [e1, e2, e3]; omega
    simp only [binOp, Op.stringOp]
    rw [if_neg hs]
    show Result.ok (Value.string _) w = _
    congr 2
  case eql => exact ⟨_, h, fun _ => trivial, fun w => by simp [binOp, Op.stringOp, SV.den]; rw [Bool.eq_iff_iff]; simp⟩
  case neq => exact ⟨_, h, fun _ => trivial, fun w => by simp [binOp, Op.stringOp, SV.den]; rw [Bool.eq_iff_iff]; simp⟩

theorem binK_e {op : BinOp} {x y : SV} {k : SV → Prop} (t : TypeId) (h : binK op x y k) : Num P ρ k (binOp op t (x.den ρ) (y.den ρ)) := by
  unfold binK at h
  split at h
  · exact shlK_e t h
  · exact shrK_e t h
  · split at h
    · exact intK_e t h
    · exact u8K_e t h
    · exact u16K_e t h
    · exact u32K_e t h
    · exact u64K_e t h
    · exact strK_e t h
    · exact h.elim

theorem unK_e {op : UnOp} {x : SV} {k : SV → Prop} (h : unK op x k) : Num P ρ k (Op.unary op (x.den ρ)) := by
  unfold unK at h
  split at h
  · exact ⟨_, h, fun _ => trivial, fun w => rfl⟩
  · exact ⟨_, (pre_e h).2, fun _ => trivial, fun w => by
      show Result.ok (Value.int .i64 (IntKind.i64.wrap (0 - _))) w = _
      rw [wrap_i64 _ (pre_e h).1]; rfl⟩
  · rename_i a; exact ⟨_, h, fun _ => trivial, fun w => by
      show Result.ok (Value.int .u8 (IntKind.u8.wrap (0 - (a.toNat : Int)))) w = _
      have ha := lt_8 a
      rw [wrap_u8]; simp [SV.den, UInt8.toNat_neg, UInt8.size]; omega⟩
  · rename_i a; exact ⟨_, h, fun _ => trivial, fun w => by
      show Result.ok (Value.int .u16 (IntKind.u16.wrap (0 - (a.toNat : Int)))) w = _
      have ha := lt_16 a
      rw [wrap_u16]; simp [SV.den, UInt16.toNat_neg, UInt16.size]; omega⟩
  · rename_i a; exact ⟨_, h, fun _ => trivial, fun w => by
      show Result.ok (Value.int .u32 (IntKind.u32.wrap (0 - (a.toNat : Int)))) w = _
      have ha := lt_32 a
      rw [wrap_u32]; simp [SV.den, UInt32.toNat_neg, UInt32.size]; omega⟩
  · rename_i a; exact ⟨_, h, fun _ => trivial, fun w => by
      show Result.ok (Value.int .u64 (IntKind.u64.wrap (0 - (a.toNat : Int)))) w = _
      have ha := lt_64 a
      rw [wrap_u64]; simp [SV.den, UInt64.toNat_neg, UInt64.size]; omega⟩
  · rename_i a; exact ⟨_, h, fun _ => trivial, fun w => by
      show Result.ok (Value.int .u8 (IntKind.u8.wrap ((BitVec.ofInt 8 (IntKind.u8.max) ^^^ BitVec.ofInt 8 (a.toNat : Int)).toNat : Int))) w = _
      have e : BitVec.ofInt 8 (IntKind.u8.max) ^^^ a.toBitVec = (~~~a).toBitVec := by
        have : BitVec.ofInt 8 (IntKind.u8.max) = BitVec.allOnes 8 := rfl
        rw [this, BitVec.allOnes_xor]; rfl
      rw [bv8, e]; exact congrArg (fun x => Result.ok (Value.int .u8 x) w) (wrapn8 (~~~a))⟩
  · rename_i a; exact ⟨_, h, fun _ => trivial, fun w => by
      show Result.ok (Value.int .u16 (IntKind.u16.wrap ((BitVec.ofInt 16 (IntKind.u16.max) ^^^ BitVec.ofInt 16 (a.toNat : Int)).toNat : Int))) w = _
      have e : BitVec.ofInt 16 (IntKind.u16.max) ^^^ a.toBitVec = (~~~a).toBitVec := by
        have : BitVec.ofInt 16 (IntKind.u16.max) = BitVec.allOnes 16 := rfl
        rw [this, BitVec.allOnes_xor]; rfl
      rw [bv16, e]; exact congrArg (fun x => Result.ok (Value.int .u16 x) w) (wrapn16 (~~~a))⟩
  · rename_i a; exact ⟨_, h, fun _ => trivial, fun w => by
      show Result.ok (Value.int .u32 (IntKind.u32.wrap ((BitVec.ofInt 32 (IntKind.u32.max) ^^^ BitVec.ofInt 32 (a.toNat : Int)).toNat : Int))) w = _
      have e : BitVec.ofInt 32 (IntKind.u32.max) ^^^ a.toBitVec = (~~~a).toBitVec := by
        have : BitVec.ofInt 32 (IntKind.u32.max) = BitVec.allOnes 32 := rfl
        rw [this, BitVec.allOnes_xor]; rfl
      rw [bv32, e]; exact congrArg (fun x => Result.ok (Value.int .u32 x) w) (wrapn32 (~~~a))⟩
  · rename_i a; exact ⟨_, h, fun _ => trivial, fun w => by
      show Result.ok (Value.int .u64 (IntKind.u64.wrap ((BitVec.ofInt 64 (IntKind.u64.max) ^^^ BitVec.ofInt 64 (a.toNat : Int)).toNat : Int))) w = _
      have e : BitVec.ofInt 64 (IntKind.u64.max) ^^^ a.toBitVec = (~~~a).toBitVec := by
        have : BitVec.ofInt 64 (IntKind.u64.max) = BitVec.allOnes 64 := rfl
        rw [this, BitVec.allOnes_xor]; rfl
      rw [bv64, e]; exact congrArg (fun x => Result.ok (Value.int .u64 x) w) (wrapn64 (~~~a))⟩
  · exact h.elim

theorem convIntK_e {d : IntKind} {x : SV} {k : SV → Prop} (h : convIntK d x k) : ∃ (sk : IntKind) (n : Int), x.den ρ = .int sk n ∧ Num P ρ k (Conv.intToInt d n) := by
  unfold convIntK at h
  split at h
  · exact ⟨_, _, rfl, _, (pre_e h).2, fun _ => trivial, fun w => by simp [Conv.intToInt, SV.den, wrap_i64 _ (pre_e h).1]⟩
  · rename_i a; exact ⟨_, _, rfl, _, h, fun _ => trivial, fun w => by have := lt_8 a; simp [Conv.intToInt, SV.den]; exact wrap_i64 _ (by unfold fits; omega)⟩
  · rename_i a; exact ⟨_, _, rfl, _, h, fun _ => trivial, fun w => by have := lt_16 a; simp [Conv.intToInt, SV.den]; exact wrap_i64 _ (by unfold fits; omega)⟩
  · rename_i a; exact ⟨_, _, rfl, _, h, fun _ => trivial, fun w => by have := lt_32 a; simp [Conv.intToInt, SV.den]; exact wrap_i64 _ (by unfold fits; omega)⟩
  · exact ⟨_, _, rfl, _, (pre_e h).2, fun _ => trivial, fun w => by have := (pre_e h).1; simp [Conv.intToInt, SV.den]; exact wrap_i64 _ (by unfold fits; omega)⟩
  · exact ⟨_, _, rfl, _, h, fun _ => trivial, fun w => by
      simp only [Conv.intToInt, SV.den, wrap_u8, ofInt_8]; rfl⟩
  · exact ⟨_, _, rfl, _, h, fun _ => trivial, fun w => by simp [Conv.intToInt, SV.den, wrapn8]⟩
  · exact ⟨_, _, rfl, _, h, fun _ => trivial, fun w => by simp [Conv.intToInt, SV.den, wrap_u8]⟩
  · exact ⟨_, _, rfl, _, h, fun _ => trivial, fun w => by simp [Conv.intToInt, SV.den, wrap_u8]⟩
  · exact ⟨_, _, rfl, _, h, fun _ => trivial, fun w => by simp [Conv.intToInt, SV.den, wrap_u8]⟩
  · exact ⟨_, _, rfl, _, h, fun _ => trivial, fun w => by
      simp only [Conv.intToInt, SV.den, wrap_u16, ofInt_16]; rfl⟩
  · rename_i a; exact ⟨_, _, rfl, _, h, fun _ => trivial, fun w => by have := lt_8 a; simp [Conv.intToInt, SV.den, wrap_u16]; omega⟩
  · exact ⟨_, _, rfl, _, h, fun _ => trivial, fun w => by simp [Conv.intToInt, SV.den, wrapn16]⟩
  · exact ⟨_, _, rfl, _, h, fun _ => trivial, fun w => by simp [Conv.intToInt, SV.den, wrap_u16]⟩
  · exact ⟨_, _, rfl, _, h, fun _ => trivial, fun w => by simp [Conv.intToInt, SV.den, wrap_u16]⟩
  · exact ⟨_, _, rfl, _, h, fun _ => trivial, fun w => by
      simp only [Conv.intToInt, SV.den, wrap_u32, ofInt_32]; rfl⟩
  · rename_i a; exact ⟨_, _, rfl, _, h, fun _ => trivial, fun w => by have := lt_8 a; simp [Conv.intToInt, SV.den, wrap_u32]; omega⟩
  · rename_i a; exact ⟨_, _, rfl, _, h, fun _ => trivial, fun w => by have := lt_16 a; simp [Conv.intToInt, SV.den, wrap_u32]; omega⟩
  · exact ⟨_, _, rfl, _, h, fun _ => trivial, fun w => by simp [Conv.intToInt, SV.den, wrapn32]⟩
  · exact ⟨_, _, rfl, _, h, fun _ => trivial, fun w => by simp [Conv.intToInt, SV.den, wrap_u32]⟩
  · exact ⟨_, _, rfl, _, h, fun _ => trivial, fun w => by
      simp only [Conv.intToInt, SV.den, wrap_u64, ofInt_64]; rfl⟩
  · rename_i a; exact ⟨_, _, rfl, _, h, fun _ => trivial, fun w => by have := lt_8 a; simp [Conv.intToInt, SV.den, wrap_u64]; omega⟩
  · rename_i a; exact ⟨_, _, rfl, _, h, fun _ => trivial, fun w => by have := lt_16 a; simp [Conv.intToInt, SV.den, wrap_u64]; omega⟩
  · rename_i a; exact ⟨_, _, rfl, _, h, fun _ => trivial, fun w => by have := lt_32 a; simp [Conv.intToInt, SV.den, wrap_u64]; omega⟩
  · exact ⟨_, _, rfl, _, h, fun _ => trivial, fun w => by simp [Conv.intToInt, SV.den, wrapn64]⟩
  · exact h.elim
end
end Go.Sym

/-
  The symbolic engine, part 6: steps of the symbolic heap; operands; what a symbolic specification of a function promises. No program in sight; no condition beyond each lemma's own.
-/
namespace Go.Sym

section steps
variable {ρ : Nat → Nat} {hp : List Blk} {w : World}

theorem HpRel.lt (h : HpRel ρ hp w) {k : Nat} {el : TypeId} {ps : List SV} (hk : hp[k]? = some (.mk el ps)) : ρ k < w.heap.size := by
  obtain ⟨_, _, fz, h1, _⟩ := h.mem k el ps hk
  exact (Array.getElem?_eq_some_iff.1 h1).1

/-- a world with the same memory and outside -/
theorem Step.world (h : HpRel ρ hp w) {w' : World} (hh : w'.heap = w.heap) (ho : w'.os = w.os) (hu : w'.output = w.output) (ht : w'.tape = w.tape) : Step ρ hp w ρ hp w' :=
  ⟨⟨fun k el ps hk => by rw [hh]; exact h.mem k el ps hk, h.inj⟩, fun _ _ => rfl, Nat.le_refl _, ⟨by rw [hh]; exact Nat.le_refl _, fun b _ _ => by rw [hh], ho, hu, ht⟩, fun _ h => .inl h⟩

theorem Step.trans {ρ1 ρ2 : Nat → Nat} {hp1 hp2 : List Blk} {w1 w2 : World} (h : Step ρ hp w ρ1 hp1 w1) (h' : Step ρ1 hp1 w1 ρ2 hp2 w2) : Step ρ hp w ρ2 hp2 w2 :=
  ⟨h'.rel, fun k hk => by rw [h'.same k (Nat.lt_of_lt_of_le hk h.le), h.same k hk], Nat.le_trans h.le h'.le, h.ext.trans h'.ext h.foot,
   fun b hb => (h'.foot b hb).elim (fun hb => h.foot b hb) (fun hl => .inr (Nat.le_trans h.ext.size hl))⟩

def bump (ρ : Nat → Nat) (n b : Nat) : Nat → Nat := fun k => if k = n then b else ρ k
theorem bump_lt {n b k : Nat} (h : k < n) : bump ρ n b k = ρ k := by unfold bump; rw [if_neg (by omega)]
theorem bump_self {n b : Nat} : bump ρ n b n = b := by unfold bump; rw [if_pos rfl]

/-- a new block -/
theorem Step.alloc (h : HpRel ρ hp w) {el el0 : TypeId} {ps : List SV} (hps : okL (· < hp.length) ps) {w' : World} {fz : Nat × Nat}
    (hh : w'.heap = w.heap.push (.cells (cellsL ρ ps).toArray el0 fz)) (hf : fz.2 ≤ fz.1 ∨ (cellsL ρ ps).length ≤ fz.1)
    (ho : w'.os = w.os) (hu : w'.output = w.output) (ht : w'.tape = w.tape) :
    Step ρ hp w (bump ρ hp.length w.heap.size) (hp ++ [.mk el ps]) w' := by
  have hlen : (hp ++ [Blk.mk el ps]).length = hp.length + 1 := by simp
  have hc : ∀ qs : List SV, okL (· < hp.length) qs → cellsL (bump ρ hp.length w.heap.size) qs = cellsL ρ qs := fun qs hq =>
    cellsL_congr (p := (· < hp.length)) (fun k hk => bump_lt hk) qs hq
  have old : ∀ (k : Nat) (el' : TypeId) (ps' : List SV), (hp ++ [Blk.mk el ps])[k]? = some (Blk.mk el' ps') → k < hp.length ∧ hp[k]? = some (Blk.mk el' ps') ∨ k = hp.length ∧ el' = el ∧ ps' = ps := by
    intro k el' ps' hk
    rcases Nat.lt_trichotomy k hp.length with hl | rfl | hl
    · rw [List.getElem?_append_left hl] at hk; exact .inl ⟨hl, hk⟩
    · simp at hk; exact .inr ⟨rfl, hk.1.symm, hk.2.symm⟩
    · rw [List.getElem?_eq_none (by simp; omega)] at hk; cases hk
  refine ⟨⟨?_, ?_⟩, fun k hk => bump_lt hk, by simp, ⟨by rw [hh]; simp, ?_, ho, hu, ht⟩, ?_⟩
  · intro k el' ps' hk
    rcases old k el' ps' hk with ⟨hl, hk'⟩ | ⟨rfl, rfl, rfl⟩
    · obtain ⟨h1, el2, fz', h2, h3⟩ := h.mem k el' ps' hk'
      refine ⟨okL_mono (fun x hx => by rw [hlen]; exact Nat.lt_succ_of_lt hx) _ h1, el2, fz', ?_, ?_⟩
      · rw [bump_lt hl, hh, Array.getElem?_push, if_neg (Nat.ne_of_lt (h.lt hk')), hc _ h1, h2]
      · rw [hc _ h1]; exact h3
    · refine ⟨okL_mono (fun x hx => by rw [hlen]; exact Nat.lt_succ_of_lt hx) _ hps, el0, fz, ?_, ?_⟩
      · rw [bump_self, hh, hc _ hps]; simp
      · rw [hc _ hps]; exact hf
  · intro k k' el1 ps1 el2 ps2 h1 h2 he
    rcases old k el1 ps1 h1 with ⟨hl, hk⟩ | ⟨rfl, _, _⟩ <;> rcases old k' el2 ps2 h2 with ⟨hl', hk'⟩ | ⟨rfl, _, _⟩
    · rw [bump_lt hl, bump_lt hl'] at he; exact h.inj k k' _ _ _ _ hk hk' he
    · rw [bump_lt hl, bump_self] at he; exact absurd he (Nat.ne_of_lt (h.lt hk))
    · rw [bump_lt hl', bump_self] at he; exact absurd he.symm (Nat.ne_of_lt (h.lt hk'))
    · rfl
  · intro b hb _
    rw [hh, Array.getElem?_push, if_neg (Nat.ne_of_lt hb)]
  · rintro b ⟨k, el', ps', hk, rfl⟩
    rcases old k el' ps' hk with ⟨hl, hk'⟩ | ⟨rfl, _, _⟩
    · rw [bump_lt hl]; exact .inl ⟨k, el', ps', hk', rfl⟩
    · rw [bump_self]; exact .inr (Nat.le_refl _)

/-- a block written -/
theorem Step.write (h : HpRel ρ hp w) {k : Nat} {el el0 : TypeId} {ps ps' : List SV} (hk : hp[k]? = some (.mk el ps)) (hps : okL (· < hp.length) ps') {fz : Nat × Nat}
    (hf : fz.2 ≤ fz.1 ∨ (cellsL ρ ps').length ≤ fz.1) : Step ρ hp w ρ (hp.set k (.mk el ps')) (World.putAt w (ρ k) (.cells (cellsL ρ ps').toArray el0 fz)) := by
  have hkl : k < hp.length := (List.getElem?_eq_some_iff.1 hk).1
  have old : ∀ (k' : Nat) (el' : TypeId) (qs : List SV), (hp.set k (Blk.mk el ps'))[k']? = some (Blk.mk el' qs) → k' ≠ k ∧ hp[k']? = some (Blk.mk el' qs) ∨ k' = k ∧ el' = el ∧ qs = ps' := by
    intro k' el' qs h'
    by_cases e : k' = k
    · subst e; rw [List.getElem?_set_self hkl] at h'; simp at h'; exact .inr ⟨rfl, h'.1.symm, h'.2.symm⟩
    · rw [List.getElem?_set_ne (fun x => e x.symm)] at h'; exact .inl ⟨e, h'⟩
  refine ⟨⟨?_, ?_⟩, fun _ _ => rfl, by simp, ⟨by simp [World.putAt], ?_, rfl, rfl, rfl⟩, ?_⟩
  · intro k' el' qs h'
    rcases old k' el' qs h' with ⟨hne, hk'⟩ | ⟨rfl, rfl, rfl⟩
    · obtain ⟨h1, el2, fz', h2, h3⟩ := h.mem k' el' qs hk'
      refine ⟨by simpa using h1, el2, fz', ?_, h3⟩
      have : ρ k ≠ ρ k' := fun e => hne (h.inj k' k _ _ _ _ hk' hk e.symm)
      simp only [World.putAt]
      rw [Array.getElem?_setIfInBounds_ne this]; exact h2
    · refine ⟨by simpa using hps, el0, fz, ?_, hf⟩
      simp [World.putAt, h.lt hk]
  · intro a b el1 ps1 el2 ps2 h1 h2 he
    have f : ∀ (k' : Nat) (el' : TypeId) (qs : List SV), (hp.set k (Blk.mk el ps'))[k']? = some (Blk.mk el' qs) → ∃ (e : TypeId) (q : List SV), hp[k']? = some (Blk.mk e q) := fun k' el' qs h' => by
      rcases old k' el' qs h' with ⟨_, hk'⟩ | ⟨rfl, _, _⟩
      · exact ⟨_, _, hk'⟩
      · exact ⟨_, _, hk⟩
    obtain ⟨_, _, g1⟩ := f a _ _ h1
    obtain ⟨_, _, g2⟩ := f b _ _ h2
    exact h.inj a b _ _ _ _ g1 g2 he
  · intro b _ hn
    have : ρ k ≠ b := fun e => hn ⟨k, el, ps, hk, e⟩
    simp only [World.putAt]
    rw [Array.getElem?_setIfInBounds_ne this]
  · rintro b ⟨k', el', qs, h', rfl⟩
    rcases old k' el' qs h' with ⟨_, hk'⟩ | ⟨rfl, _, _⟩
    · exact .inl ⟨k', _, _, hk', rfl⟩
    · exact .inl ⟨k', _, _, hk, rfl⟩

/-- a block under a new number, the old one given up -/
theorem Step.move (h : HpRel ρ hp w) {k : Nat} {el el' : TypeId} {ps : List SV} (hk : hp[k]? = some (.mk el ps)) :
    Step ρ hp w (bump ρ hp.length (ρ k)) (hp.set k .dead ++ [.mk el' ps]) w := by
  have hkl : k < hp.length := (List.getElem?_eq_some_iff.1 hk).1
  have hlen : (hp.set k Blk.dead ++ [Blk.mk el' ps]).length = hp.length + 1 := by simp
  have hc : ∀ qs : List SV, okL (· < hp.length) qs → cellsL (bump ρ hp.length (ρ k)) qs = cellsL ρ qs := fun qs hq =>
    cellsL_congr (p := (· < hp.length)) (fun k hk => bump_lt hk) qs hq
  have old : ∀ (x : Nat) (e : TypeId) (qs : List SV), (hp.set k Blk.dead ++ [Blk.mk el' ps])[x]? = some (Blk.mk e qs) → (x < hp.length ∧ x ≠ k ∧ hp[x]? = some (Blk.mk e qs)) ∨ (x = hp.length ∧ e = el' ∧ qs = ps) := by
    intro x e qs hx
    rcases Nat.lt_trichotomy x hp.length with hl | rfl | hl
    · rw [List.getElem?_append_left (by simpa using hl)] at hx
      by_cases hxk : x = k
      · subst hxk; rw [List.getElem?_set_self hl] at hx; cases hx
      · rw [List.getElem?_set_ne (fun e => hxk e.symm)] at hx; exact .inl ⟨hl, hxk, hx⟩
    · rw [List.getElem?_append_right (by simp)] at hx; simp at hx; exact .inr ⟨rfl, hx.1.symm, hx.2.symm⟩
    · rw [List.getElem?_eq_none (by simp; omega)] at hx; cases hx
  refine ⟨⟨?_, ?_⟩, fun x hx => bump_lt hx, by simp, Ext.refl _ _, ?_⟩
  · intro x e qs hx
    rcases old x e qs hx with ⟨hl, _, hx'⟩ | ⟨rfl, rfl, rfl⟩
    · obtain ⟨h1, el2, fz, h2, h3⟩ := h.mem x e qs hx'
      exact ⟨okL_mono (fun y hy => by rw [hlen]; exact Nat.lt_succ_of_lt hy) _ h1, el2, fz, by rw [bump_lt hl, hc _ h1, h2], by rw [hc _ h1]; exact h3⟩
    · obtain ⟨h1, el2, fz, h2, h3⟩ := h.mem k _ _ hk
      exact ⟨okL_mono (fun y hy => by rw [hlen]; exact Nat.lt_succ_of_lt hy) _ h1, el2, fz, by rw [bump_self, hc _ h1, h2], by rw [hc _ h1]; exact h3⟩
  · intro x y e1 q1 e2 q2 h1 h2 he
    rcases old x e1 q1 h1 with ⟨hl, hn, hx⟩ | ⟨rfl, _, _⟩ <;> rcases old y e2 q2 h2 with ⟨hl', hn', hy⟩ | ⟨rfl, _, _⟩
    · rw [bump_lt hl, bump_lt hl'] at he; exact h.inj x y _ _ _ _ hx hy he
    · rw [bump_lt hl, bump_self] at he; exact absurd (h.inj x k _ _ _ _ hx hk he) hn
    · rw [bump_lt hl', bump_self] at he; exact absurd (h.inj y k _ _ _ _ hy hk he.symm) hn'
    · rfl
  · rintro b ⟨x, e, qs, hx, rfl⟩
    rcases old x e qs hx with ⟨hl, _, hx'⟩ | ⟨rfl, _, _⟩
    · rw [bump_lt hl]; exact .inl ⟨x, e, qs, hx', rfl⟩
    · rw [bump_self]; exact .inl ⟨k, el, ps, hk, rfl⟩

/-- a block given up -/
theorem Step.kill (h : HpRel ρ hp w) (k : Nat) : Step ρ hp w ρ (hp.set k .dead) w := by
  have old : ∀ (k' : Nat) (el' : TypeId) (qs : List SV), (hp.set k Blk.dead)[k']? = some (Blk.mk el' qs) → hp[k']? = some (Blk.mk el' qs) := by
    intro k' el' qs h'
    by_cases e : k' = k
    · subst e
      rw [List.getElem?_set] at h'
      split at h'
      · split at h' <;> cases h'
      · rename_i hne; exact absurd rfl hne
    · rwa [List.getElem?_set_ne (fun x => e x.symm)] at h'
  refine ⟨⟨fun k' el' qs h' => ?_, fun a b _ _ _ _ h1 h2 he => h.inj a b _ _ _ _ (old _ _ _ h1) (old _ _ _ h2) he⟩, fun _ _ => rfl, by simp, Ext.refl _ _, ?_⟩
  · obtain ⟨h1, h2⟩ := h.mem k' el' qs (old _ _ _ h')
    exact ⟨by simpa using h1, h2⟩
  · rintro b ⟨k', el', qs, h', rfl⟩
    exact .inl ⟨k', _, _, old _ _ _ h', rfl⟩
end steps

/-! ### operands -/
structure TmRel (nt : Nat) (ρ : Nat → Nat) (n : Nat) (tm : List (Nat × SV)) (a : Act) : Prop where
  size : a.tmps.size = nt
  defers : a.defers = []
  val : ∀ t v, look tm t = some v → v.ok (· < n) ∧ a.tmps[t]? = some (v.den ρ)

theorem TmRel.later {nt : Nat} {ρ ρ' : Nat → Nat} {n n' : Nat} {tm : List (Nat × SV)} {a : Act} (h : TmRel nt ρ n tm a) (hs : ∀ k, k < n → ρ' k = ρ k) (hn : n ≤ n') : TmRel nt ρ' n' tm a :=
  ⟨h.size, h.defers, fun t v hv => by
    obtain ⟨h1, h2⟩ := h.val t v hv
    exact ⟨SV.ok_mono (fun k hk => Nat.lt_of_lt_of_le hk hn) v h1, by rw [h2, SV.den_congr (p := (· < n)) (fun k hk => (hs k hk).symm) v h1]⟩⟩

theorem constK_e {ρ : Nat → Nat} {p : Nat → Prop} {v : Value} {k : SV → Prop} (h : constK v k) : ∃ x : SV, k x ∧ x.ok p ∧ v = x.den ρ := by
  unfold constK at h
  split at h
  · exact ⟨_, h, trivial, rfl⟩
  · exact ⟨_, h, trivial, rfl⟩
  · split at h
    · rename_i n _ e
      have hl : n < 256 := Nat.le_of_ble_eq_true e
      refine ⟨_, h, trivial, ?_⟩
      simp only [SV.den, UInt8.toNat_ofNat']
      rw [Nat.mod_eq_of_lt (show n < 2 ^ 8 from hl)]; rfl
    · exact h.elim
  · split at h
    · rename_i n _ e
      have hl : n < 65536 := Nat.le_of_ble_eq_true e
      refine ⟨_, h, trivial, ?_⟩
      simp only [SV.den, UInt16.toNat_ofNat']
      rw [Nat.mod_eq_of_lt (show n < 2 ^ 16 from hl)]; rfl
    · exact h.elim
  · split at h
    · rename_i n _ e
      have hl : n < 4294967296 := Nat.le_of_ble_eq_true e
      refine ⟨_, h, trivial, ?_⟩
      simp only [SV.den, UInt32.toNat_ofNat']
      rw [Nat.mod_eq_of_lt (show n < 2 ^ 32 from hl)]; rfl
    · exact h.elim
  · split at h
    · rename_i n _ e
      have hl : n < 18446744073709551616 := Nat.le_of_ble_eq_true e
      refine ⟨_, h, trivial, ?_⟩
      simp only [SV.den, UInt64.toNat_ofNat']
      rw [Nat.mod_eq_of_lt (show n < 2 ^ 64 from hl)]; rfl
    · exact h.elim
  · exact ⟨_, h, trivial, rfl⟩
  · exact ⟨_, h, trivial, rfl⟩
  · exact ⟨_, h, trivial, rfl⟩
  · exact ⟨_, h, trivial, rfl⟩
  · exact ⟨_, h, trivial, rfl⟩
  · exact h.elim

section
variable {nt : Nat} {ρ : Nat → Nat} {n : Nat} {tm : List (Nat × SV)} {a : Act}
theorem evK_e (h : TmRel nt ρ n tm a) {x : Operand} {k : SV → Prop} (hk : evK tm x k) : ∃ v : SV, v.ok (· < n) ∧ a.eval x = v.den ρ ∧ k v := by
  unfold evK at hk
  split at hk
  · obtain ⟨v, h1, h2⟩ := lookK_e hk
    obtain ⟨h3, h4⟩ := h.val _ v h1
    exact ⟨v, h3, by simp [Act.eval, h4], h2⟩
  · obtain ⟨v, h3, h1, h2⟩ := constK_e (ρ := ρ) (p := (· < n)) hk
    exact ⟨v, h1, by simpa [Act.eval] using h2, h3⟩
  · exact ⟨.func _ [], trivial, rfl, hk⟩
  · exact hk.elim
theorem evsK_e (h : TmRel nt ρ n tm a) {xs : List Operand} {k : List SV → Prop} (hk : evsK tm xs k) : ∃ vs : List SV, okL (· < n) vs ∧ xs.map a.eval = denL ρ vs ∧ k vs := by
  induction xs generalizing k with
  | nil => exact ⟨[], trivial, rfl, hk⟩
  | cons x xs ih =>
    obtain ⟨v, h1, h2, h3⟩ := evK_e h hk
    obtain ⟨vs, g1, g2, g3⟩ := ih h3
    exact ⟨v :: vs, ⟨h1, g1⟩, by simp [denL, h2, g2], g3⟩
theorem partsVK_e (h : TmRel nt ρ n tm a) {xs : List (Nat × Operand)} {k : List (Nat × SV) → Prop} (hk : partsVK tm xs k) :
    ∃ vs : List (Nat × SV), (∀ p ∈ vs, p.2.ok (· < n)) ∧ (xs.map fun p => (p.1, a.eval p.2)) = (vs.map fun p => (p.1, p.2.den ρ)) ∧ k vs := by
  induction xs generalizing k with
  | nil => exact ⟨[], by simp, rfl, hk⟩
  | cons x xs ih =>
    obtain ⟨i, x⟩ := x
    obtain ⟨v, h1, h2, h3⟩ := evK_e h hk
    obtain ⟨vs, g1, g2, g3⟩ := ih h3
    exact ⟨(i, v) :: vs, fun p hp => by rcases List.mem_cons.1 hp with rfl | hp; exact h1; exact g1 p hp, by simp [h2, g2], g3⟩
theorem putK_e (h : TmRel nt ρ n tm a) {hp : List Blk} {d : Option Nat} {v : SV} {K : St → Prop} (hv : v.ok (· < n)) (hk : putK nt tm hp d v K) :
    ∃ tm', TmRel nt ρ n tm' (a.put d (v.den ρ)) ∧ K ⟨tm', hp⟩ := by
  unfold putK at hk
  split at hk
  · split at hk
    · rename_i d _ e
      have hd : d < nt := Nat.le_of_ble_eq_true e
      refine ⟨_, ⟨by simp [Act.put, h.size], h.defers, fun t u hu => ?_⟩, hk⟩
      simp only [look] at hu
      split at hu
      · rename_i e; subst e; cases hu
        exact ⟨hv, by simp [Act.put, h.size, hd]⟩
      · rename_i e
        obtain ⟨g1, g2⟩ := h.val t u hu
        exact ⟨g1, by simp only [Act.put]; rw [Array.getElem?_setIfInBounds_ne e]; exact g2⟩
    · exact hk.elim
  · exact ⟨tm, h, hk⟩
end

/-! ### types -/
def Ty.agg : Ty → Bool
  | .arr .. | .struct .. => true
  | _ => false

def TyOK (P : Program) (t : TypeId) (i : TyI) : Prop :=
  (∃ info, P.info? t = some info ∧ info.size = i.sz ∧ info.bytes = i.bytes ∧ ∀ ρ, info.zero = some (i.zero.den ρ)) ∧
  (i.zero.ok (fun _ => False) ∧ (i.d.agg = false → i.sz = 1) ∧ i.zero.size = i.sz) ∧
  (match i.d with
   | .int k => P.underlying t = some (.int k)
   | .bool => P.underlying t = some .bool
   | .str => P.underlying t = some .string
   | .ptr => ∃ e, P.underlying t = some (.pointer e)
   | .sl e => P.underlying t = some (.slice e)
   | .arr n e => P.underlying t = some (.array n e)
   | .struct fs => ∃ fields : Array Field, P.underlying t = some (.struct fields) ∧ (fields.toList.map fun f => (f.offset, f.type)) = fs ∧ ∀ f ∈ fields, f.name ≠ "_"
   | .func => ∃ a b c, P.underlying t = some (.func a b c)
   | .iface => ∃ ms, P.underlying t = some (.interface ms)
   | .other => ∃ d, P.underlying t = some d ∧ (match d with | .struct _ | .array _ _ | .int _ => False | _ => True)) ∧
  (i.eqOk = true → P.stoodInHeld t = false ∧ P.eqGuardType P.depth t = false)

/-- what a specification of a function promises, by the model -/
def Post (K : SV → List Blk → Prop) (ρ : Nat → Nat) (hp : List Blk) (w : World) (r : SV) (ρ' : Nat → Nat) (hp' : List Blk) (w' : World) : Prop :=
  K r hp' ∧ r.ok (· < hp'.length) ∧ Step ρ hp w ρ' hp' w'

def CallOut (P : Program) (f : FuncId) (args : Array Value) (ρ : Nat → Nat) (hp : List Blk) (w : World) (K : SV → List Blk → Prop) : Prop :=
  (∃ r ρ' hp' w', (callFunc f args).run P w = .ok (.value (r.den ρ')) w' ∧ Post K ρ hp w r ρ' hp' w') ∨
  ((callFunc f args).run P w = .ok (.enter f args) w ∧ Calls P f args w fun e w' => ∃ r ρ' hp', e = .returned (r.den ρ') ∧ Post K ρ hp w r ρ' hp' w')

def SoundC (P : Program) (f : FuncId) (S : Spec) : Prop :=
  ∀ (args : List SV) (hp : List Blk) (K : SV → List Blk → Prop), S args hp K → ∀ (ρ : Nat → Nat) (w : World), HpRel ρ hp w → okL (· < hp.length) args →
    CallOut P f (denL ρ args).toArray ρ hp w K

structure CtxOK (P : Program) (Γ : Ctx) : Prop where
  ty : ∀ t i, look Γ.ty t = some i → TyOK P t i
  fn : ∀ f S, look Γ.fn f = some S → SoundC P f S
  ext : ∀ a t v, Γ.ext a t v → v.ok (fun _ => False) ∧ ∀ ρ w, Γ.E w → (loadVar t a).run P w = .ok (v.den ρ) w

theorem CallOut.mono {P : Program} {f : FuncId} {args : Array Value} {ρ : Nat → Nat} {hp : List Blk} {w : World} {K K' : SV → List Blk → Prop}
    {ρ1 : Nat → Nat} {hp1 : List Blk} (h : CallOut P f args ρ hp w K)
    (hm : ∀ r ρ' hp' w', Post K ρ hp w r ρ' hp' w' → ∃ r1 ρ1' hp1', r1.den ρ1' = r.den ρ' ∧ Post K' ρ1 hp1 w r1 ρ1' hp1' w') : CallOut P f args ρ1 hp1 w K' := by
  rcases h with ⟨r, ρ', hp', w', h1, h2⟩ | ⟨h1, h2⟩
  · obtain ⟨r1, ρ1', hp1', e, hp⟩ := hm r ρ' hp' w' h2
    exact .inl ⟨r1, ρ1', hp1', w', by rw [h1, e], hp⟩
  · refine .inr ⟨h1, h2.mono fun e w' ⟨r, ρ', hp', he, hpost⟩ => ?_⟩
    obtain ⟨r1, ρ1', hp1', e1, hp⟩ := hm r ρ' hp' w' hpost
    exact ⟨r1, ρ1', hp1', by rw [he, e1], hp⟩

end Go.Sym

/-
  The symbolic engine, part 7: loads and stores. No program in sight; no condition beyond each lemma's own.
-/
namespace Go.Sym

theorem splice_map {α β : Type} (f : α → β) (l : List α) (i : Nat) (m : List α) : (splice l i m).map f = splice (l.map f) i (m.map f) := by simp [splice, List.map_take, List.map_drop]
theorem set_splice {α : Type} (l : List α) (i : Nat) (x : α) (h : i < l.length) : l.set i x = splice l i [x] := by
  simp only [splice, List.length_singleton]
  rw [List.set_eq_take_append_cons_drop, if_pos h]
  simp
theorem splice_length {α : Type} (l : List α) (i : Nat) (m : List α) (h : i + m.length ≤ l.length) : (splice l i m).length = l.length := by simp [splice]; omega
theorem splice_inner {α : Type} (a p r : List α) (i : Nat) (m : List α) (h : i + m.length ≤ p.length) : splice (a ++ (p ++ r)) (a.length + i) m = a ++ (splice p i m ++ r) := by
  simp only [splice]
  rw [List.take_length_add_append, List.take_append_of_le_length (by omega), show a.length + i + m.length = a.length + (i + m.length) by omega, List.drop_length_add_append,
    List.drop_append_of_le_length h]
  simp
theorem splice_whole {α : Type} (a p r m : List α) (h : m.length = p.length) : splice (a ++ (p ++ r)) a.length m = a ++ (m ++ r) := by
  have := splice_inner a p r 0 m (by omega)
  rw [Nat.add_zero] at this
  rw [this]
  simp [splice, h]

theorem map_getD {α : Type} (f : α → Value) (l : List α) (i : Nat) (d : α) (h : i < l.length) : (l.map f)[i]? = some (f (l.getD i d)) := by
  simp [h, List.getD_eq_getElem?_getD]

theorem ctab_get (n es : Nat) (f : Nat → List At) (h : ∀ i, i < n → (f i).length = es) (i c : Nat) (hi : i < n) (hc : c < es) : (ctab n f)[i * es + c]? = ((f i)[c]?).map At.val := by
  unfold ctab
  induction n with
  | zero => omega
  | succ n ih =>
    rw [List.range_succ, List.flatMap_append]
    have hl : ((List.range n).flatMap fun i => (f i).map At.val).length = n * es := ctab_length n es f (fun i hi => h i (by omega))
    rcases Nat.lt_or_ge i n with hlt | hge
    · have : i * es + c < n * es := by
        have : (i + 1) * es ≤ n * es := Nat.mul_le_mul_right _ hlt
        rw [Nat.add_mul] at this; omega
      rw [List.getElem?_append_left (by rw [hl]; exact this)]
      exact ih (fun i hi => h i (by omega)) hlt
    · obtain rfl : i = n := by omega
      rw [List.getElem?_append_right (by rw [hl]; omega), hl]
      simp

theorem tabK_e {o : List (Nat × Nat)} {es : Nat} {k : Nat → Nat → Prop} (h : tabK o es k) : ∃ i c, off o = i * es + c ∧ k i c := by
  unfold tabK at h
  split at h
  · exact ⟨0, 0, by simp [off], h⟩
  · split at h
    · rename_i i e _ he
      have := Nat.eq_of_beq_eq_true he
      subst this
      exact ⟨i, 0, by simp [off, offE_eq], h⟩
    · exact h.elim
  · split at h
    · rename_i i e c _ he
      have := Nat.eq_of_beq_eq_true he
      subst this
      exact ⟨i, c, by simp [off, offE_eq], h⟩
    · exact h.elim
  · exact h.elim

theorem atK_e {a : At} {k : SV → Prop} (h : atK a k) : k a.sv := by cases a <;> exact h
theorem atsK_e {as : List At} {k : List SV → Prop} (h : atsK as k) : k (as.map At.sv) := by
  induction as generalizing k with
  | nil => exact h
  | cons a as ih =>
    have := atK_e h
    exact ih (k := fun vs => k (a.sv :: vs)) this
theorem dropK_e {α : Type} {l : List α} {n : Nat} {k : List α → Prop} (h : dropK l n k) : n ≤ l.length ∧ k (l.drop n) := by
  induction n generalizing l with
  | zero => cases l <;> exact ⟨by simp, h⟩
  | succ n ih =>
    cases l with
    | nil => exact h.elim
    | cons x xs => obtain ⟨h1, h2⟩ := ih h; exact ⟨by simp; omega, h2⟩
theorem firstK_e {α : Type} {l : List α} {n : Nat} {k : List α → Prop} (h : firstK l n k) : n ≤ l.length ∧ k (l.take n) := by
  induction n generalizing l k with
  | zero => cases l <;> exact ⟨by simp, h⟩
  | succ n ih =>
    cases l with
    | nil => exact h.elim
    | cons x xs => obtain ⟨h1, h2⟩ := ih (k := fun l => k (x :: l)) h; exact ⟨by simp; omega, h2⟩
theorem okL_sv {p : Nat → Prop} (as : List At) : okL p (as.map At.sv) := by
  induction as with
  | nil => trivial
  | cons a as ih => exact ⟨At.sv_ok a, ih⟩
theorem cellsL_sv (ρ : Nat → Nat) (as : List At) : cellsL ρ (as.map At.sv) = as.map At.val := by
  induction as with
  | nil => rfl
  | cons a as ih => simp only [List.map_cons, cellsL, ih, den_scalar (At.sv_scalar a), ← At.val_eq]; rfl

section
variable {p : Nat → Prop} {ρ : Nat → Nat}

theorem cellK_e {q : SV} {o : List (Nat × Nat)} {k : SV → Prop} (hq : q.ok p) (h : cellK q o k) :
    ∃ v : SV, k v ∧ v.ok p ∧ v.scalar = true ∧ (q.cells ρ)[off o]? = some (v.den ρ) := by
  unfold cellK at h
  split at h
  · obtain ⟨h1, h2⟩ := pre_e h; exact ⟨_, h2, trivial, rfl, map_getD _ _ _ 0 h1⟩
  · obtain ⟨h1, h2⟩ := pre_e h; exact ⟨_, h2, trivial, rfl, map_getD _ _ _ 0 h1⟩
  · obtain ⟨h1, h2⟩ := pre_e h; exact ⟨_, h2, trivial, rfl, map_getD _ _ _ 0 h1⟩
  · obtain ⟨h1, h2⟩ := pre_e h; exact ⟨_, h2, trivial, rfl, map_getD _ _ _ 0 h1⟩
  · obtain ⟨h1, h2⟩ := pre_e h; exact ⟨_, h2, trivial, rfl, map_getD _ _ _ [] h1⟩
  · rename_i n es f
    obtain ⟨i, c, ho, h⟩ := tabK_e h
    obtain ⟨h1, h⟩ := pre_e h
    obtain ⟨a, h2, h⟩ := nthK_e h
    have hr := hq i h1
    have hc : c < es := by have := (List.getElem?_eq_some_iff.1 h2).1; omega
    refine ⟨a.sv, atK_e h, At.sv_ok a, At.sv_scalar a, ?_⟩
    rw [ho]
    show (ctab n f)[_]? = _
    rw [ctab_get n es f hq i c h1 hc, h2, ← At.val_eq]; rfl
  · exact h.elim
  · exact h.elim
  · rename_i h1 h2 h3 h4 h5 h6 h7 h8
    have hs : q.scalar = true := by
      cases q <;> first | rfl | (exfalso; first | exact h1 _ _ rfl | exact h2 _ _ rfl | exact h3 _ _ rfl | exact h4 _ _ rfl | exact h5 _ _ rfl | exact h6 _ _ _ rfl | exact h7 _ rfl | exact h8 _ rfl)
    split at h
    · exact ⟨q, h, hq, hs, by rw [den_scalar hs]; rfl⟩
    · exact h.elim

theorem sub_row {α : Type} (f : α → Value) (l : List α) (s m : Nat) (h : s + m ≤ l.length) :
    (((l.drop s).take m).map f).length = m ∧ ∀ i, i < m → (l.map f)[s + i]? = (((l.drop s).take m).map f)[i]? := by
  refine ⟨by simp; omega, fun i hi => ?_⟩
  simp [hi, List.getElem?_drop]

theorem subK_e {q : SV} {o : List (Nat × Nat)} {m : Nat} {k : SV → Prop} (hq : q.ok p) (h : subK q o m k) :
    ∃ v : SV, k v ∧ v.ok p ∧ v.many = true ∧ (v.cells ρ).length = m ∧ ∀ i, i < m → (q.cells ρ)[off o + i]? = (v.cells ρ)[i]? := by
  unfold subK at h
  split at h
  · rename_i l; obtain ⟨h1, h2⟩ := pre_e h; exact ⟨_, h2, by simp [SV.ok]; omega, rfl, sub_row _ l _ _ h1⟩
  · rename_i l; obtain ⟨h1, h2⟩ := pre_e h; exact ⟨_, h2, by simp [SV.ok]; omega, rfl, sub_row _ l _ _ h1⟩
  · rename_i l; obtain ⟨h1, h2⟩ := pre_e h; exact ⟨_, h2, by simp [SV.ok]; omega, rfl, sub_row _ l _ _ h1⟩
  · rename_i l; obtain ⟨h1, h2⟩ := pre_e h; exact ⟨_, h2, by simp [SV.ok]; omega, rfl, sub_row _ l _ _ h1⟩
  · rename_i l; obtain ⟨h1, h2⟩ := pre_e h; exact ⟨_, h2, by simp [SV.ok]; omega, rfl, sub_row _ l _ _ h1⟩
  · rename_i n es f
    obtain ⟨i, c, ho, h⟩ := tabK_e h
    obtain ⟨h1, h⟩ := pre_e h
    obtain ⟨h2, h⟩ := dropK_e h
    obtain ⟨h3, h⟩ := firstK_e h
    have h := atsK_e h
    have hr := hq i h1
    have e : (SV.agg ((((f i).drop c).take m).map At.sv)).cells ρ = (((f i).drop c).take m).map At.val := cellsL_sv ρ _
    refine ⟨_, h, okL_sv _, rfl, by rw [e]; simp at h3 ⊢; omega, fun x hx => ?_⟩
    simp at h3
    rw [ho, e]
    show (ctab n f)[_]? = _
    rw [show i * es + c + x = i * es + (c + x) by omega, ctab_get n es f hq i (c + x) h1 (by omega)]
    simp [hx, List.getElem?_drop]
  · exact h.elim

/-- what was loaded: one cell, or so many -/
def Loaded (ti : TyI) (L : List Value) (s : Nat) (ρ : Nat → Nat) (v : SV) : Prop :=
  (ti.d.agg = false ∧ v.scalar = true ∧ L[s]? = some (v.den ρ)) ∨
  (ti.d.agg = true ∧ v.many = true ∧ (v.cells ρ).length = ti.sz ∧ ∀ i, i < ti.sz → L[s + i]? = (v.cells ρ)[i]?)

theorem part_at {a r : List SV} {q : SV} {b : Nat} (ha : (cellsL ρ a).length = b) {i : Nat} {v : Value} (h : (q.cells ρ)[i]? = some v) : (cellsL ρ (a ++ q :: r))[b + i]? = some v := by
  rw [cellsL_append, ← ha, List.getElem?_append_right (by omega), Nat.add_sub_cancel_left]
  simp only [cellsL]
  have : i < (q.cells ρ).length := (List.getElem?_eq_some_iff.1 h).1
  rw [List.getElem?_append_left this, h]

theorem loadK_e {ti : TyI} {ps : List SV} {j b : Nat} {o : List (Nat × Nat)} {k : SV → Prop} (hp : okL p ps) (h : loadK ti ps j b o k) :
    ∃ v : SV, k v ∧ v.ok p ∧ Loaded ti (cellsL ρ ps) (b + off o) ρ v := by
  obtain ⟨a, r, he, hb, h'⟩ := splitK_e h
  clear h
  have h := h'
  clear h'
  subst he
  obtain ⟨hoa, hor⟩ := okL_append.1 hp
  have hla : (cellsL ρ a).length = b := by rw [cellsL_length ρ a hoa, hb]
  have agg : ti.d.agg = true → (match (generalizing := false) o with
      | [] => takeK r ti.sz fun a _ => packK a k
      | _ => match (generalizing := false) r with | q :: _ => subK q o ti.sz k | [] => False) → ∃ v : SV, k v ∧ v.ok p ∧ Loaded ti (cellsL ρ (a ++ r)) (b + off o) ρ v := by
    intro hag hg
    clear h
    have h := hg
    clear hg
    split at h
    · obtain ⟨a2, r2, he2, hs2, h'⟩ := takeK_e h
      clear h
      have h := h'
      clear h'
      subst he2
      obtain ⟨ho2, _⟩ := okL_append.1 hor
      obtain ⟨v, hm, hc, hok, hk⟩ := packK_e (p := p) h
      have hl2 : (cellsL ρ a2).length = ti.sz := by rw [cellsL_length ρ a2 ho2, hs2]
      refine ⟨v, hk, hok ho2, .inr ⟨hag, hm, by rw [hc, hl2], fun i hi => ?_⟩⟩
      rw [hc, cellsL_append, cellsL_append, show b + off [] + i = b + i by simp [off], ← hla, List.getElem?_append_right (by omega), Nat.add_sub_cancel_left,
        List.getElem?_append_left (by omega)]
    · split at h
      · rename_i q r'
        obtain ⟨v, hk, hok, hm, hl, hv⟩ := subK_e (ρ := ρ) (p := p) hor.1 h
        refine ⟨v, hk, hok, .inr ⟨hag, hm, hl, fun i hi => ?_⟩⟩
        have hi' : i < (v.cells ρ).length := by omega
        rw [Nat.add_assoc, List.getElem?_eq_getElem hi']
        exact part_at hla (by rw [hv i hi, List.getElem?_eq_getElem hi'])
      · exact h.elim
  split at h
  · rename_i hd; exact agg (by rw [hd]; rfl) h
  · rename_i hd; exact agg (by rw [hd]; rfl) h
  · rename_i hd1 hd2
    have hag : ti.d.agg = false := by
      cases hd : ti.d <;> first | rfl | (exfalso; first | exact hd1 _ _ hd | exact hd2 _ hd)
    split at h
    · rename_i q r'
      obtain ⟨v, hk, hok, hs, hv⟩ := cellK_e (ρ := ρ) (p := p) hor.1 h
      exact ⟨v, hk, hok, .inl ⟨hag, hs, part_at hla hv⟩⟩
    · exact h.elim

theorem run_isAgg' {P : Program} {t : TypeId} {ti : TyI} (ht : TyOK P t ti) (w : World) : (isAgg t).run P w = .ok ti.d.agg w := by
  obtain ⟨_, _, h, _⟩ := ht
  have key : ∀ d, P.underlying t = some d → (isAgg t).run P w = .ok (match d with | .struct _ | .array _ _ => true | _ => false) w := by
    intro d hd
    simp only [isAgg, Sem.run_bind, run_underlying hd, Result.andThen_ok]
    cases d <;> rfl
  cases hd : ti.d <;> rw [hd] at h <;> simp only at h
  case ptr => obtain ⟨e, h⟩ := h; rw [key _ h]; rfl
  case struct => obtain ⟨e, h, _⟩ := h; rw [key _ h]; rfl
  case func => obtain ⟨a, b, c, h⟩ := h; rw [key _ h]; rfl
  case iface => obtain ⟨e, h⟩ := h; rw [key _ h]; rfl
  case other =>
    obtain ⟨d, h, hn⟩ := h
    rw [key _ h]
    cases d <;> first | rfl | exact hn.elim
  all_goals (rw [key _ h]; rfl)

theorem run_sizeOf' {P : Program} {t : TypeId} {ti : TyI} (ht : TyOK P t ti) (w : World) : (sizeOf t).run P w = .ok ti.sz w := by
  obtain ⟨⟨info, h1, h2, _⟩, _⟩ := ht
  simp only [sizeOf, typeInfo, Sem.run_bind, run_program, Result.andThen_ok, h1, Sem.run_pure]
  rw [h2]

theorem run_loadVar' {P : Program} {t : TypeId} {ti : TyI} (ht : TyOK P t ti) {w : World} {b s : Nat} {L : List Value} (hc : ∀ i, w.cell? ⟨b, i, none⟩ = L[i]?) {v : SV}
    (hv : Loaded ti L s ρ v) : (loadVar t ⟨b, s, none⟩).run P w = .ok (v.den ρ) w := by
  unfold loadVar
  simp only [Sem.run_bind, run_isAgg' ht, Result.andThen_ok]
  rcases hv with ⟨ha, hs, he⟩ | ⟨ha, hm, hl, he⟩
  · rw [ha]
    simp only [Bool.false_eq_true, if_false]
    simp only [run_load, hc, he]
  · rw [ha]
    simp only [if_true, Sem.run_bind, run_sizeOf' ht, Result.andThen_ok, Sem.run_pure]
    have := run_loadCells_part (P := P) (w := w) (b := b) (s := s) (L := L) (M := v.cells ρ) hc (fun i hi => he i (by omega))
    rw [hl] at this
    rw [this, Result.andThen_ok, den_many hm]

theorem run_part' {P : Program} {t : TypeId} {ti : TyI} (ht : TyOK P t ti) {w : World} {s : Nat} {L : List Value} {v : SV}
    (hv : Loaded ti L s ρ v) : (part t L.toArray s).run P w = .ok (v.den ρ) w := by
  unfold part
  simp only [Sem.run_bind, run_isAgg' ht, Result.andThen_ok]
  rcases hv with ⟨ha, hs, he⟩ | ⟨ha, hm, hl, he⟩
  · rw [ha]
    simp [he]
  · rw [ha]
    simp only [if_true, Sem.run_bind, run_sizeOf' ht, Result.andThen_ok, Sem.run_pure]
    rw [den_many hm]
    congr 2
    apply Array.ext_getElem?
    intro i
    rw [Array.getElem?_extract]
    rcases Nat.lt_or_ge i ti.sz with hi | hi
    · have h1 := he i hi
      have h2 : i < (v.cells ρ).length := by omega
      rw [List.getElem?_eq_getElem h2] at h1
      have h3 : s + i < L.length := (List.getElem?_eq_some_iff.1 h1).1
      have h4 : i < min (s + ti.sz) L.toArray.size - s := by simp; omega
      rw [if_pos h4]
      simp [h1, List.getElem?_eq_getElem h2]
    · have h4 : ¬ i < min (s + ti.sz) L.toArray.size - s := by simp; omega
      rw [if_neg h4]
      simp; omega

/-! ### stores -/
theorem many_size {v : SV} (h : v.scalar = true) : v.size = 1 := by cases v <;> first | rfl | (simp [SV.scalar] at h)
theorem to64K_e {vs : List SV} {k : List UInt64 → Prop} (h : to64K vs k) : ∃ l, k l ∧ cellsL ρ vs = c64 l := by
  induction vs generalizing k with
  | nil => exact ⟨[], h, rfl⟩
  | cons v vs ih =>
    unfold to64K at h
    split at h
    · rename_i hn; cases hn
    · rename_i _ x r hn
      cases hn
      obtain ⟨l, h1, h2⟩ := ih h
      exact ⟨x :: l, h1, by simp only [cellsL, h2]; rfl⟩
    · exact h.elim
theorem toAtK_e {v : SV} {k : At → Prop} (h : toAtK v k) : ∃ a, k a ∧ v = a.sv := by
  unfold toAtK at h
  split at h
  · exact ⟨_, h, rfl⟩
  · exact ⟨_, h, rfl⟩
  · exact ⟨_, h, rfl⟩
  · exact ⟨_, h, rfl⟩
  · exact ⟨_, h, rfl⟩
  · exact ⟨_, h, rfl⟩
  · exact ⟨_, h, rfl⟩
  · exact h.elim
theorem toAtsK_e {vs : List SV} {k : List At → Prop} (h : toAtsK vs k) : ∃ as, k as ∧ vs = as.map At.sv := by
  induction vs generalizing k with
  | nil => exact ⟨[], h, rfl⟩
  | cons v vs ih =>
    obtain ⟨a, h1, h2⟩ := toAtK_e h
    obtain ⟨as, h3, h4⟩ := ih (k := fun as => k (a :: as)) h1
    exact ⟨a :: as, h3, by rw [h2, h4]; rfl⟩

/-- all values fit a cell each -/
def One (l : List Value) : Prop := ∀ v ∈ l, v.oneCell' = true
theorem One.map {α : Type} (f : α → Value) (h : ∀ x, (f x).oneCell' = true) (l : List α) : One (l.map f) := by
  intro v hv
  obtain ⟨x, _, rfl⟩ := List.mem_map.1 hv
  exact h x
theorem one_at (a : At) : a.val.oneCell' = true := by cases a <;> rfl
theorem one_scalar {v : SV} (h : v.scalar = true) : (v.den ρ).oneCell' = true := by cases v <;> first | rfl | (simp [SV.scalar] at h)
theorem One.append {a b : List Value} (ha : One a) (hb : One b) : One (a ++ b) := by
  intro v hv
  rcases List.mem_append.1 hv with h | h
  · exact ha v h
  · exact hb v h
theorem one_plain {v : SV} (h : v.plain = true) : One (v.cells ρ) := by
  have scal : v.scalar = true → One (v.cells ρ) := fun hs => by
    rw [den_scalar hs]; intro x hx; rw [List.mem_singleton.1 hx]; exact one_scalar hs
  cases v with
  | agg ps => simp [SV.plain] at h
  | tup vs => simp [SV.plain] at h
  | arr8 n l => exact One.map _ (fun _ => rfl) l
  | arr32 n l => exact One.map _ (fun _ => rfl) l
  | arr64 n l => exact One.map _ (fun _ => rfl) l
  | arri n l => exact One.map _ (fun _ => rfl) l
  | arrs n l => exact One.map _ (fun _ => rfl) l
  | tab n es f =>
    intro x hx
    simp only [SV.cells, ctab, List.mem_flatMap, List.mem_map] at hx
    obtain ⟨_, _, a, _, rfl⟩ := hx
    exact one_at a
  | _ => exact scal rfl
theorem one_plainL {vs : List SV} (h : plainL vs = true) : One (cellsL ρ vs) := by
  induction vs with
  | nil => intro v hv; cases hv
  | cons v vs ih =>
    simp only [plainL] at h
    split at h
    · rename_i hv; exact (one_plain hv).append (ih h)
    · cases h

/-- what was written -/
def Wrote (L : List Value) (s : Nat) (M L' : List Value) : Prop := L' = splice L s M ∧ s + M.length ≤ L.length ∧ One M

theorem ctab_upd (n es : Nat) (f : Nat → List At) (h : ∀ i, i < n → (f i).length = es) (i : Nat) (hi : i < n) (r : List At) (hr : r.length = es) :
    ctab n (updF f i r) = splice (ctab n f) (i * es) (r.map At.val) := by
  have h' : ∀ x, x < n → (updF f i r x).length = es := fun x hx => by unfold updF; split; exact hr; exact h x hx
  have hb : i * es + es ≤ n * es := by have := Nat.mul_le_mul_right es hi; rw [Nat.succ_mul] at this; exact this
  apply List.ext_getElem?
  intro x
  by_cases hx : x < n * es
  · have hes : 0 < es := by
      rcases Nat.eq_zero_or_pos es with h0 | h0
      · subst h0; simp at hx
      · exact h0
    have e : x = x / es * es + x % es := by rw [Nat.mul_comm]; exact (Nat.div_add_mod x es).symm
    have hq : x / es < n := Nat.div_lt_of_lt_mul (by rwa [Nat.mul_comm] at hx)
    have hm : x % es < es := Nat.mod_lt _ hes
    have h1 : (ctab n (updF f i r))[x]? = ((updF f i r (x / es))[x % es]?).map At.val := by
      conv => lhs; rw [e]
      exact ctab_get n es _ h' _ _ hq hm
    have h2 : (ctab n f)[x]? = ((f (x / es))[x % es]?).map At.val := by
      conv => lhs; rw [e]
      exact ctab_get n es _ h _ _ hq hm
    have hl : (ctab n f).length = n * es := ctab_length n es f h
    rw [h1]
    simp only [splice, List.length_map, hr]
    by_cases hc : x / es = i
    · have e2 : x = i * es + x % es := by rw [← hc]; exact e
      simp only [updF, if_pos hc]
      rw [List.append_assoc, List.getElem?_append_right (by rw [List.length_take]; omega), List.length_take, hl, Nat.min_eq_left (by omega)]
      rw [List.getElem?_append_left (by simp; omega), show x - i * es = x % es by omega]
      simp
    · simp only [updF, if_neg hc]
      rw [← h2]
      rcases Nat.lt_or_gt_of_ne hc with hlt | hgt
      · have : x < i * es := by
          have := Nat.mul_le_mul_right es hlt
          rw [Nat.succ_mul] at this; omega
        rw [List.append_assoc, List.getElem?_append_left (by rw [List.length_take]; omega), List.getElem?_take, if_pos this]
      · have : i * es + es ≤ x := by
          have := Nat.mul_le_mul_right es hgt
          rw [Nat.succ_mul] at this; omega
        rw [List.getElem?_append_right (by simp; omega), List.getElem?_drop]
        congr 1
        simp; omega
  · have hl : (ctab n f).length = n * es := ctab_length n es f h
    have hl' : (ctab n (updF f i r)).length = n * es := ctab_length n es _ h'
    rw [List.getElem?_eq_none (by omega), List.getElem?_eq_none]
    rw [splice_length _ _ _ (by simp; omega)]; omega

theorem row_write {α : Type} (f : α → Value) (hf : ∀ x, (f x).oneCell' = true) (l : List α) (i : Nat) (x : α) (h : i < l.length) : Wrote (l.map f) i [f x] ((l.set i x).map f) :=
  ⟨by rw [set_splice l i x h, splice_map]; rfl, by simp; omega, fun v hv => by rw [List.mem_singleton.1 hv]; exact hf x⟩
theorem row_writes {α : Type} (f : α → Value) (hf : ∀ x, (f x).oneCell' = true) (l : List α) (i : Nat) (m : List α) (h : i + m.length ≤ l.length) : Wrote (l.map f) i (m.map f) ((splice l i m).map f) :=
  ⟨splice_map f l i m, by simpa using h, One.map f hf m⟩

theorem writeK_e {q v : SV} {o : List (Nat × Nat)} {k : SV → Prop} (hq : q.ok p) (hv : v.ok p) (h : writeK q o v k) :
    ∃ q' : SV, k q' ∧ q'.ok p ∧ Wrote (q.cells ρ) (off o) (v.cells ρ) (q'.cells ρ) := by
  unfold writeK at h
  split at h
  · rename_i n l
    split at h
    · rename_i x; obtain ⟨h1, h2⟩ := pre_e h; exact ⟨_, h2, by simpa [SV.ok] using hq, row_write _ (fun _ => rfl) l _ x h1⟩
    · rename_i m x; obtain ⟨h1, h2⟩ := pre_e h
      have hm : x.length = m := hv
      exact ⟨_, h2, by simp only [SV.ok] at hq ⊢; rw [splice_length _ _ _ (by omega)]; exact hq, row_writes _ (fun _ => rfl) l _ x (by omega)⟩
    · exact h.elim
  · rename_i n l
    split at h
    · rename_i x; obtain ⟨h1, h2⟩ := pre_e h; exact ⟨_, h2, by simpa [SV.ok] using hq, row_write _ (fun _ => rfl) l _ x h1⟩
    · rename_i m x; obtain ⟨h1, h2⟩ := pre_e h
      have hm : x.length = m := hv
      exact ⟨_, h2, by simp only [SV.ok] at hq ⊢; rw [splice_length _ _ _ (by omega)]; exact hq, row_writes _ (fun _ => rfl) l _ x (by omega)⟩
    · exact h.elim
  · rename_i n l
    split at h
    · rename_i x; obtain ⟨h1, h2⟩ := pre_e h; exact ⟨_, h2, by simpa [SV.ok] using hq, row_write _ (fun _ => rfl) l _ x h1⟩
    · rename_i m x; obtain ⟨h1, h2⟩ := pre_e h
      have hm : x.length = m := hv
      exact ⟨_, h2, by simp only [SV.ok] at hq ⊢; rw [splice_length _ _ _ (by omega)]; exact hq, row_writes _ (fun _ => rfl) l _ x (by omega)⟩
    · rename_i vs
      obtain ⟨x, h, hc⟩ := to64K_e (ρ := ρ) h
      obtain ⟨h1, h2⟩ := pre_e h
      refine ⟨_, h2, by simp only [SV.ok] at hq ⊢; rw [splice_length _ _ _ (by omega)]; exact hq, ?_⟩
      have hc' : (SV.agg vs).cells ρ = c64 x := hc
      rw [hc']
      exact row_writes _ (fun _ => rfl) l _ x (by omega)
    · exact h.elim
  · rename_i n l
    split at h
    · rename_i x; obtain ⟨h1, h2⟩ := pre_e h; exact ⟨_, h2, by simpa [SV.ok] using hq, row_write _ (fun _ => rfl) l _ x h1⟩
    · rename_i m x; obtain ⟨h1, h2⟩ := pre_e h
      have hm : x.length = m := hv
      exact ⟨_, h2, by simp only [SV.ok] at hq ⊢; rw [splice_length _ _ _ (by omega)]; exact hq, row_writes _ (fun _ => rfl) l _ x (by omega)⟩
    · exact h.elim
  · rename_i n l
    split at h
    · rename_i x; obtain ⟨h1, h2⟩ := pre_e h; exact ⟨_, h2, by simpa [SV.ok] using hq, row_write _ (fun _ => rfl) l _ x h1⟩
    · exact h.elim
  · rename_i n es f
    have hq' : ∀ i, i < n → (f i).length = es := hq
    split at h
    · rename_i vs
      obtain ⟨as, h', hvs⟩ := toAtsK_e h
      clear h
      have h := h'
      clear h'
      subst hvs
      obtain ⟨i, c, ho, h⟩ := tabK_e h
      split at h
      · obtain ⟨⟨h1, h2⟩, h⟩ := pre_e h
        have hb : i * es + es ≤ n * es := by have := Nat.mul_le_mul_right es h1; rw [Nat.succ_mul] at this; exact this
        refine ⟨_, h, fun x hx => by unfold updF; split; exact h2; exact hq' x hx, ?_⟩
        have e : (SV.agg (as.map At.sv)).cells ρ = as.map At.val := cellsL_sv ρ as
        rw [e, ho]
        exact ⟨ctab_upd n es f hq' i h1 as h2, by show _ ≤ (ctab n f).length; rw [ctab_length n es f hq']; simp; omega, One.map _ one_at as⟩
      · exact h.elim
    · obtain ⟨a, h', hva⟩ := toAtK_e h
      clear h
      have h := h'
      clear h'
      subst hva
      obtain ⟨i, c, ho, h⟩ := tabK_e h
      obtain ⟨h1, h⟩ := pre_e h
      obtain ⟨h2, h⟩ := setK_e h
      have hr := hq' i h1
      have hb : i * es + es ≤ n * es := by have := Nat.mul_le_mul_right es h1; rw [Nat.succ_mul] at this; exact this
      refine ⟨_, h, fun x hx => by unfold updF; split; simp [hr]; exact hq' x hx, ?_⟩
      have e : (a.sv).cells ρ = [a.val] := by rw [den_scalar (At.sv_scalar a), ← At.val_eq]
      rw [e, ho]
      refine ⟨?_, by show _ ≤ (ctab n f).length; rw [ctab_length n es f hq']; simp; omega, fun v hv => by rw [List.mem_singleton.1 hv]; exact one_at a⟩
      show ctab n (updF f i ((f i).set c a)) = _
      rw [ctab_upd n es f hq' i h1 _ (by simp [hr])]
      have hl : (ctab n f).length = n * es := ctab_length n es f hq'
      apply List.ext_getElem?
      intro x
      have hw : ∀ c', c' < es → (ctab n f)[i * es + c']? = ((f i)[c']?).map At.val := fun c' hc' => ctab_get n es f hq' i c' h1 hc'
      simp only [splice, List.length_map, List.length_set, hr, List.length_singleton, SV.cells]
      rcases Nat.lt_or_ge x (i * es) with hx | hx
      · rw [List.append_assoc, List.append_assoc, List.getElem?_append_left (by rw [List.length_take]; omega), List.getElem?_append_left (by rw [List.length_take]; omega),
          List.getElem?_take, List.getElem?_take, if_pos hx, if_pos (by omega)]
      · rcases Nat.lt_or_ge x (i * es + es) with hx2 | hx2
        · obtain ⟨y, rfl⟩ : ∃ y, x = i * es + y := ⟨x - i * es, by omega⟩
          rw [List.append_assoc, List.getElem?_append_right (by rw [List.length_take]; omega), List.length_take, hl, Nat.min_eq_left (by omega),
            List.getElem?_append_left (by simp [hr]; omega), show i * es + y - i * es = y by omega]
          rcases Nat.lt_trichotomy y c with hy | rfl | hy
          · rw [List.append_assoc, List.getElem?_append_left (by rw [List.length_take]; omega), List.getElem?_take, if_pos (by omega), hw y (by omega)]
            simp [List.getElem?_set_ne (show c ≠ y by omega)]
          · rw [List.append_assoc, List.getElem?_append_right (by rw [List.length_take]; omega), List.length_take, hl, Nat.min_eq_left (by omega)]
            simp [h2]
          · rw [List.getElem?_append_right (by simp; omega), List.getElem?_drop]
            have : i * es + c + 1 + (i * es + y - (List.take (i * es + c) (ctab n f) ++ [a.val]).length) = i * es + y := by simp; omega
            rw [this, hw y (by omega)]
            simp [List.getElem?_set_ne (show c ≠ y by omega)]
        · rw [List.getElem?_append_right (by simp [hr]; omega), List.getElem?_append_right (by simp; omega), List.getElem?_drop, List.getElem?_drop]
          congr 1
          simp [hr]; omega
  · exact h.elim
  · exact h.elim
  · rename_i h1 h2 h3 h4 h5 h6 h7 h8
    have hqs : q.scalar = true := by
      cases q <;> first | rfl | (exfalso; first | exact h1 _ _ rfl | exact h2 _ _ rfl | exact h3 _ _ rfl | exact h4 _ _ rfl | exact h5 _ _ rfl | exact h6 _ _ _ rfl | exact h7 _ rfl | exact h8 _ rfl)
    split at h
    · split at h
      · rename_i hs
        refine ⟨v, h, hv, ?_⟩
        rw [den_scalar hqs, den_scalar hs]
        exact ⟨by simp [splice, off], by simp [off], fun x hx => by rw [List.mem_singleton.1 hx]; exact one_scalar hs⟩
      · exact h.elim
    · exact h.elim

theorem storeK_e {ti : TyI} {ps : List SV} {j b : Nat} {o : List (Nat × Nat)} {v : SV} {k : List SV → Prop} (hp : okL p ps) (hv : v.ok p) (h : storeK ti ps j b o v k) :
    ∃ ps', k ps' ∧ okL p ps' ∧ (v.cells ρ).length = ti.sz ∧ Wrote (cellsL ρ ps) (b + off o) (v.cells ρ) (cellsL ρ ps') := by
  obtain ⟨a, r, he, hb, h'⟩ := splitK_e h
  clear h
  have h := h'
  clear h'
  subst he
  obtain ⟨hoa, hor⟩ := okL_append.1 hp
  have hla : (cellsL ρ a).length = b := by rw [cellsL_length ρ a hoa, hb]
  have one : ∀ (q : SV) (r' : List SV), r = q :: r' → (writeK q o v fun p' => appK a (p' :: r') k) → ∃ ps', k ps' ∧ okL p ps' ∧ Wrote (cellsL ρ (a ++ r)) (b + off o) (v.cells ρ) (cellsL ρ ps') := by
    intro q r' he hw
    clear h
    subst he
    obtain ⟨q', hw, hq', hw1, hw2, hw3⟩ := writeK_e (ρ := ρ) (p := p) hor.1 hv hw
    refine ⟨_, appK_e hw, okL_append.2 ⟨hoa, hq', hor.2⟩, ?_, ?_, hw3⟩
    · rw [cellsL_append, cellsL_append, ← hla]
      simp only [cellsL]
      rw [splice_inner _ _ _ _ _ hw2, hw1]
    · rw [cellsL_append]; simp only [cellsL, List.length_append]; omega
  split at h
  · split at h
    · rename_i hm
      obtain ⟨a2, r2, he2, hs2, h'⟩ := takeK_e h
      clear h
      have h := h'
      clear h'
      subst he2
      obtain ⟨ho2, ho3⟩ := okL_append.1 hor
      obtain ⟨fs, h, hf1, hf2, hf3⟩ := flatK_e (p := p) ρ h
      split at h
      · rename_i hz
        split at h
        · rename_i hpl
          have hz := Nat.eq_of_beq_eq_true hz
          have hl2 : (cellsL ρ a2).length = ti.sz := by rw [cellsL_length ρ a2 ho2, hs2]
          have hlf : (cellsL ρ fs).length = ti.sz := by rw [cellsL_length ρ fs (hf3 hv), hz]
          refine ⟨_, appK_e (appK_e h), okL_append.2 ⟨hoa, okL_append.2 ⟨hf3 hv, ho3⟩⟩, by rw [← hf1, hlf], ?_, ?_, ?_⟩
          · rw [cellsL_append, cellsL_append, cellsL_append, cellsL_append, show b + off [] = b by simp [off], ← hla, ← hf1, splice_whole _ _ _ _ (by omega)]
          · rw [← hf1, cellsL_append, cellsL_append]; simp [off]; omega
          · rw [← hf1]; exact one_plainL hpl
        · exact h.elim
      · exact h.elim
    · split at h
      · rename_i hm _ hz
        split at h
        · rename_i q r'
          obtain ⟨ps', h1, h2, h3⟩ := one q r' rfl h
          refine ⟨ps', h1, h2, ?_, h3⟩
          have hz := Nat.eq_of_beq_eq_true hz
          have hvs : v.scalar = true := by
            cases v <;> first | rfl | (exfalso; revert hm; simp [SV.many]; done) | skip
            rename_i vs
            have := h3.2.2
            simp only [SV.cells] at this
            have := this _ (List.mem_singleton.2 rfl)
            simp [Value.oneCell'] at this
          rw [den_scalar hvs]; simp [hz]
        · exact h.elim
      · exact h.elim
  · split at h
    · rename_i hz
      split at h
      · rename_i q r'
        obtain ⟨ps', h1, h2, h3⟩ := one q r' rfl h
        exact ⟨ps', h1, h2, by rw [SV.cells_length ρ v hv]; exact Nat.eq_of_beq_eq_true hz, h3⟩
      · exact h.elim
    · exact h.elim
end
end Go.Sym
