/-
  The symbolic engine, part 1: symbolic values, blocks, states, and their meaning in the model's memory. No program in sight; no condition.
-/
import GoSem.Dispatch
import GoSem.Core.Code
set_option linter.unusedSimpArgs false
set_option linter.unusedVariables false
namespace Go.Sym

/-- a datum without a pointer -/
inductive At where
  | bool (b : Bool)
  | int (n : Int)
  | u8 (x : UInt8)
  | u16 (x : UInt16)
  | u32 (x : UInt32)
  | u64 (x : UInt64)
  | str (l : List UInt8)
  deriving Inhabited

/-- A symbolic value. Leaves are Lean terms; pointers name a symbolic block (k), a part of it (j), the cell where that part begins (b), and offsets within the part (o: so many times so many cells). -/
inductive SV where
  | bool (b : Bool)
  | int (n : Int)
  | u8 (x : UInt8)
  | u16 (x : UInt16)
  | u32 (x : UInt32)
  | u64 (x : UInt64)
  | str (l : List UInt8)
  | ptr (k j b : Nat) (o : List (Nat × Nat))
  | nilptr
  | sl (k j b : Nat) (o : List (Nat × Nat)) (n c : Nat)
  | nilsl
  | func (f : FuncId) (caps : List SV)
  | nilfn
  | nilif
  | iface (t : TypeId) (v : SV)
  | arr8 (n : Nat) (l : List UInt8)
  | arr32 (n : Nat) (l : List UInt32)
  | arr64 (n : Nat) (l : List UInt64)
  | arri (n : Nat) (l : List Int)
  | arrs (n : Nat) (l : List (List UInt8))
  | tab (n es : Nat) (f : Nat → List At)
  | agg (ps : List SV)
  | tup (vs : List SV)
  | xptr (a : Addr)
  | xsl (a : Option Addr) (n c : Nat)
  deriving Inhabited

inductive Blk where
  | mk (el : TypeId) (ps : List SV)
  | dead
  deriving Inhabited

structure St where
  tm : List (Nat × SV)
  hp : List Blk

def offE (x : Nat × Nat) : Nat := match x with | (i, 1) => i | (i, e) => i * e
/-- the sum of offsets -/
def off : List (Nat × Nat) → Nat
  | [] => 0
  | [x] => offE x
  | x :: y :: r => offE x + off (y :: r)

theorem offE_eq (x : Nat × Nat) : offE x = x.1 * x.2 := by
  obtain ⟨i, e⟩ := x
  unfold offE
  split
  · rename_i h; cases h; simp
  · rename_i h; cases h; rfl
theorem off_cons (x : Nat × Nat) (r : List (Nat × Nat)) : off (x :: r) = x.1 * x.2 + off r := by
  cases r with
  | nil => simp [off, offE_eq]
  | cons y r => simp [off, offE_eq]
theorem off_append (a b : List (Nat × Nat)) : off (a ++ b) = off a + off b := by
  induction a with
  | nil => simp [off]
  | cons x r ih => rw [List.cons_append, off_cons, off_cons, ih]; omega

def At.val : At → Value
  | .bool b => .bool b
  | .int n => .int .i64 n
  | .u8 x => .int .u8 (x.toNat : Int)
  | .u16 x => .int .u16 (x.toNat : Int)
  | .u32 x => .int .u32 (x.toNat : Int)
  | .u64 x => .int .u64 (x.toNat : Int)
  | .str l => .string ⟨l.toArray⟩

def At.sv : At → SV
  | .bool b => .bool b
  | .int n => .int n
  | .u8 x => .u8 x
  | .u16 x => .u16 x
  | .u32 x => .u32 x
  | .u64 x => .u64 x
  | .str l => .str l

def c8 (l : List UInt8) : List Value := l.map fun x => .int .u8 (x.toNat : Int)
def c32 (l : List UInt32) : List Value := l.map fun x => .int .u32 (x.toNat : Int)
def c64 (l : List UInt64) : List Value := l.map fun x => .int .u64 (x.toNat : Int)
def ci (l : List Int) : List Value := l.map fun x => .int .i64 x
def cs (l : List (List UInt8)) : List Value := l.map fun x => .string ⟨x.toArray⟩
def ctab (n : Nat) (f : Nat → List At) : List Value := (List.range n).flatMap fun i => (f i).map At.val

mutual
/-- the value's cells -/
def SV.cells (ρ : Nat → Nat) : SV → List Value
  | .bool b => [.bool b]
  | .int n => [.int .i64 n]
  | .u8 x => [.int .u8 (x.toNat : Int)]
  | .u16 x => [.int .u16 (x.toNat : Int)]
  | .u32 x => [.int .u32 (x.toNat : Int)]
  | .u64 x => [.int .u64 (x.toNat : Int)]
  | .str l => [.string ⟨l.toArray⟩]
  | .ptr k _ b o => [.pointer (some ⟨ρ k, b + off o, none⟩)]
  | .nilptr => [.pointer none]
  | .sl k _ b o n c => [.slice (some ⟨ρ k, b + off o, none⟩) n c]
  | .nilsl => [.slice none 0 0]
  | .func f caps => [.func (.func f) #[] (denL ρ caps).toArray]
  | .nilfn => [.nilFunc]
  | .nilif => [.nilIface]
  | .iface t v => [.iface t (v.den ρ)]
  | .arr8 _ l => c8 l
  | .arr32 _ l => c32 l
  | .arr64 _ l => c64 l
  | .arri _ l => ci l
  | .arrs _ l => cs l
  | .tab n _ f => ctab n f
  | .agg ps => cellsL ρ ps
  | .tup vs => [.tuple (denL ρ vs).toArray]
  | .xptr a => [.pointer (some a)]
  | .xsl a n c => [.slice a n c]
def cellsL (ρ : Nat → Nat) : List SV → List Value
  | [] => []
  | v :: vs => v.cells ρ ++ cellsL ρ vs
/-- the value itself -/
def SV.den (ρ : Nat → Nat) : SV → Value
  | .bool b => .bool b
  | .int n => .int .i64 n
  | .u8 x => .int .u8 (x.toNat : Int)
  | .u16 x => .int .u16 (x.toNat : Int)
  | .u32 x => .int .u32 (x.toNat : Int)
  | .u64 x => .int .u64 (x.toNat : Int)
  | .str l => .string ⟨l.toArray⟩
  | .ptr k _ b o => .pointer (some ⟨ρ k, b + off o, none⟩)
  | .nilptr => .pointer none
  | .sl k _ b o n c => .slice (some ⟨ρ k, b + off o, none⟩) n c
  | .nilsl => .slice none 0 0
  | .func f caps => .func (.func f) #[] (denL ρ caps).toArray
  | .nilfn => .nilFunc
  | .nilif => .nilIface
  | .iface t v => .iface t (v.den ρ)
  | .arr8 _ l => .agg (c8 l).toArray
  | .arr32 _ l => .agg (c32 l).toArray
  | .arr64 _ l => .agg (c64 l).toArray
  | .arri _ l => .agg (ci l).toArray
  | .arrs _ l => .agg (cs l).toArray
  | .tab n _ f => .agg (ctab n f).toArray
  | .agg ps => .agg (cellsL ρ ps).toArray
  | .tup vs => .tuple (denL ρ vs).toArray
  | .xptr a => .pointer (some a)
  | .xsl a n c => .slice a n c
def denL (ρ : Nat → Nat) : List SV → List Value
  | [] => []
  | v :: vs => v.den ρ :: denL ρ vs
end

mutual
/-- how many cells -/
def SV.size : SV → Nat
  | .arr8 n _ => n
  | .arr32 n _ => n
  | .arr64 n _ => n
  | .arri n _ => n
  | .arrs n _ => n
  | .tab n es _ => n * es
  | .agg ps => sizeL ps
  | _ => 1
def sizeL : List SV → Nat
  | [] => 0
  | v :: vs => v.size + sizeL vs
end

mutual
/-- lists are as long as they say, blocks are such that p -/
def SV.ok (p : Nat → Prop) : SV → Prop
  | .ptr k _ _ _ => p k
  | .sl k _ _ _ _ _ => p k
  | .xsl a n _ => a.isSome = true ∨ n = 0
  | .arr8 n l => l.length = n
  | .arr32 n l => l.length = n
  | .arr64 n l => l.length = n
  | .arri n l => l.length = n
  | .arrs n l => l.length = n
  | .tab n es f => ∀ i, i < n → (f i).length = es
  | .agg ps => okL p ps
  | .tup vs => okL p vs
  | .func _ caps => okL p caps
  | .iface _ v => v.ok p
  | _ => True
def okL (p : Nat → Prop) : List SV → Prop
  | [] => True
  | v :: vs => v.ok p ∧ okL p vs
end

mutual
/-- which blocks it names: all such that p? -/
def SV.all (p : Nat → Bool) : SV → Bool
  | .ptr k _ _ _ => p k
  | .sl k _ _ _ _ _ => p k
  | .agg ps => allL p ps
  | .tup vs => allL p vs
  | .func _ caps => allL p caps
  | .iface _ v => v.all p
  | _ => true
def allL (p : Nat → Bool) : List SV → Bool
  | [] => true
  | v :: vs => match v.all p with | true => allL p vs | false => false
end

mutual
/-- the blocks that it names -/
def SV.ks : SV → List Nat
  | .ptr k _ _ _ => [k]
  | .sl k _ _ _ _ _ => [k]
  | .agg ps => ksL ps
  | .tup vs => ksL vs
  | .func _ caps => ksL caps
  | .iface _ v => v.ks
  | _ => []
def ksL : List SV → List Nat
  | [] => []
  | v :: vs => v.ks ++ ksL vs
end

mutual
/-- the same with other numbers of blocks -/
def SV.ren (g : Nat → Nat) : SV → SV
  | .ptr k j b o => .ptr (g k) j b o
  | .sl k j b o n c => .sl (g k) j b o n c
  | .func f caps => .func f (renL g caps)
  | .iface t v => .iface t (v.ren g)
  | .agg ps => .agg (renL g ps)
  | .tup vs => .tup (renL g vs)
  | .bool b => .bool b
  | .int n => .int n
  | .u8 x => .u8 x
  | .u16 x => .u16 x
  | .u32 x => .u32 x
  | .u64 x => .u64 x
  | .str l => .str l
  | .nilptr => .nilptr
  | .nilsl => .nilsl
  | .nilfn => .nilfn
  | .nilif => .nilif
  | .xptr a => .xptr a
  | .xsl a n c => .xsl a n c
  | .arr8 n l => .arr8 n l
  | .arr32 n l => .arr32 n l
  | .arr64 n l => .arr64 n l
  | .arri n l => .arri n l
  | .arrs n l => .arrs n l
  | .tab n es f => .tab n es f
def renL (g : Nat → Nat) : List SV → List SV
  | [] => []
  | v :: vs => v.ren g :: renL g vs
end

def Blk.ren (g : Nat → Nat) : Blk → Blk
  | .mk el ps => .mk el (renL g ps)
  | .dead => .dead

/-! ### plain facts -/
theorem ctab_length (n es : Nat) (f : Nat → List At) (h : ∀ i, i < n → (f i).length = es) : (ctab n f).length = n * es := by
  unfold ctab
  induction n with
  | zero => simp
  | succ n ih =>
    rw [List.range_succ, List.flatMap_append, List.length_append, ih (fun i hi => h i (by omega))]
    simp [h n (by omega), Nat.add_mul]

mutual
theorem SV.cells_length {p : Nat → Prop} (ρ : Nat → Nat) : ∀ v : SV, v.ok p → (v.cells ρ).length = v.size
  | .bool _, _ => rfl
  | .int _, _ => rfl
  | .u8 _, _ => rfl
  | .u16 _, _ => rfl
  | .u32 _, _ => rfl
  | .u64 _, _ => rfl
  | .str _, _ => rfl
  | .ptr .., _ => rfl
  | .nilptr, _ => rfl
  | .sl .., _ => rfl
  | .nilsl, _ => rfl
  | .func .., _ => rfl
  | .nilfn, _ => rfl
  | .nilif, _ => rfl
  | .xptr _, _ => rfl
  | .xsl .., _ => rfl
  | .iface .., _ => rfl
  | .arr8 n l, h => by simpa [SV.cells, SV.size, SV.ok, c8] using h
  | .arr32 n l, h => by simpa [SV.cells, SV.size, SV.ok, c32] using h
  | .arr64 n l, h => by simpa [SV.cells, SV.size, SV.ok, c64] using h
  | .arri n l, h => by simpa [SV.cells, SV.size, SV.ok, ci] using h
  | .arrs n l, h => by simpa [SV.cells, SV.size, SV.ok, cs] using h
  | .tab n es f, h => by simpa [SV.cells, SV.size] using ctab_length n es f (by simpa [SV.ok] using h)
  | .agg ps, h => by simpa [SV.cells, SV.size] using cellsL_length ρ ps (by simpa [SV.ok] using h)
  | .tup _, _ => rfl
theorem cellsL_length {p : Nat → Prop} (ρ : Nat → Nat) : ∀ vs : List SV, okL p vs → (cellsL ρ vs).length = sizeL vs
  | [], _ => rfl
  | v :: vs, h => by
    simp only [okL] at h
    simp [cellsL, sizeL, SV.cells_length ρ v h.1, cellsL_length ρ vs h.2]
end

mutual
theorem SV.cells_ren (ρ g : Nat → Nat) : ∀ v : SV, (v.ren g).cells ρ = v.cells (fun k => ρ (g k))
  | .bool _ => rfl
  | .int _ => rfl
  | .u8 _ => rfl
  | .u16 _ => rfl
  | .u32 _ => rfl
  | .u64 _ => rfl
  | .str _ => rfl
  | .ptr .. => rfl
  | .nilptr => rfl
  | .sl .. => rfl
  | .nilsl => rfl
  | .func f caps => by simp [SV.ren, SV.cells, denL_ren ρ g caps]
  | .nilfn => rfl
  | .nilif => rfl
  | .xptr _ => rfl
  | .xsl .. => rfl
  | .iface t v => by simp [SV.ren, SV.cells, SV.den_ren ρ g v]
  | .arr8 .. => rfl
  | .arr32 .. => rfl
  | .arr64 .. => rfl
  | .arri .. => rfl
  | .arrs .. => rfl
  | .tab .. => rfl
  | .agg ps => by simp [SV.ren, SV.cells, cellsL_ren ρ g ps]
  | .tup vs => by simp [SV.ren, SV.cells, denL_ren ρ g vs]
theorem cellsL_ren (ρ g : Nat → Nat) : ∀ vs : List SV, cellsL ρ (renL g vs) = cellsL (fun k => ρ (g k)) vs
  | [] => rfl
  | v :: vs => by simp [renL, cellsL, SV.cells_ren ρ g v, cellsL_ren ρ g vs]
theorem SV.den_ren (ρ g : Nat → Nat) : ∀ v : SV, (v.ren g).den ρ = v.den (fun k => ρ (g k))
  | .bool _ => rfl
  | .int _ => rfl
  | .u8 _ => rfl
  | .u16 _ => rfl
  | .u32 _ => rfl
  | .u64 _ => rfl
  | .str _ => rfl
  | .ptr .. => rfl
  | .nilptr => rfl
  | .sl .. => rfl
  | .nilsl => rfl
  | .func f caps => by simp [SV.ren, SV.den, denL_ren ρ g caps]
  | .nilfn => rfl
  | .nilif => rfl
  | .xptr _ => rfl
  | .xsl .. => rfl
  | .iface t v => by simp [SV.ren, SV.den, SV.den_ren ρ g v]
  | .arr8 .. => rfl
  | .arr32 .. => rfl
  | .arr64 .. => rfl
  | .arri .. => rfl
  | .arrs .. => rfl
  | .tab .. => rfl
  | .agg ps => by simp [SV.ren, SV.den, cellsL_ren ρ g ps]
  | .tup vs => by simp [SV.ren, SV.den, denL_ren ρ g vs]
theorem denL_ren (ρ g : Nat → Nat) : ∀ vs : List SV, denL ρ (renL g vs) = denL (fun k => ρ (g k)) vs
  | [] => rfl
  | v :: vs => by simp [renL, denL, SV.den_ren ρ g v, denL_ren ρ g vs]
end

mutual
theorem SV.size_ren (g : Nat → Nat) : ∀ v : SV, (v.ren g).size = v.size
  | .bool _ => rfl
  | .int _ => rfl
  | .u8 _ => rfl
  | .u16 _ => rfl
  | .u32 _ => rfl
  | .u64 _ => rfl
  | .str _ => rfl
  | .ptr .. => rfl
  | .nilptr => rfl
  | .sl .. => rfl
  | .nilsl => rfl
  | .func .. => rfl
  | .nilfn => rfl
  | .nilif => rfl
  | .xptr _ => rfl
  | .xsl .. => rfl
  | .iface .. => rfl
  | .arr8 .. => rfl
  | .arr32 .. => rfl
  | .arr64 .. => rfl
  | .arri .. => rfl
  | .arrs .. => rfl
  | .tab .. => rfl
  | .agg ps => by simp [SV.ren, SV.size, sizeL_ren g ps]
  | .tup .. => rfl
theorem sizeL_ren (g : Nat → Nat) : ∀ vs : List SV, sizeL (renL g vs) = sizeL vs
  | [] => rfl
  | v :: vs => by simp [renL, sizeL, SV.size_ren g v, sizeL_ren g vs]
end

mutual
theorem SV.ok_ren {p q : Nat → Prop} (g : Nat → Nat) (hg : ∀ k, p k → q (g k)) : ∀ v : SV, v.ok p → (v.ren g).ok q
  | .bool _, _ => trivial
  | .int _, _ => trivial
  | .u8 _, _ => trivial
  | .u16 _, _ => trivial
  | .u32 _, _ => trivial
  | .u64 _, _ => trivial
  | .str _, _ => trivial
  | .nilptr, _ => trivial
  | .nilsl, _ => trivial
  | .nilfn, _ => trivial
  | .nilif, _ => trivial
  | .xptr _, _ => trivial
  | .xsl .., h => h
  | .ptr k _ _ _, h => hg k h
  | .sl k _ _ _ _ _, h => hg k h
  | .func _ caps, h => by simp only [SV.ren, SV.ok] at h ⊢; exact okL_ren g hg caps h
  | .iface _ v, h => by simp only [SV.ren, SV.ok] at h ⊢; exact SV.ok_ren g hg v h
  | .arr8 _ _, h => h
  | .arr32 _ _, h => h
  | .arr64 _ _, h => h
  | .arri _ _, h => h
  | .arrs _ _, h => h
  | .tab _ _ _, h => h
  | .agg ps, h => by simp only [SV.ren, SV.ok] at h ⊢; exact okL_ren g hg ps h
  | .tup vs, h => by simp only [SV.ren, SV.ok] at h ⊢; exact okL_ren g hg vs h
theorem okL_ren {p q : Nat → Prop} (g : Nat → Nat) (hg : ∀ k, p k → q (g k)) : ∀ vs : List SV, okL p vs → okL q (renL g vs)
  | [], _ => trivial
  | v :: vs, h => ⟨SV.ok_ren g hg v h.1, okL_ren g hg vs h.2⟩
end

mutual
theorem SV.ok_mono {p q : Nat → Prop} (hg : ∀ k, p k → q k) : ∀ v : SV, v.ok p → v.ok q
  | .bool _, _ => trivial
  | .int _, _ => trivial
  | .u8 _, _ => trivial
  | .u16 _, _ => trivial
  | .u32 _, _ => trivial
  | .u64 _, _ => trivial
  | .str _, _ => trivial
  | .nilptr, _ => trivial
  | .nilsl, _ => trivial
  | .nilfn, _ => trivial
  | .nilif, _ => trivial
  | .xptr _, _ => trivial
  | .xsl .., h => h
  | .ptr k _ _ _, h => hg k h
  | .sl k _ _ _ _ _, h => hg k h
  | .func _ caps, h => by simp only [SV.ok] at h ⊢; exact okL_mono hg caps h
  | .iface _ v, h => by simp only [SV.ok] at h ⊢; exact SV.ok_mono hg v h
  | .arr8 _ _, h => h
  | .arr32 _ _, h => h
  | .arr64 _ _, h => h
  | .arri _ _, h => h
  | .arrs _ _, h => h
  | .tab _ _ _, h => h
  | .agg ps, h => by simp only [SV.ok] at h ⊢; exact okL_mono hg ps h
  | .tup vs, h => by simp only [SV.ok] at h ⊢; exact okL_mono hg vs h
theorem okL_mono {p q : Nat → Prop} (hg : ∀ k, p k → q k) : ∀ vs : List SV, okL p vs → okL q vs
  | [], _ => trivial
  | v :: vs, h => ⟨SV.ok_mono hg v h.1, okL_mono hg vs h.2⟩
end

mutual
theorem SV.ok_all {p : Nat → Prop} {b : Nat → Bool} : ∀ v : SV, v.ok p → v.all b = true → v.ok (fun k => b k = true)
  | .bool _, _, _ => trivial
  | .int _, _, _ => trivial
  | .u8 _, _, _ => trivial
  | .u16 _, _, _ => trivial
  | .u32 _, _, _ => trivial
  | .u64 _, _, _ => trivial
  | .str _, _, _ => trivial
  | .nilptr, _, _ => trivial
  | .nilsl, _, _ => trivial
  | .nilfn, _, _ => trivial
  | .nilif, _, _ => trivial
  | .xptr _, _, _ => trivial
  | .xsl .., h, _ => h
  | .ptr k _ _ _, _, h => h
  | .sl k _ _ _ _ _, _, h => h
  | .func _ caps, h, h' => by simp only [SV.ok, SV.all] at h h' ⊢; exact okL_all caps h h'
  | .iface _ v, h, h' => by simp only [SV.ok, SV.all] at h h' ⊢; exact SV.ok_all v h h'
  | .arr8 _ _, h, _ => h
  | .arr32 _ _, h, _ => h
  | .arr64 _ _, h, _ => h
  | .arri _ _, h, _ => h
  | .arrs _ _, h, _ => h
  | .tab _ _ _, h, _ => h
  | .agg ps, h, h' => by simp only [SV.ok, SV.all] at h h' ⊢; exact okL_all ps h h'
  | .tup vs, h, h' => by simp only [SV.ok, SV.all] at h h' ⊢; exact okL_all vs h h'
theorem okL_all {p : Nat → Prop} {b : Nat → Bool} : ∀ vs : List SV, okL p vs → allL b vs = true → okL (fun k => b k = true) vs
  | [], _, _ => trivial
  | v :: vs, h, h' => by
    have hv : v.all b = true ∧ allL b vs = true := by
      cases hb : v.all b <;> simp [allL, hb] at h' ⊢
      exact h'
    exact ⟨SV.ok_all v h.1 hv.1, okL_all vs h.2 hv.2⟩
end

mutual
theorem SV.cells_congr {p : Nat → Prop} {ρ ρ' : Nat → Nat} (hp : ∀ k, p k → ρ k = ρ' k) : ∀ v : SV, v.ok p → v.cells ρ = v.cells ρ'
  | .bool _, _ => rfl
  | .int _, _ => rfl
  | .u8 _, _ => rfl
  | .u16 _, _ => rfl
  | .u32 _, _ => rfl
  | .u64 _, _ => rfl
  | .str _, _ => rfl
  | .nilptr, _ => rfl
  | .nilsl, _ => rfl
  | .nilfn, _ => rfl
  | .nilif, _ => rfl
  | .xptr _, _ => rfl
  | .xsl .., _ => rfl
  | .ptr k _ _ _, h => by simp only [SV.cells, hp k h]
  | .sl k _ _ _ _ _, h => by simp only [SV.cells, hp k h]
  | .func _ caps, h => by simp only [SV.ok] at h; simp only [SV.cells, denL_congr hp caps h]
  | .iface _ v, h => by simp only [SV.ok] at h; simp only [SV.cells, SV.den_congr hp v h]
  | .arr8 _ _, _ => rfl
  | .arr32 _ _, _ => rfl
  | .arr64 _ _, _ => rfl
  | .arri _ _, _ => rfl
  | .arrs _ _, _ => rfl
  | .tab _ _ _, _ => rfl
  | .agg ps, h => by simp only [SV.ok] at h; simp only [SV.cells, cellsL_congr hp ps h]
  | .tup vs, h => by simp only [SV.ok] at h; simp only [SV.cells, denL_congr hp vs h]
theorem cellsL_congr {p : Nat → Prop} {ρ ρ' : Nat → Nat} (hp : ∀ k, p k → ρ k = ρ' k) : ∀ vs : List SV, okL p vs → cellsL ρ vs = cellsL ρ' vs
  | [], _ => rfl
  | v :: vs, h => by simp only [cellsL, SV.cells_congr hp v h.1, cellsL_congr hp vs h.2]
theorem SV.den_congr {p : Nat → Prop} {ρ ρ' : Nat → Nat} (hp : ∀ k, p k → ρ k = ρ' k) : ∀ v : SV, v.ok p → v.den ρ = v.den ρ'
  | .bool _, _ => rfl
  | .int _, _ => rfl
  | .u8 _, _ => rfl
  | .u16 _, _ => rfl
  | .u32 _, _ => rfl
  | .u64 _, _ => rfl
  | .str _, _ => rfl
  | .nilptr, _ => rfl
  | .nilsl, _ => rfl
  | .nilfn, _ => rfl
  | .nilif, _ => rfl
  | .xptr _, _ => rfl
  | .xsl .., _ => rfl
  | .ptr k _ _ _, h => by simp only [SV.den, hp k h]
  | .sl k _ _ _ _ _, h => by simp only [SV.den, hp k h]
  | .func _ caps, h => by simp only [SV.ok] at h; simp only [SV.den, denL_congr hp caps h]
  | .iface _ v, h => by simp only [SV.ok] at h; simp only [SV.den, SV.den_congr hp v h]
  | .arr8 _ _, _ => rfl
  | .arr32 _ _, _ => rfl
  | .arr64 _ _, _ => rfl
  | .arri _ _, _ => rfl
  | .arrs _ _, _ => rfl
  | .tab _ _ _, _ => rfl
  | .agg ps, h => by simp only [SV.ok] at h; simp only [SV.den, cellsL_congr hp ps h]
  | .tup vs, h => by simp only [SV.ok] at h; simp only [SV.den, denL_congr hp vs h]
theorem denL_congr {p : Nat → Prop} {ρ ρ' : Nat → Nat} (hp : ∀ k, p k → ρ k = ρ' k) : ∀ vs : List SV, okL p vs → denL ρ vs = denL ρ' vs
  | [], _ => rfl
  | v :: vs, h => by simp only [denL, SV.den_congr hp v h.1, denL_congr hp vs h.2]
end

theorem okL_append {p : Nat → Prop} {a b : List SV} : okL p (a ++ b) ↔ okL p a ∧ okL p b := by
  induction a with
  | nil => simp [okL]
  | cons x r ih => simp [okL, ih, and_assoc]
theorem cellsL_append (ρ : Nat → Nat) (a b : List SV) : cellsL ρ (a ++ b) = cellsL ρ a ++ cellsL ρ b := by
  induction a with
  | nil => simp [cellsL]
  | cons x r ih => simp [cellsL, ih]
theorem denL_length (ρ : Nat → Nat) (vs : List SV) : (denL ρ vs).length = vs.length := by
  induction vs with
  | nil => rfl
  | cons v vs ih => simp [denL, ih]

/-- is it one cell? (what a store may put there) -/
def SV.scalar : SV → Bool
  | .arr8 .. | .arr32 .. | .arr64 .. | .arri .. | .arrs .. | .tab .. | .agg _ | .tup _ => false
  | _ => true
/-- an array or a struct -/
def SV.many : SV → Bool
  | .arr8 .. | .arr32 .. | .arr64 .. | .arri .. | .arrs .. | .tab .. | .agg _ => true
  | _ => false

theorem den_scalar {ρ : Nat → Nat} {v : SV} (h : v.scalar = true) : v.cells ρ = [v.den ρ] := by
  cases v <;> first | rfl | (simp [SV.scalar] at h)
theorem den_many {ρ : Nat → Nat} {v : SV} (h : v.many = true) : v.den ρ = .agg (v.cells ρ).toArray := by
  cases v <;> first | rfl | (simp [SV.many] at h) | simp [SV.den, SV.cells]
theorem cells_den (ρ : Nat → Nat) (v : SV) : (v.den ρ).cells = (v.cells ρ).toArray := by
  cases v <;> simp [SV.den, SV.cells, Value.cells]
theorem At.val_eq (ρ : Nat → Nat) (a : At) : a.val = a.sv.den ρ := by cases a <;> rfl
theorem At.sv_ok {p : Nat → Prop} (a : At) : a.sv.ok p := by cases a <;> simp [At.sv, SV.ok]
theorem At.sv_scalar (a : At) : a.sv.scalar = true := by cases a <;> rfl

end Go.Sym
