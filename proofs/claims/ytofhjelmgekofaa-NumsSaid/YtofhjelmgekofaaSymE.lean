/-
  The symbolic engine, part 5: numbers: what the engine reckons is what the model reckons. No program in sight; no condition beyond each lemma's own. (Written by gen_SymE.py.)
-/
import Derived.Test.YtofhjelmgekofaaSymD
import Derived.Laws.Strings
set_option linter.unusedSimpArgs false
set_option linter.unusedVariables false
namespace Go.Sym

theorem wrap_i64 (n : Int) (h : fits n) : IntKind.i64.wrap n = n := by
  unfold fits at h
  simp [IntKind.wrap, IntKind.bits, IntKind.signed]
  split <;> omega
theorem wrap_u8 (n : Int) : IntKind.u8.wrap n = n % 256 := by simp [IntKind.wrap, IntKind.bits, IntKind.signed]
theorem lt_8 (a : UInt8) : a.toNat < 256 := a.toNat_lt
theorem ofInt_8 (n : Int) : ((UInt8.ofInt n).toNat : Int) = n % 256 := by
  have h : (UInt8.ofInt n).toNat = (n % 256).toNat % 256 := by show (UInt8.ofNat (n % 2 ^ 8).toNat).toNat = _; rw [UInt8.toNat_ofNat']; rfl
  omega
theorem bv8 (a : UInt8) : BitVec.ofInt 8 (a.toNat : Int) = a.toBitVec := by
  apply BitVec.eq_of_toNat_eq; simp
theorem wrapn8 (a : UInt8) : IntKind.u8.wrap (a.toNat : Int) = (a.toNat : Int) := by
  rw [wrap_u8]; have := lt_8 a; omega
theorem wrap_u16 (n : Int) : IntKind.u16.wrap n = n % 65536 := by simp [IntKind.wrap, IntKind.bits, IntKind.signed]
theorem lt_16 (a : UInt16) : a.toNat < 65536 := a.toNat_lt
theorem ofInt_16 (n : Int) : ((UInt16.ofInt n).toNat : Int) = n % 65536 := by
  have h : (UInt16.ofInt n).toNat = (n % 65536).toNat % 65536 := by show (UInt16.ofNat (n % 2 ^ 16).toNat).toNat = _; rw [UInt16.toNat_ofNat']; rfl
  omega
theorem bv16 (a : UInt16) : BitVec.ofInt 16 (a.toNat : Int) = a.toBitVec := by
  apply BitVec.eq_of_toNat_eq; simp
theorem wrapn16 (a : UInt16) : IntKind.u16.wrap (a.toNat : Int) = (a.toNat : Int) := by
  rw [wrap_u16]; have := lt_16 a; omega
theorem wrap_u32 (n : Int) : IntKind.u32.wrap n = n % 4294967296 := by simp [IntKind.wrap, IntKind.bits, IntKind.signed]
theorem lt_32 (a : UInt32) : a.toNat < 4294967296 := a.toNat_lt
theorem ofInt_32 (n : Int) : ((UInt32.ofInt n).toNat : Int) = n % 4294967296 := by
  have h : (UInt32.ofInt n).toNat = (n % 4294967296).toNat % 4294967296 := by show (UInt32.ofNat (n % 2 ^ 32).toNat).toNat = _; rw [UInt32.toNat_ofNat']; rfl
  omega
theorem bv32 (a : UInt32) : BitVec.ofInt 32 (a.toNat : Int) = a.toBitVec := by
  apply BitVec.eq_of_toNat_eq; simp
theorem wrapn32 (a : UInt32) : IntKind.u32.wrap (a.toNat : Int) = (a.toNat : Int) := by
  rw [wrap_u32]; have := lt_32 a; omega
theorem wrap_u64 (n : Int) : IntKind.u64.wrap n = n % 18446744073709551616 := by simp [IntKind.wrap, IntKind.bits, IntKind.signed]
theorem lt_64 (a : UInt64) : a.toNat < 18446744073709551616 := a.toNat_lt
theorem ofInt_64 (n : Int) : ((UInt64.ofInt n).toNat : Int) = n % 18446744073709551616 := by
  have h : (UInt64.ofInt n).toNat = (n % 18446744073709551616).toNat % 18446744073709551616 := by show (UInt64.ofNat (n % 2 ^ 64).toNat).toNat = _; rw [UInt64.toNat_ofNat']; rfl
  omega
theorem bv64 (a : UInt64) : BitVec.ofInt 64 (a.toNat : Int) = a.toBitVec := by
  apply BitVec.eq_of_toNat_eq; simp
theorem wrapn64 (a : UInt64) : IntKind.u64.wrap (a.toNat : Int) = (a.toNat : Int) := by
  rw [wrap_u64]; have := lt_64 a; omega

section
variable {P : Program} {ρ : Nat → Nat}

/-- a number's outcome: k holds of it, it names no block, and the model's reckoning comes to it -/
def Num (P : Program) (ρ : Nat → Nat) (k : SV → Prop) (s : Sem Value) : Prop :=
  ∃ v : SV, k v ∧ (∀ p, v.ok p) ∧ ∀ w, s.run P w = .ok (v.den ρ) w

theorem intK_e {op : BinOp} {a b : Int} {k : SV → Prop} (t : TypeId) (h : intK op a b k) : Num P ρ k (binOp op t (.int .i64 a) (.int .i64 b)) := by
  cases op <;> simp only [intK] at h
  case add => exact ⟨_, (pre_e h).2, fun _ => trivial, fun w => by simp [binOp, Op.intArith, SV.den, wrap_i64 _ (pre_e h).1]⟩
  case sub => exact ⟨_, (pre_e h).2, fun _ => trivial, fun w => by simp [binOp, Op.intArith, SV.den, wrap_i64 _ (pre_e h).1]⟩
  case mul => exact ⟨_, (pre_e h).2, fun _ => trivial, fun w => by simp [binOp, Op.intArith, SV.den, wrap_i64 _ (pre_e h).1]⟩
  case quo => exact ⟨_, (pre_e h).2, fun _ => trivial, fun w => by simp [binOp, Op.intDiv, SV.den, (pre_e h).1.1, wrap_i64 _ (pre_e h).1.2]⟩
  case rem => exact ⟨_, (pre_e h).2, fun _ => trivial, fun w => by simp [binOp, Op.intDiv, SV.den, (pre_e h).1]⟩
  case and => exact ⟨_, h, fun _ => trivial, fun w => rfl⟩
  case or => exact ⟨_, h, fun _ => trivial, fun w => rfl⟩
  case xor => exact ⟨_, h, fun _ => trivial, fun w => rfl⟩
  case andNot => exact ⟨_, h, fun _ => trivial, fun w => rfl⟩
  case eql => exact ⟨_, h, fun _ => trivial, fun w => by simp [binOp, Op.intCmp, SV.den]; rw [Bool.eq_iff_iff]; simp⟩
  case neq => exact ⟨_, h, fun _ => trivial, fun w => by simp [binOp, Op.intCmp, SV.den]; rw [Bool.eq_iff_iff]; simp⟩
  case lss => exact ⟨_, h, fun _ => trivial, fun w => by simp [binOp, Op.intCmp, SV.den]⟩
  case leq => exact ⟨_, h, fun _ => trivial, fun w => by simp [binOp, Op.intCmp, SV.den]⟩
  case gtr => exact ⟨_, h, fun _ => trivial, fun w => by simp [binOp, Op.intCmp, SV.den]⟩
  case geq => exact ⟨_, h, fun _ => trivial, fun w => by simp [binOp, Op.intCmp, SV.den]⟩

theorem u8K_e {op : BinOp} {a b : UInt8} {k : SV → Prop} (t : TypeId) (h : u8K op a b k) : Num P ρ k (binOp op t (.int .u8 a.toNat) (.int .u8 b.toNat)) := by
  have ha := lt_8 a
  have hb := lt_8 b
  cases op <;> simp only [u8K] at h
  case add => exact ⟨_, h, fun _ => trivial, fun w => by simp [binOp, Op.intArith, SV.den, wrap_u8]⟩
  case sub => exact ⟨_, h, fun _ => trivial, fun w => by simp [binOp, Op.intArith, SV.den, wrap_u8, UInt8.toNat_sub]; omega⟩
  case mul => exact ⟨_, h, fun _ => trivial, fun w => by simp [binOp, Op.intArith, SV.den, wrap_u8]⟩
  case quo =>
    have h0 := (pre_e h).1
    have e : ((a.toNat : Int).tdiv (b.toNat : Int)) = ((a / b).toNat : Int) := by rw [UInt8.toNat_div]; rfl
    have h1 : (b.toNat : Int) ≠ 0 := by omega
    exact ⟨_, (pre_e h).2, fun _ => trivial, fun w => by simp only [binOp, Op.intDiv, if_neg h1, e, wrapn8, SV.den]; rfl⟩
  case rem =>
    have h0 := (pre_e h).1
    have e : ((a.toNat : Int).tmod (b.toNat : Int)) = ((a % b).toNat : Int) := by rw [UInt8.toNat_mod]; rfl
    have h1 : (b.toNat : Int) ≠ 0 := by omega
    exact ⟨_, (pre_e h).2, fun _ => trivial, fun w => by simp only [binOp, Op.intDiv, if_neg h1, e, SV.den]; rfl⟩
  case and => exact ⟨_, h, fun _ => trivial, fun w => by
    show Result.ok (Value.int .u8 (IntKind.u8.wrap ((BitVec.ofInt 8 (a.toNat : Int) &&& BitVec.ofInt 8 (b.toNat : Int)).toNat : Int))) w = _
    rw [bv8, bv8]; exact congrArg (fun x => Result.ok (Value.int .u8 x) w) (wrapn8 (a &&& b))⟩
  case or => exact ⟨_, h, fun _ => trivial, fun w => by
    show Result.ok (Value.int .u8 (IntKind.u8.wrap ((BitVec.ofInt 8 (a.toNat : Int) ||| BitVec.ofInt 8 (b.toNat : Int)).toNat : Int))) w = _
    rw [bv8, bv8]; exact congrArg (fun x => Result.ok (Value.int .u8 x) w) (wrapn8 (a ||| b))⟩
  case xor => exact ⟨_, h, fun _ => trivial, fun w => by
    show Result.ok (Value.int .u8 (IntKind.u8.wrap ((BitVec.ofInt 8 (a.toNat : Int) ^^^ BitVec.ofInt 8 (b.toNat : Int)).toNat : Int))) w = _
    rw [bv8, bv8]; exact congrArg (fun x => Result.ok (Value.int .u8 x) w) (wrapn8 (a ^^^ b))⟩
  case andNot => exact ⟨_, h, fun _ => trivial, fun w => by
    show Result.ok (Value.int .u8 (IntKind.u8.wrap ((BitVec.ofInt 8 (a.toNat : Int) &&& ~~~(BitVec.ofInt 8 (b.toNat : Int))).toNat : Int))) w = _
    rw [bv8, bv8]; exact congrArg (fun x => Result.ok (Value.int .u8 x) w) (wrapn8 (a &&& ~~~b))⟩
  case eql => exact ⟨_, h, fun _ => trivial, fun w => by simp [binOp, Op.intCmp, SV.den]; rw [Bool.eq_iff_iff]; simp; exact ⟨fun e => UInt8.toNat_inj.1 (by omega), fun e => by rw [e]⟩⟩
  case neq => exact ⟨_, h, fun _ => trivial, fun w => by simp [binOp, Op.intCmp, SV.den]; rw [Bool.eq_iff_iff]; simp; exact not_congr ⟨fun e => UInt8.toNat_inj.1 (by omega), fun e => by rw [e]⟩⟩
  case lss => exact ⟨_, h, fun _ => trivial, fun w => by simp [binOp, Op.intCmp, SV.den, UInt8.lt_iff_toNat_lt]⟩
  case leq => exact ⟨_, h, fun _ => trivial, fun w => by simp [binOp, Op.intCmp, SV.den, UInt8.le_iff_toNat_le]⟩
  case gtr => exact ⟨_, h, fun _ => trivial, fun w => by simp [binOp, Op.intCmp, SV.den, UInt8.lt_iff_toNat_lt]⟩
  case geq => exact ⟨_, h, fun _ => trivial, fun w => by simp [binOp, Op.intCmp, SV.den, UInt8.le_iff_toNat_le]⟩

theorem u16K_e {op : BinOp} {a b : UInt16} {k : SV → Prop} (t : TypeId) (h : u16K op a b k) : Num P ρ k (binOp op t (.int .u16 a.toNat) (.int .u16 b.toNat)) := by
  have ha := lt_16 a
  have hb := lt_16 b
  cases op <;> simp only [u16K] at h
  case add => exact ⟨_, h, fun _ => trivial, fun w => by simp [binOp, Op.intArith, SV.den, wrap_u16]⟩
  case sub => exact ⟨_, h, fun _ => trivial, fun w => by simp [binOp, Op.intArith, SV.den, wrap_u16, UInt16.toNat_sub]; omega⟩
  case mul => exact ⟨_, h, fun _ => trivial, fun w => by simp [binOp, Op.intArith, SV.den, wrap_u16]⟩
  case quo =>
    have h0 := (pre_e h).1
    have e : ((a.toNat : Int).tdiv (b.toNat : Int)) = ((a / b).toNat : Int) := by rw [UInt16.toNat_div]; rfl
    have h1 : (b.toNat : Int) ≠ 0 := by omega
    exact ⟨_, (pre_e h).2, fun _ => trivial, fun w => by simp only [binOp, Op.intDiv, if_neg h1, e, wrapn16, SV.den]; rfl⟩
  case rem =>
    have h0 := (pre_e h).1
    have e : ((a.toNat : Int).tmod (b.toNat : Int)) = ((a % b).toNat : Int) := by rw [UInt16.toNat_mod]; rfl
    have h1 : (b.toNat : Int) ≠ 0 := by omega
    exact ⟨_, (pre_e h).2, fun _ => trivial, fun w => by simp only [binOp, Op.intDiv, if_neg h1, e, SV.den]; rfl⟩
  case and => exact ⟨_, h, fun _ => trivial, fun w => by
    show Result.ok (Value.int .u16 (IntKind.u16.wrap ((BitVec.ofInt 16 (a.toNat : Int) &&& BitVec.ofInt 16 (b.toNat : Int)).toNat : Int))) w = _
    rw [bv16, bv16]; exact congrArg (fun x => Result.ok (Value.int .u16 x) w) (wrapn16 (a &&& b))⟩
  case or => exact ⟨_, h, fun _ => trivial, fun w => by
    show Result.ok (Value.int .u16 (IntKind.u16.wrap ((BitVec.ofInt 16 (a.toNat : Int) ||| BitVec.ofInt 16 (b.toNat : Int)).toNat : Int))) w = _
    rw [bv16, bv16]; exact congrArg (fun x => Result.ok (Value.int .u16 x) w) (wrapn16 (a ||| b))⟩
  case xor => exact ⟨_, h, fun _ => trivial, fun w => by
    show Result.ok (Value.int .u16 (IntKind.u16.wrap ((BitVec.ofInt 16 (a.toNat : Int) ^^^ BitVec.ofInt 16 (b.toNat : Int)).toNat : Int))) w = _
    rw [bv16, bv16]; exact congrArg (fun x => Result.ok (Value.int .u16 x) w) (wrapn16 (a ^^^ b))⟩
  case andNot => exact ⟨_, h, fun _ => trivial, fun w => by
    show Result.ok (Value.int .u16 (IntKind.u16.wrap ((BitVec.ofInt 16 (a.toNat : Int) &&& ~~~(BitVec.ofInt 16 (b.toNat : Int))).toNat : Int))) w = _
    rw [bv16, bv16]; exact congrArg (fun x => Result.ok (Value.int .u16 x) w) (wrapn16 (a &&& ~~~b))⟩
  case eql => exact ⟨_, h, fun _ => trivial, fun w => by simp [binOp, Op.intCmp, SV.den]; rw [Bool.eq_iff_iff]; simp; exact ⟨fun e => UInt16.toNat_inj.1 (by omega), fun e => by rw [e]⟩⟩
  case neq => exact ⟨_, h, fun _ => trivial, fun w => by simp [binOp, Op.intCmp, SV.den]; rw [Bool.eq_iff_iff]; simp; exact not_congr ⟨fun e => UInt16.toNat_inj.1 (by omega), fun e => by rw [e]⟩⟩
  case lss => exact ⟨_, h, fun _ => trivial, fun w => by simp [binOp, Op.intCmp, SV.den, UInt16.lt_iff_toNat_lt]⟩
  case leq => exact ⟨_, h, fun _ => trivial, fun w => by simp [binOp, Op.intCmp, SV.den, UInt16.le_iff_toNat_le]⟩
  case gtr => exact ⟨_, h, fun _ => trivial, fun w => by simp [binOp, Op.intCmp, SV.den, UInt16.lt_iff_toNat_lt]⟩
  case geq => exact ⟨_, h, fun _ => trivial, fun w => by simp [binOp, Op.intCmp, SV.den, UInt16.le_iff_toNat_le]⟩

theorem u32K_e {op : BinOp} {a b : UInt32} {k : SV → Prop} (t : TypeId) (h : u32K op a b k) : Num P ρ k (binOp op t (.int .u32 a.toNat) (.int .u32 b.toNat)) := by
  have ha := lt_32 a
  have hb := lt_32 b
  cases op <;> simp only [u32K] at h
  case add => exact ⟨_, h, fun _ => trivial, fun w => by simp [binOp, Op.intArith, SV.den, wrap_u32]⟩
  case sub => exact ⟨_, h, fun _ => trivial, fun w => by simp [binOp, Op.intArith, SV.den, wrap_u32, UInt32.toNat_sub]; omega⟩
  case mul => exact ⟨_, h, fun _ => trivial, fun w => by simp [binOp, Op.intArith, SV.den, wrap_u32]⟩
  case quo =>
    have h0 := (pre_e h).1
    have e : ((a.toNat : Int).tdiv (b.toNat : Int)) = ((a / b).toNat : Int) := by rw [UInt32.toNat_div]; rfl
    have h1 : (b.toNat : Int) ≠ 0 := by omega
    exact ⟨_, (pre_e h).2, fun _ => trivial, fun w => by simp only [binOp, Op.intDiv, if_neg h1, e, wrapn32, SV.den]; rfl⟩
  case rem =>
    have h0 := (pre_e h).1
    have e : ((a.toNat : Int).tmod (b.toNat : Int)) = ((a % b).toNat : Int) := by rw [UInt32.toNat_mod]; rfl
    have h1 : (b.toNat : Int) ≠ 0 := by omega
    exact ⟨_, (pre_e h).2, fun _ => trivial, fun w => by simp only [binOp, Op.intDiv, if_neg h1, e, SV.den]; rfl⟩
  case and => exact ⟨_, h, fun _ => trivial, fun w => by
    show Result.ok (Value.int .u32 (IntKind.u32.wrap ((BitVec.ofInt 32 (a.toNat : Int) &&& BitVec.ofInt 32 (b.toNat : Int)).toNat : Int))) w = _
    rw [bv32, bv32]; exact congrArg (fun x => Result.ok (Value.int .u32 x) w) (wrapn32 (a &&& b))⟩
  case or => exact ⟨_, h, fun _ => trivial, fun w => by
    show Result.ok (Value.int .u32 (IntKind.u32.wrap ((BitVec.ofInt 32 (a.toNat : Int) ||| BitVec.ofInt 32 (b.toNat : Int)).toNat : Int))) w = _
    rw [bv32, bv32]; exact congrArg (fun x => Result.ok (Value.int .u32 x) w) (wrapn32 (a ||| b))⟩
  case xor => exact ⟨_, h, fun _ => trivial, fun w => by
    show Result.ok (Value.int .u32 (IntKind.u32.wrap ((BitVec.ofInt 32 (a.toNat : Int) ^^^ BitVec.ofInt 32 (b.toNat : Int)).toNat : Int))) w = _
    rw [bv32, bv32]; exact congrArg (fun x => Result.ok (Value.int .u32 x) w) (wrapn32 (a ^^^ b))⟩
  case andNot => exact ⟨_, h, fun _ => trivial, fun w => by
    show Result.ok (Value.int .u32 (IntKind.u32.wrap ((BitVec.ofInt 32 (a.toNat : Int) &&& ~~~(BitVec.ofInt 32 (b.toNat : Int))).toNat : Int))) w = _
    rw [bv32, bv32]; exact congrArg (fun x => Result.ok (Value.int .u32 x) w) (wrapn32 (a &&& ~~~b))⟩
  case eql => exact ⟨_, h, fun _ => trivial, fun w => by simp [binOp, Op.intCmp, SV.den]; rw [Bool.eq_iff_iff]; simp; exact ⟨fun e => UInt32.toNat_inj.1 (by omega), fun e => by rw [e]⟩⟩
  case neq => exact ⟨_, h, fun _ => trivial, fun w => by simp [binOp, Op.intCmp, SV.den]; rw [Bool.eq_iff_iff]; simp; exact not_congr ⟨fun e => UInt32.toNat_inj.1 (by omega), fun e => by rw [e]⟩⟩
  case lss => exact ⟨_, h, fun _ => trivial, fun w => by simp [binOp, Op.intCmp, SV.den, UInt32.lt_iff_toNat_lt]⟩
  case leq => exact ⟨_, h, fun _ => trivial, fun w => by simp [binOp, Op.intCmp, SV.den, UInt32.le_iff_toNat_le]⟩
  case gtr => exact ⟨_, h, fun _ => trivial, fun w => by simp [binOp, Op.intCmp, SV.den, UInt32.lt_iff_toNat_lt]⟩
  case geq => exact ⟨_, h, fun _ => trivial, fun w => by simp [binOp, Op.intCmp, SV.den, UInt32.le_iff_toNat_le]⟩

theorem u64K_e {op : BinOp} {a b : UInt64} {k : SV → Prop} (t : TypeId) (h : u64K op a b k) : Num P ρ k (binOp op t (.int .u64 a.toNat) (.int .u64 b.toNat)) := by
  have ha := lt_64 a
  have hb := lt_64 b
  cases op <;> simp only [u64K] at h
  case add => exact ⟨_, h, fun _ => trivial, fun w => by simp [binOp, Op.intArith, SV.den, wrap_u64]⟩
  case sub => exact ⟨_, h, fun _ => trivial, fun w => by simp [binOp, Op.intArith, SV.den, wrap_u64, UInt64.toNat_sub]; omega⟩
  case mul => exact ⟨_, h, fun _ => trivial, fun w => by simp [binOp, Op.intArith, SV.den, wrap_u64]⟩
  case quo =>
    have h0 := (pre_e h).1
    have e : ((a.toNat : Int).tdiv (b.toNat : Int)) = ((a / b).toNat : Int) := by rw [UInt64.toNat_div]; rfl
    have h1 : (b.toNat : Int) ≠ 0 := by omega
    exact ⟨_, (pre_e h).2, fun _ => trivial, fun w => by simp only [binOp, Op.intDiv, if_neg h1, e, wrapn64, SV.den]; rfl⟩
  case rem =>
    have h0 := (pre_e h).1
    have e : ((a.toNat : Int).tmod (b.toNat : Int)) = ((a % b).toNat : Int) := by rw [UInt64.toNat_mod]; rfl
    have h1 : (b.toNat : Int) ≠ 0 := by omega
    exact ⟨_, (pre_e h).2, fun _ => trivial, fun w => by simp only [binOp, Op.intDiv, if_neg h1, e, SV.den]; rfl⟩
  case and => exact ⟨_, h, fun _ => trivial, fun w => by
    show Result.ok (Value.int .u64 (IntKind.u64.wrap ((BitVec.ofInt 64 (a.toNat : Int) &&& BitVec.ofInt 64 (b.toNat : Int)).toNat : Int))) w = _
    rw [bv64, bv64]; exact congrArg (fun x => Result.ok (Value.int .u64 x) w) (wrapn64 (a &&& b))⟩
  case or => exact ⟨_, h, fun _ => trivial, fun w => by
    show Result.ok (Value.int .u64 (IntKind.u64.wrap ((BitVec.ofInt 64 (a.toNat : Int) ||| BitVec.ofInt 64 (b.toNat : Int)).toNat : Int))) w = _
    rw [bv64, bv64]; exact congrArg (fun x => Result.ok (Value.int .u64 x) w) (wrapn64 (a ||| b))⟩
  case xor => exact ⟨_, h, fun _ => trivial, fun w => by
    show Result.ok (Value.int .u64 (IntKind.u64.wrap ((BitVec.ofInt 64 (a.toNat : Int) ^^^ BitVec.ofInt 64 (b.toNat : Int)).toNat : Int))) w = _
    rw [bv64, bv64]; exact congrArg (fun x => Result.ok (Value.int .u64 x) w) (wrapn64 (a ^^^ b))⟩
  case andNot => exact ⟨_, h, fun _ => trivial, fun w => by
    show Result.ok (Value.int .u64 (IntKind.u64.wrap ((BitVec.ofInt 64 (a.toNat : Int) &&& ~~~(BitVec.ofInt 64 (b.toNat : Int))).toNat : Int))) w = _
    rw [bv64, bv64]; exact congrArg (fun x => Result.ok (Value.int .u64 x) w) (wrapn64 (a &&& ~~~b))⟩
  case eql => exact ⟨_, h, fun _ => trivial, fun w => by simp [binOp, Op.intCmp, SV.den]; rw [Bool.eq_iff_iff]; simp; exact ⟨fun e => UInt64.toNat_inj.1 (by omega), fun e => by rw [e]⟩⟩
  case neq => exact ⟨_, h, fun _ => trivial, fun w => by simp [binOp, Op.intCmp, SV.den]; rw [Bool.eq_iff_iff]; simp; exact not_congr ⟨fun e => UInt64.toNat_inj.1 (by omega), fun e => by rw [e]⟩⟩
  case lss => exact ⟨_, h, fun _ => trivial, fun w => by simp [binOp, Op.intCmp, SV.den, UInt64.lt_iff_toNat_lt]⟩
  case leq => exact ⟨_, h, fun _ => trivial, fun w => by simp [binOp, Op.intCmp, SV.den, UInt64.le_iff_toNat_le]⟩
  case gtr => exact ⟨_, h, fun _ => trivial, fun w => by simp [binOp, Op.intCmp, SV.den, UInt64.lt_iff_toNat_lt]⟩
  case geq => exact ⟨_, h, fun _ => trivial, fun w => by simp [binOp, Op.intCmp, SV.den, UInt64.le_iff_toNat_le]⟩

theorem cntK_e {y : SV} {k : Nat → Prop} (h : cntK y k) : ∃ (yk : IntKind) (n : Int), 0 ≤ n ∧ y.den ρ = .int yk n ∧ k n.toNat := by
  unfold cntK at h
  split at h
  · exact ⟨.i64, _, (pre_e h).1, rfl, (pre_e h).2⟩
  · exact ⟨.u8, _, by omega, rfl, h⟩
  · exact ⟨.u16, _, by omega, rfl, h⟩
  · exact ⟨.u32, _, by omega, rfl, h⟩
  · exact ⟨.u64, _, by omega, rfl, h⟩
  · exact h.elim
theorem run_shl (t : TypeId) (k yk : IntKind) (x n : Int) (h : 0 ≤ n) (hb : n.toNat < k.bits) (w : World) : (binOp .shl t (.int k x) (.int yk n)).run P w = .ok (.int k (k.wrap (x * 2 ^ n.toNat))) w := by
  have h0 : ¬ n < 0 := by omega
  simp only [binOp, Op.shift, if_neg h0, Nat.min_eq_left (Nat.le_of_lt hb)]; rfl
theorem run_shr (t : TypeId) (k yk : IntKind) (x n : Int) (h : 0 ≤ n) (hb : n.toNat < k.bits) (w : World) : (binOp .shr t (.int k x) (.int yk n)).run P w = .ok (.int k (x.fdiv (2 ^ n.toNat))) w := by
  have h0 : ¬ n < 0 := by omega
  simp only [binOp, Op.shift, if_neg h0, Nat.min_eq_left (Nat.le_of_lt hb)]; rfl
theorem shl_8 (a : UInt8) (n : Nat) (h : n < 8) : ((a.toNat : Int) * 2 ^ n) % 256 = ((a <<< UInt8.ofNat n).toNat : Int) := by
  have e : (UInt8.ofNat n).toNat % 8 = n := by rw [UInt8.toNat_ofNat']; omega
  rw [UInt8.toNat_shiftLeft, e, Nat.shiftLeft_eq, Int.natCast_emod, Int.natCast_mul, Int.natCast_pow]
  rfl
theorem shr_8 (a : UInt8) (n : Nat) (h : n < 8) : (a.toNat : Int).fdiv (2 ^ n) = ((a >>> UInt8.ofNat n).toNat : Int) := by
  have e : (UInt8.ofNat n).toNat % 8 = n := by rw [UInt8.toNat_ofNat']; omega
  rw [UInt8.toNat_shiftRight, e, Nat.shiftRight_eq_div_pow, Int.fdiv_eq_ediv_of_nonneg _ (Int.pow_nonneg (by omega)), Int.natCast_ediv, Int.natCast_pow]
  rfl
theorem shl_16 (a : UInt16) (n : Nat) (h : n < 16) : ((a.toNat : Int) * 2 ^ n) % 65536 = ((a <<< UInt16.ofNat n).toNat : Int) := by
  have e : (UInt16.ofNat n).toNat % 16 = n := by rw [UInt16.toNat_ofNat']; omega
  rw [UInt16.toNat_shiftLeft, e, Nat.shiftLeft_eq, Int.natCast_emod, Int.natCast_mul, Int.natCast_pow]
  rfl
theorem shr_16 (a : UInt16) (n : Nat) (h : n < 16) : (a.toNat : Int).fdiv (2 ^ n) = ((a >>> UInt16.ofNat n).toNat : Int) := by
  have e : (UInt16.ofNat n).toNat % 16 = n := by rw [UInt16.toNat_ofNat']; omega
  rw [UInt16.toNat_shiftRight, e, Nat.shiftRight_eq_div_pow, Int.fdiv_eq_ediv_of_nonneg _ (Int.pow_nonneg (by omega)), Int.natCast_ediv, Int.natCast_pow]
  rfl
theorem shl_32 (a : UInt32) (n : Nat) (h : n < 32) : ((a.toNat : Int) * 2 ^ n) % 4294967296 = ((a <<< UInt32.ofNat n).toNat : Int) := by
  have e : (UInt32.ofNat n).toNat % 32 = n := by rw [UInt32.toNat_ofNat']; omega
  rw [UInt32.toNat_shiftLeft, e, Nat.shiftLeft_eq, Int.natCast_emod, Int.natCast_mul, Int.natCast_pow]
  rfl
theorem shr_32 (a : UInt32) (n : Nat) (h : n < 32) : (a.toNat : Int).fdiv (2 ^ n) = ((a >>> UInt32.ofNat n).toNat : Int) := by
  have e : (UInt32.ofNat n).toNat % 32 = n := by rw [UInt32.toNat_ofNat']; omega
  rw [UInt32.toNat_shiftRight, e, Nat.shiftRight_eq_div_pow, Int.fdiv_eq_ediv_of_nonneg _ (Int.pow_nonneg (by omega)), Int.natCast_ediv, Int.natCast_pow]
  rfl
theorem shl_64 (a : UInt64) (n : Nat) (h : n < 64) : ((a.toNat : Int) * 2 ^ n) % 18446744073709551616 = ((a <<< UInt64.ofNat n).toNat : Int) := by
  have e : (UInt64.ofNat n).toNat % 64 = n := by rw [UInt64.toNat_ofNat']; omega
  rw [UInt64.toNat_shiftLeft, e, Nat.shiftLeft_eq, Int.natCast_emod, Int.natCast_mul, Int.natCast_pow]
  rfl
theorem shr_64 (a : UInt64) (n : Nat) (h : n < 64) : (a.toNat : Int).fdiv (2 ^ n) = ((a >>> UInt64.ofNat n).toNat : Int) := by
  have e : (UInt64.ofNat n).toNat % 64 = n := by rw [UInt64.toNat_ofNat']; omega
  rw [UInt64.toNat_shiftRight, e, Nat.shiftRight_eq_div_pow, Int.fdiv_eq_ediv_of_nonneg _ (Int.pow_nonneg (by omega)), Int.natCast_ediv, Int.natCast_pow]
  rfl
theorem shlK_e {x y : SV} {k : SV → Prop} (t : TypeId) (h : shlK x y k) : Num P ρ k (binOp .shl t (x.den ρ) (y.den ρ)) := by
  unfold shlK at h
  obtain ⟨yk, n, h0, hy, hk⟩ := cntK_e (ρ := ρ) h
  rw [hy]
  split at hk
  · obtain ⟨h1, h2⟩ := pre_e hk
    exact ⟨_, h2, fun _ => trivial, fun w => by simp only [SV.den]; rw [run_shl t _ _ _ _ h0 (by simpa [IntKind.bits] using h1.1), wrap_i64 _ h1.2]⟩
  · obtain ⟨h1, h2⟩ := pre_e hk
    exact ⟨_, h2, fun _ => trivial, fun w => by simp only [SV.den]; rw [run_shl t _ _ _ _ h0 (by simpa [IntKind.bits] using h1), wrap_u8, shl_8 _ _ h1]⟩
  · obtain ⟨h1, h2⟩ := pre_e hk
    exact ⟨_, h2, fun _ => trivial, fun w => by simp only [SV.den]; rw [run_shl t _ _ _ _ h0 (by simpa [IntKind.bits] using h1), wrap_u16, shl_16 _ _ h1]⟩
  · obtain ⟨h1, h2⟩ := pre_e hk
    exact ⟨_, h2, fun _ => trivial, fun w => by simp only [SV.den]; rw [run_shl t _ _ _ _ h0 (by simpa [IntKind.bits] using h1), wrap_u32, shl_32 _ _ h1]⟩
  · obtain ⟨h1, h2⟩ := pre_e hk
    exact ⟨_, h2, fun _ => trivial, fun w => by simp only [SV.den]; rw [run_shl t _ _ _ _ h0 (by simpa [IntKind.bits] using h1), wrap_u64, shl_64 _ _ h1]⟩
  · exact hk.elim
theorem shrK_e {x y : SV} {k : SV → Prop} (t : TypeId) (h : shrK x y k) : Num P ρ k (binOp .shr t (x.den ρ) (y.den ρ)) := by
  unfold shrK at h
  obtain ⟨yk, n, h0, hy, hk⟩ := cntK_e (ρ := ρ) h
  rw [hy]
  split at hk
  · obtain ⟨h1, h2⟩ := pre_e hk
    exact ⟨_, h2, fun _ => trivial, fun w => by
      simp only [SV.den]; rw [run_shr t _ _ _ _ h0 (by simpa [IntKind.bits] using h1), Int.fdiv_eq_ediv_of_nonneg _ (Int.pow_nonneg (by omega))]⟩
  · obtain ⟨h1, h2⟩ := pre_e hk
    exact ⟨_, h2, fun _ => trivial, fun w => by simp only [SV.den]; rw [run_shr t _ _ _ _ h0 (by simpa [IntKind.bits] using h1), shr_8 _ _ h1]⟩
  · obtain ⟨h1, h2⟩ := pre_e hk
    exact ⟨_, h2, fun _ => trivial, fun w => by simp only [SV.den]; rw [run_shr t _ _ _ _ h0 (by simpa [IntKind.bits] using h1), shr_16 _ _ h1]⟩
  · obtain ⟨h1, h2⟩ := pre_e hk
    exact ⟨_, h2, fun _ => trivial, fun w => by simp only [SV.den]; rw [run_shr t _ _ _ _ h0 (by simpa [IntKind.bits] using h1), shr_32 _ _ h1]⟩
  · obtain ⟨h1, h2⟩ := pre_e hk
    exact ⟨_, h2, fun _ => trivial, fun w => by simp only [SV.den]; rw [run_shr t _ _ _ _ h0 (by simpa [IntKind.bits] using h1), shr_64 _ _ h1]⟩
  · exact hk.elim

theorem toList_mk (l : List UInt8) : (⟨l.toArray⟩ : ByteArray).toList = l := by rw [ByteArray.toList_eq]
theorem strK_e {op : BinOp} {a b : List UInt8} {k : SV → Prop} (t : TypeId) (h : strK op a b k) : Num P ρ k (binOp op t (.string ⟨a.toArray⟩) (.string ⟨b.toArray⟩)) := by
  cases op <;> simp only [strK] at h
  case add =>
    obtain ⟨h1, h2⟩ := pre_e h
    refine ⟨_, h2, fun _ => trivial, fun w => ?_⟩
    have hs : ¬ (((⟨a.toArray⟩ : ByteArray).size + (⟨b.toArray⟩ : ByteArray).size : Nat) : Int) > IntKind.i64.max := by
      have e1 : (⟨a.toArray⟩ : ByteArray).size = a.length := by simp [ByteArray.size]
      have e2 : (⟨b.toArray⟩ : ByteArray).size = b.length := by simp [ByteArray.size]
      have e3 : IntKind.i64.max = 9223372036854775807 := rfl
      rw [e1, e2, e3]; omega
    simp only [binOp, Op.stringOp]
    rw [if_neg hs]
    show Result.ok (Value.string _) w = _
    congr 2
  case eql => exact ⟨_, h, fun _ => trivial, fun w => by simp [binOp, Op.stringOp, SV.den]; rw [Bool.eq_iff_iff]; simp⟩
  case neq => exact ⟨_, h, fun _ => trivial, fun w => by simp [binOp, Op.stringOp, SV.den]; rw [Bool.eq_iff_iff]; simp⟩

theorem binK_e {op : BinOp} {x y : SV} {k : SV → Prop} (t : TypeId) (h : binK op x y k) : Num P ρ k (binOp op t (x.den ρ) (y.den ρ)) := by
  unfold binK at h
  split at h
  · exact shlK_e t h
  · exact shrK_e t h
  · split at h
    · exact intK_e t h
    · exact u8K_e t h
    · exact u16K_e t h
    · exact u32K_e t h
    · exact u64K_e t h
    · exact strK_e t h
    · exact h.elim

theorem unK_e {op : UnOp} {x : SV} {k : SV → Prop} (h : unK op x k) : Num P ρ k (Op.unary op (x.den ρ)) := by
  unfold unK at h
  split at h
  · exact ⟨_, h, fun _ => trivial, fun w => rfl⟩
  · exact ⟨_, (pre_e h).2, fun _ => trivial, fun w => by
      show Result.ok (Value.int .i64 (IntKind.i64.wrap (0 - _))) w = _
      rw [wrap_i64 _ (pre_e h).1]; rfl⟩
  · rename_i a; exact ⟨_, h, fun _ => trivial, fun w => by
      show Result.ok (Value.int .u8 (IntKind.u8.wrap (0 - (a.toNat : Int)))) w = _
      have ha := lt_8 a
      rw [wrap_u8]; simp [SV.den, UInt8.toNat_neg, UInt8.size]; omega⟩
  · rename_i a; exact ⟨_, h, fun _ => trivial, fun w => by
      show Result.ok (Value.int .u16 (IntKind.u16.wrap (0 - (a.toNat : Int)))) w = _
      have ha := lt_16 a
      rw [wrap_u16]; simp [SV.den, UInt16.toNat_neg, UInt16.size]; omega⟩
  · rename_i a; exact ⟨_, h, fun _ => trivial, fun w => by
      show Result.ok (Value.int .u32 (IntKind.u32.wrap (0 - (a.toNat : Int)))) w = _
      have ha := lt_32 a
      rw [wrap_u32]; simp [SV.den, UInt32.toNat_neg, UInt32.size]; omega⟩
  · rename_i a; exact ⟨_, h, fun _ => trivial, fun w => by
      show Result.ok (Value.int .u64 (IntKind.u64.wrap (0 - (a.toNat : Int)))) w = _
      have ha := lt_64 a
      rw [wrap_u64]; simp [SV.den, UInt64.toNat_neg, UInt64.size]; omega⟩
  · rename_i a; exact ⟨_, h, fun _ => trivial, fun w => by
      show Result.ok (Value.int .u8 (IntKind.u8.wrap ((BitVec.ofInt 8 (IntKind.u8.max) ^^^ BitVec.ofInt 8 (a.toNat : Int)).toNat : Int))) w = _
      have e : BitVec.ofInt 8 (IntKind.u8.max) ^^^ a.toBitVec = (~~~a).toBitVec := by
        have : BitVec.ofInt 8 (IntKind.u8.max) = BitVec.allOnes 8 := rfl
        rw [this, BitVec.allOnes_xor]; rfl
      rw [bv8, e]; exact congrArg (fun x => Result.ok (Value.int .u8 x) w) (wrapn8 (~~~a))⟩
  · rename_i a; exact ⟨_, h, fun _ => trivial, fun w => by
      show Result.ok (Value.int .u16 (IntKind.u16.wrap ((BitVec.ofInt 16 (IntKind.u16.max) ^^^ BitVec.ofInt 16 (a.toNat : Int)).toNat : Int))) w = _
      have e : BitVec.ofInt 16 (IntKind.u16.max) ^^^ a.toBitVec = (~~~a).toBitVec := by
        have : BitVec.ofInt 16 (IntKind.u16.max) = BitVec.allOnes 16 := rfl
        rw [this, BitVec.allOnes_xor]; rfl
      rw [bv16, e]; exact congrArg (fun x => Result.ok (Value.int .u16 x) w) (wrapn16 (~~~a))⟩
  · rename_i a; exact ⟨_, h, fun _ => trivial, fun w => by
      show Result.ok (Value.int .u32 (IntKind.u32.wrap ((BitVec.ofInt 32 (IntKind.u32.max) ^^^ BitVec.ofInt 32 (a.toNat : Int)).toNat : Int))) w = _
      have e : BitVec.ofInt 32 (IntKind.u32.max) ^^^ a.toBitVec = (~~~a).toBitVec := by
        have : BitVec.ofInt 32 (IntKind.u32.max) = BitVec.allOnes 32 := rfl
        rw [this, BitVec.allOnes_xor]; rfl
      rw [bv32, e]; exact congrArg (fun x => Result.ok (Value.int .u32 x) w) (wrapn32 (~~~a))⟩
  · rename_i a; exact ⟨_, h, fun _ => trivial, fun w => by
      show Result.ok (Value.int .u64 (IntKind.u64.wrap ((BitVec.ofInt 64 (IntKind.u64.max) ^^^ BitVec.ofInt 64 (a.toNat : Int)).toNat : Int))) w = _
      have e : BitVec.ofInt 64 (IntKind.u64.max) ^^^ a.toBitVec = (~~~a).toBitVec := by
        have : BitVec.ofInt 64 (IntKind.u64.max) = BitVec.allOnes 64 := rfl
        rw [this, BitVec.allOnes_xor]; rfl
      rw [bv64, e]; exact congrArg (fun x => Result.ok (Value.int .u64 x) w) (wrapn64 (~~~a))⟩
  · exact h.elim

theorem convIntK_e {d : IntKind} {x : SV} {k : SV → Prop} (h : convIntK d x k) : ∃ (sk : IntKind) (n : Int), x.den ρ = .int sk n ∧ Num P ρ k (Conv.intToInt d n) := by
  unfold convIntK at h
  split at h
  · exact ⟨_, _, rfl, _, (pre_e h).2, fun _ => trivial, fun w => by simp [Conv.intToInt, SV.den, wrap_i64 _ (pre_e h).1]⟩
  · rename_i a; exact ⟨_, _, rfl, _, h, fun _ => trivial, fun w => by have := lt_8 a; simp [Conv.intToInt, SV.den]; exact wrap_i64 _ (by unfold fits; omega)⟩
  · rename_i a; exact ⟨_, _, rfl, _, h, fun _ => trivial, fun w => by have := lt_16 a; simp [Conv.intToInt, SV.den]; exact wrap_i64 _ (by unfold fits; omega)⟩
  · rename_i a; exact ⟨_, _, rfl, _, h, fun _ => trivial, fun w => by have := lt_32 a; simp [Conv.intToInt, SV.den]; exact wrap_i64 _ (by unfold fits; omega)⟩
  · exact ⟨_, _, rfl, _, (pre_e h).2, fun _ => trivial, fun w => by have := (pre_e h).1; simp [Conv.intToInt, SV.den]; exact wrap_i64 _ (by unfold fits; omega)⟩
  · exact ⟨_, _, rfl, _, h, fun _ => trivial, fun w => by
      simp only [Conv.intToInt, SV.den, wrap_u8, ofInt_8]; rfl⟩
  · exact ⟨_, _, rfl, _, h, fun _ => trivial, fun w => by simp [Conv.intToInt, SV.den, wrapn8]⟩
  · exact ⟨_, _, rfl, _, h, fun _ => trivial, fun w => by simp [Conv.intToInt, SV.den, wrap_u8]⟩
  · exact ⟨_, _, rfl, _, h, fun _ => trivial, fun w => by simp [Conv.intToInt, SV.den, wrap_u8]⟩
  · exact ⟨_, _, rfl, _, h, fun _ => trivial, fun w => by simp [Conv.intToInt, SV.den, wrap_u8]⟩
  · exact ⟨_, _, rfl, _, h, fun _ => trivial, fun w => by
      simp only [Conv.intToInt, SV.den, wrap_u16, ofInt_16]; rfl⟩
  · rename_i a; exact ⟨_, _, rfl, _, h, fun _ => trivial, fun w => by have := lt_8 a; simp [Conv.intToInt, SV.den, wrap_u16]; omega⟩
  · exact ⟨_, _, rfl, _, h, fun _ => trivial, fun w => by simp [Conv.intToInt, SV.den, wrapn16]⟩
  · exact ⟨_, _, rfl, _, h, fun _ => trivial, fun w => by simp [Conv.intToInt, SV.den, wrap_u16]⟩
  · exact ⟨_, _, rfl, _, h, fun _ => trivial, fun w => by simp [Conv.intToInt, SV.den, wrap_u16]⟩
  · exact ⟨_, _, rfl, _, h, fun _ => trivial, fun w => by
      simp only [Conv.intToInt, SV.den, wrap_u32, ofInt_32]; rfl⟩
  · rename_i a; exact ⟨_, _, rfl, _, h, fun _ => trivial, fun w => by have := lt_8 a; simp [Conv.intToInt, SV.den, wrap_u32]; omega⟩
  · rename_i a; exact ⟨_, _, rfl, _, h, fun _ => trivial, fun w => by have := lt_16 a; simp [Conv.intToInt, SV.den, wrap_u32]; omega⟩
  · exact ⟨_, _, rfl, _, h, fun _ => trivial, fun w => by simp [Conv.intToInt, SV.den, wrapn32]⟩
  · exact ⟨_, _, rfl, _, h, fun _ => trivial, fun w => by simp [Conv.intToInt, SV.den, wrap_u32]⟩
  · exact ⟨_, _, rfl, _, h, fun _ => trivial, fun w => by
      simp only [Conv.intToInt, SV.den, wrap_u64, ofInt_64]; rfl⟩
  · rename_i a; exact ⟨_, _, rfl, _, h, fun _ => trivial, fun w => by have := lt_8 a; simp [Conv.intToInt, SV.den, wrap_u64]; omega⟩
  · rename_i a; exact ⟨_, _, rfl, _, h, fun _ => trivial, fun w => by have := lt_16 a; simp [Conv.intToInt, SV.den, wrap_u64]; omega⟩
  · rename_i a; exact ⟨_, _, rfl, _, h, fun _ => trivial, fun w => by have := lt_32 a; simp [Conv.intToInt, SV.den, wrap_u64]; omega⟩
  · exact ⟨_, _, rfl, _, h, fun _ => trivial, fun w => by simp [Conv.intToInt, SV.den, wrapn64]⟩
  · exact h.elim
end
end Go.Sym
