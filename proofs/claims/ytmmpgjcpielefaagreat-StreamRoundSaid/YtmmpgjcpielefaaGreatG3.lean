/-
  Contracts of functions of the program, each said of symbolic values, and plain laws; no condition beyond each statement's own.
-/
import Derived.Test.YtmmpgjcpielefaaGreatG2
import Derived.Laws.Strings
set_option linter.unusedSimpArgs false
set_option linter.unusedVariables false
namespace Go.Sym
theorem zac (n:Int) (h:yo n):IntKind.i64.wrap n=n:=by
  unfold yo at h
  simp [IntKind.wrap,IntKind.bits,IntKind.signed]
  split<;>omega
theorem zb5 (n:Int):IntKind.u8.wrap n=n%256:=by simp [IntKind.wrap,IntKind.bits,IntKind.signed]
theorem zrz (a:UInt8):a.toNat<256:=a.toNat_lt
theorem zkp (n:Int):((UInt8.ofInt n).toNat:Int)=n%256:=by
  have h:(UInt8.ofInt n).toNat=(n%256).toNat%256:=by show (UInt8.ofNat (n%2^8).toNat).toNat=_;rw [UInt8.toNat_ofNat'];rfl
  omega
theorem bv8 (a:UInt8):BitVec.ofInt 8 (a.toNat:Int)=a.toBitVec:=by
  apply BitVec.eq_of_toNat_eq;simp
theorem zg5 (a:UInt8):IntKind.u8.wrap (a.toNat:Int)=(a.toNat:Int):=by
  rw [zb5];have:=zrz a;omega
theorem zbb (n:Int):IntKind.u16.wrap n=n%65536:=by simp [IntKind.wrap,IntKind.bits,IntKind.signed]
theorem zmw (a:UInt16):a.toNat<65536:=a.toNat_lt
theorem zzt (n:Int):((UInt16.ofInt n).toNat:Int)=n%65536:=by
  have h:(UInt16.ofInt n).toNat=(n%65536).toNat%65536:=by show (UInt16.ofNat (n%2^16).toNat).toNat=_;rw [UInt16.toNat_ofNat'];rfl
  omega
theorem zp9 (a:UInt16):BitVec.ofInt 16 (a.toNat:Int)=a.toBitVec:=by
  apply BitVec.eq_of_toNat_eq;simp
theorem zej (a:UInt16):IntKind.u16.wrap (a.toNat:Int)=(a.toNat:Int):=by
  rw [zbb];have:=zmw a;omega
theorem za8 (n:Int):IntKind.u32.wrap n=n%4294967296:=by simp [IntKind.wrap,IntKind.bits,IntKind.signed]
theorem zog (a:UInt32):a.toNat<4294967296:=a.toNat_lt
theorem zze (n:Int):((UInt32.ofInt n).toNat:Int)=n%4294967296:=by
  have h:(UInt32.ofInt n).toNat=(n%4294967296).toNat%4294967296:=by show (UInt32.ofNat (n%2^32).toNat).toNat=_;rw [UInt32.toNat_ofNat'];rfl
  omega
theorem zpy (a:UInt32):BitVec.ofInt 32 (a.toNat:Int)=a.toBitVec:=by
  apply BitVec.eq_of_toNat_eq;simp
theorem zeb (a:UInt32):IntKind.u32.wrap (a.toNat:Int)=(a.toNat:Int):=by
  rw [za8];have:=zog a;omega
theorem za9 (n:Int):IntKind.u64.wrap n=n%18446744073709551616:=by simp [IntKind.wrap,IntKind.bits,IntKind.signed]
theorem zvt (a:UInt64):a.toNat<18446744073709551616:=a.toNat_lt
theorem zrw (n:Int):((UInt64.ofInt n).toNat:Int)=n%18446744073709551616:=by
  have h:(UInt64.ofInt n).toNat=(n%18446744073709551616).toNat%18446744073709551616:=by show (UInt64.ofNat (n%2^64).toNat).toNat=_;rw [UInt64.toNat_ofNat'];rfl
  omega
theorem zqo (a:UInt64):BitVec.ofInt 64 (a.toNat:Int)=a.toBitVec:=by
  apply BitVec.eq_of_toNat_eq;simp
theorem zek (a:UInt64):IntKind.u64.wrap (a.toNat:Int)=(a.toNat:Int):=by
  rw [za9];have:=zvt a;omega
section
variable {P:Program} {ρ:Nat→Nat}
def Num (P:Program) (ρ:Nat→Nat) (k:SV→Prop) (s:Sem Value):Prop:=
  ∃v:SV,k v∧(∀p,v.ok p)∧ ∀w,s.run P w= .ok (v.den ρ) w
theorem z6x {op:BinOp} {a b:Int} {k:SV→Prop} (t:TypeId) (h:z24 op a b k):Num P ρ k (binOp op t (.int .i64 a) (.int .i64 b)):=by
  cases op<;>simp only [z24] at h
  case add=>exact ⟨_,(zi h).2,fun _=>trivial,fun w=>by simp [binOp,Op.intArith,SV.den,zac _ (zi h).1]⟩
  case sub=>exact ⟨_,(zi h).2,fun _=>trivial,fun w=>by simp [binOp,Op.intArith,SV.den,zac _ (zi h).1]⟩
  case mul=>exact ⟨_,(zi h).2,fun _=>trivial,fun w=>by simp [binOp,Op.intArith,SV.den,zac _ (zi h).1]⟩
  case quo=>exact ⟨_,(zi h).2,fun _=>trivial,fun w=>by simp [binOp,Op.intDiv,SV.den,(zi h).1.1,zac _ (zi h).1.2]⟩
  case rem=>exact ⟨_,(zi h).2,fun _=>trivial,fun w=>by simp [binOp,Op.intDiv,SV.den,(zi h).1]⟩
  case and=>exact ⟨_,h,fun _=>trivial,fun w=>rfl⟩
  case or=>exact ⟨_,h,fun _=>trivial,fun w=>rfl⟩
  case xor=>exact ⟨_,h,fun _=>trivial,fun w=>rfl⟩
  case andNot=>exact ⟨_,h,fun _=>trivial,fun w=>rfl⟩
  case eql=>exact ⟨_,h,fun _=>trivial,fun w=>by simp [binOp,Op.intCmp,SV.den];rw [Bool.eq_iff_iff];simp⟩
  case neq=>exact ⟨_,h,fun _=>trivial,fun w=>by simp [binOp,Op.intCmp,SV.den];rw [Bool.eq_iff_iff];simp⟩
  case lss=>exact ⟨_,h,fun _=>trivial,fun w=>by simp [binOp,Op.intCmp,SV.den]⟩
  case leq=>exact ⟨_,h,fun _=>trivial,fun w=>by simp [binOp,Op.intCmp,SV.den]⟩
  case gtr=>exact ⟨_,h,fun _=>trivial,fun w=>by simp [binOp,Op.intCmp,SV.den]⟩
  case geq=>exact ⟨_,h,fun _=>trivial,fun w=>by simp [binOp,Op.intCmp,SV.den]⟩
theorem z97 {op:BinOp} {a b:UInt8} {k:SV→Prop} (t:TypeId) (h:u8K op a b k):Num P ρ k (binOp op t (.int .u8 a.toNat) (.int .u8 b.toNat)):=by
  have ha:=zrz a
  have hb:=zrz b
  cases op<;>simp only [u8K] at h
  case add=>exact ⟨_,h,fun _=>trivial,fun w=>by simp [binOp,Op.intArith,SV.den,zb5]⟩
  case sub=>exact ⟨_,h,fun _=>trivial,fun w=>by simp [binOp,Op.intArith,SV.den,zb5,UInt8.toNat_sub];omega⟩
  case mul=>exact ⟨_,h,fun _=>trivial,fun w=>by simp [binOp,Op.intArith,SV.den,zb5]⟩
  case quo=>
    have h0:=(zi h).1
    have e:((a.toNat:Int).tdiv (b.toNat:Int))=((a/ b).toNat:Int):=by rw [UInt8.toNat_div];rfl
    have h1:(b.toNat:Int)≠0:=by omega
    exact ⟨_,(zi h).2,fun _=>trivial,fun w=>by simp only [binOp,Op.intDiv,if_neg h1,e,zg5,SV.den];rfl⟩
  case rem=>
    have h0:=(zi h).1
    have e:((a.toNat:Int).tmod (b.toNat:Int))=((a%b).toNat:Int):=by rw [UInt8.toNat_mod];rfl
    have h1:(b.toNat:Int)≠0:=by omega
    exact ⟨_,(zi h).2,fun _=>trivial,fun w=>by simp only [binOp,Op.intDiv,if_neg h1,e,SV.den];rfl⟩
  case and=>exact ⟨_,h,fun _=>trivial,fun w=>by
    show Result.ok (Value.int .u8 (IntKind.u8.wrap ((BitVec.ofInt 8 (a.toNat:Int)&&&BitVec.ofInt 8 (b.toNat:Int)).toNat:Int))) w=_
    rw [bv8,bv8];exact congrArg (fun x=>Result.ok (Value.int .u8 x) w) (zg5 (a&&&b))⟩
  case or=>exact ⟨_,h,fun _=>trivial,fun w=>by
    show Result.ok (Value.int .u8 (IntKind.u8.wrap ((BitVec.ofInt 8 (a.toNat:Int)|||BitVec.ofInt 8 (b.toNat:Int)).toNat:Int))) w=_
    rw [bv8,bv8];exact congrArg (fun x=>Result.ok (Value.int .u8 x) w) (zg5 (a|||b))⟩
  case xor=>exact ⟨_,h,fun _=>trivial,fun w=>by
    show Result.ok (Value.int .u8 (IntKind.u8.wrap ((BitVec.ofInt 8 (a.toNat:Int)^^^BitVec.ofInt 8 (b.toNat:Int)).toNat:Int))) w=_
    rw [bv8,bv8];exact congrArg (fun x=>Result.ok (Value.int .u8 x) w) (zg5 (a^^^b))⟩
  case andNot=>exact ⟨_,h,fun _=>trivial,fun w=>by
    show Result.ok (Value.int .u8 (IntKind.u8.wrap ((BitVec.ofInt 8 (a.toNat:Int)&&& ~~~(BitVec.ofInt 8 (b.toNat:Int))).toNat:Int))) w=_
    rw [bv8,bv8];exact congrArg (fun x=>Result.ok (Value.int .u8 x) w) (zg5 (a&&& ~~~b))⟩
  case eql=>exact ⟨_,h,fun _=>trivial,fun w=>by simp [binOp,Op.intCmp,SV.den];rw [Bool.eq_iff_iff];simp;exact ⟨fun e=>UInt8.toNat_inj.1 (by omega),fun e=>by rw [e]⟩⟩
  case neq=>exact ⟨_,h,fun _=>trivial,fun w=>by simp [binOp,Op.intCmp,SV.den];rw [Bool.eq_iff_iff];simp;exact not_congr ⟨fun e=>UInt8.toNat_inj.1 (by omega),fun e=>by rw [e]⟩⟩
  case lss=>exact ⟨_,h,fun _=>trivial,fun w=>by simp [binOp,Op.intCmp,SV.den,UInt8.lt_iff_toNat_lt]⟩
  case leq=>exact ⟨_,h,fun _=>trivial,fun w=>by simp [binOp,Op.intCmp,SV.den,UInt8.le_iff_toNat_le]⟩
  case gtr=>exact ⟨_,h,fun _=>trivial,fun w=>by simp [binOp,Op.intCmp,SV.den,UInt8.lt_iff_toNat_lt]⟩
  case geq=>exact ⟨_,h,fun _=>trivial,fun w=>by simp [binOp,Op.intCmp,SV.den,UInt8.le_iff_toNat_le]⟩
theorem z5w {op:BinOp} {a b:UInt16} {k:SV→Prop} (t:TypeId) (h:z3t op a b k):Num P ρ k (binOp op t (.int .u16 a.toNat) (.int .u16 b.toNat)):=by
  have ha:=zmw a
  have hb:=zmw b
  cases op<;>simp only [z3t] at h
  case add=>exact ⟨_,h,fun _=>trivial,fun w=>by simp [binOp,Op.intArith,SV.den,zbb]⟩
  case sub=>exact ⟨_,h,fun _=>trivial,fun w=>by simp [binOp,Op.intArith,SV.den,zbb,UInt16.toNat_sub];omega⟩
  case mul=>exact ⟨_,h,fun _=>trivial,fun w=>by simp [binOp,Op.intArith,SV.den,zbb]⟩
  case quo=>
    have h0:=(zi h).1
    have e:((a.toNat:Int).tdiv (b.toNat:Int))=((a/ b).toNat:Int):=by rw [UInt16.toNat_div];rfl
    have h1:(b.toNat:Int)≠0:=by omega
    exact ⟨_,(zi h).2,fun _=>trivial,fun w=>by simp only [binOp,Op.intDiv,if_neg h1,e,zej,SV.den];rfl⟩
  case rem=>
    have h0:=(zi h).1
    have e:((a.toNat:Int).tmod (b.toNat:Int))=((a%b).toNat:Int):=by rw [UInt16.toNat_mod];rfl
    have h1:(b.toNat:Int)≠0:=by omega
    exact ⟨_,(zi h).2,fun _=>trivial,fun w=>by simp only [binOp,Op.intDiv,if_neg h1,e,SV.den];rfl⟩
  case and=>exact ⟨_,h,fun _=>trivial,fun w=>by
    show Result.ok (Value.int .u16 (IntKind.u16.wrap ((BitVec.ofInt 16 (a.toNat:Int)&&&BitVec.ofInt 16 (b.toNat:Int)).toNat:Int))) w=_
    rw [zp9,zp9];exact congrArg (fun x=>Result.ok (Value.int .u16 x) w) (zej (a&&&b))⟩
  case or=>exact ⟨_,h,fun _=>trivial,fun w=>by
    show Result.ok (Value.int .u16 (IntKind.u16.wrap ((BitVec.ofInt 16 (a.toNat:Int)|||BitVec.ofInt 16 (b.toNat:Int)).toNat:Int))) w=_
    rw [zp9,zp9];exact congrArg (fun x=>Result.ok (Value.int .u16 x) w) (zej (a|||b))⟩
  case xor=>exact ⟨_,h,fun _=>trivial,fun w=>by
    show Result.ok (Value.int .u16 (IntKind.u16.wrap ((BitVec.ofInt 16 (a.toNat:Int)^^^BitVec.ofInt 16 (b.toNat:Int)).toNat:Int))) w=_
    rw [zp9,zp9];exact congrArg (fun x=>Result.ok (Value.int .u16 x) w) (zej (a^^^b))⟩
  case andNot=>exact ⟨_,h,fun _=>trivial,fun w=>by
    show Result.ok (Value.int .u16 (IntKind.u16.wrap ((BitVec.ofInt 16 (a.toNat:Int)&&& ~~~(BitVec.ofInt 16 (b.toNat:Int))).toNat:Int))) w=_
    rw [zp9,zp9];exact congrArg (fun x=>Result.ok (Value.int .u16 x) w) (zej (a&&& ~~~b))⟩
  case eql=>exact ⟨_,h,fun _=>trivial,fun w=>by simp [binOp,Op.intCmp,SV.den];rw [Bool.eq_iff_iff];simp;exact ⟨fun e=>UInt16.toNat_inj.1 (by omega),fun e=>by rw [e]⟩⟩
  case neq=>exact ⟨_,h,fun _=>trivial,fun w=>by simp [binOp,Op.intCmp,SV.den];rw [Bool.eq_iff_iff];simp;exact not_congr ⟨fun e=>UInt16.toNat_inj.1 (by omega),fun e=>by rw [e]⟩⟩
  case lss=>exact ⟨_,h,fun _=>trivial,fun w=>by simp [binOp,Op.intCmp,SV.den,UInt16.lt_iff_toNat_lt]⟩
  case leq=>exact ⟨_,h,fun _=>trivial,fun w=>by simp [binOp,Op.intCmp,SV.den,UInt16.le_iff_toNat_le]⟩
  case gtr=>exact ⟨_,h,fun _=>trivial,fun w=>by simp [binOp,Op.intCmp,SV.den,UInt16.lt_iff_toNat_lt]⟩
  case geq=>exact ⟨_,h,fun _=>trivial,fun w=>by simp [binOp,Op.intCmp,SV.den,UInt16.le_iff_toNat_le]⟩
theorem z50 {op:BinOp} {a b:UInt32} {k:SV→Prop} (t:TypeId) (h:z4d op a b k):Num P ρ k (binOp op t (.int .u32 a.toNat) (.int .u32 b.toNat)):=by
  have ha:=zog a
  have hb:=zog b
  cases op<;>simp only [z4d] at h
  case add=>exact ⟨_,h,fun _=>trivial,fun w=>by simp [binOp,Op.intArith,SV.den,za8]⟩
  case sub=>exact ⟨_,h,fun _=>trivial,fun w=>by simp [binOp,Op.intArith,SV.den,za8,UInt32.toNat_sub];omega⟩
  case mul=>exact ⟨_,h,fun _=>trivial,fun w=>by simp [binOp,Op.intArith,SV.den,za8]⟩
  case quo=>
    have h0:=(zi h).1
    have e:((a.toNat:Int).tdiv (b.toNat:Int))=((a/ b).toNat:Int):=by rw [UInt32.toNat_div];rfl
    have h1:(b.toNat:Int)≠0:=by omega
    exact ⟨_,(zi h).2,fun _=>trivial,fun w=>by simp only [binOp,Op.intDiv,if_neg h1,e,zeb,SV.den];rfl⟩
  case rem=>
    have h0:=(zi h).1
    have e:((a.toNat:Int).tmod (b.toNat:Int))=((a%b).toNat:Int):=by rw [UInt32.toNat_mod];rfl
    have h1:(b.toNat:Int)≠0:=by omega
    exact ⟨_,(zi h).2,fun _=>trivial,fun w=>by simp only [binOp,Op.intDiv,if_neg h1,e,SV.den];rfl⟩
  case and=>exact ⟨_,h,fun _=>trivial,fun w=>by
    show Result.ok (Value.int .u32 (IntKind.u32.wrap ((BitVec.ofInt 32 (a.toNat:Int)&&&BitVec.ofInt 32 (b.toNat:Int)).toNat:Int))) w=_
    rw [zpy,zpy];exact congrArg (fun x=>Result.ok (Value.int .u32 x) w) (zeb (a&&&b))⟩
  case or=>exact ⟨_,h,fun _=>trivial,fun w=>by
    show Result.ok (Value.int .u32 (IntKind.u32.wrap ((BitVec.ofInt 32 (a.toNat:Int)|||BitVec.ofInt 32 (b.toNat:Int)).toNat:Int))) w=_
    rw [zpy,zpy];exact congrArg (fun x=>Result.ok (Value.int .u32 x) w) (zeb (a|||b))⟩
  case xor=>exact ⟨_,h,fun _=>trivial,fun w=>by
    show Result.ok (Value.int .u32 (IntKind.u32.wrap ((BitVec.ofInt 32 (a.toNat:Int)^^^BitVec.ofInt 32 (b.toNat:Int)).toNat:Int))) w=_
    rw [zpy,zpy];exact congrArg (fun x=>Result.ok (Value.int .u32 x) w) (zeb (a^^^b))⟩
  case andNot=>exact ⟨_,h,fun _=>trivial,fun w=>by
    show Result.ok (Value.int .u32 (IntKind.u32.wrap ((BitVec.ofInt 32 (a.toNat:Int)&&& ~~~(BitVec.ofInt 32 (b.toNat:Int))).toNat:Int))) w=_
    rw [zpy,zpy];exact congrArg (fun x=>Result.ok (Value.int .u32 x) w) (zeb (a&&& ~~~b))⟩
  case eql=>exact ⟨_,h,fun _=>trivial,fun w=>by simp [binOp,Op.intCmp,SV.den];rw [Bool.eq_iff_iff];simp;exact ⟨fun e=>UInt32.toNat_inj.1 (by omega),fun e=>by rw [e]⟩⟩
  case neq=>exact ⟨_,h,fun _=>trivial,fun w=>by simp [binOp,Op.intCmp,SV.den];rw [Bool.eq_iff_iff];simp;exact not_congr ⟨fun e=>UInt32.toNat_inj.1 (by omega),fun e=>by rw [e]⟩⟩
  case lss=>exact ⟨_,h,fun _=>trivial,fun w=>by simp [binOp,Op.intCmp,SV.den,UInt32.lt_iff_toNat_lt]⟩
  case leq=>exact ⟨_,h,fun _=>trivial,fun w=>by simp [binOp,Op.intCmp,SV.den,UInt32.le_iff_toNat_le]⟩
  case gtr=>exact ⟨_,h,fun _=>trivial,fun w=>by simp [binOp,Op.intCmp,SV.den,UInt32.lt_iff_toNat_lt]⟩
  case geq=>exact ⟨_,h,fun _=>trivial,fun w=>by simp [binOp,Op.intCmp,SV.den,UInt32.le_iff_toNat_le]⟩
theorem z6o {op:BinOp} {a b:UInt64} {k:SV→Prop} (t:TypeId) (h:z4w op a b k):Num P ρ k (binOp op t (.int .u64 a.toNat) (.int .u64 b.toNat)):=by
  have ha:=zvt a
  have hb:=zvt b
  cases op<;>simp only [z4w] at h
  case add=>exact ⟨_,h,fun _=>trivial,fun w=>by simp [binOp,Op.intArith,SV.den,za9]⟩
  case sub=>exact ⟨_,h,fun _=>trivial,fun w=>by simp [binOp,Op.intArith,SV.den,za9,UInt64.toNat_sub];omega⟩
  case mul=>exact ⟨_,h,fun _=>trivial,fun w=>by simp [binOp,Op.intArith,SV.den,za9]⟩
  case quo=>
    have h0:=(zi h).1
    have e:((a.toNat:Int).tdiv (b.toNat:Int))=((a/ b).toNat:Int):=by rw [UInt64.toNat_div];rfl
    have h1:(b.toNat:Int)≠0:=by omega
    exact ⟨_,(zi h).2,fun _=>trivial,fun w=>by simp only [binOp,Op.intDiv,if_neg h1,e,zek,SV.den];rfl⟩
  case rem=>
    have h0:=(zi h).1
    have e:((a.toNat:Int).tmod (b.toNat:Int))=((a%b).toNat:Int):=by rw [UInt64.toNat_mod];rfl
    have h1:(b.toNat:Int)≠0:=by omega
    exact ⟨_,(zi h).2,fun _=>trivial,fun w=>by simp only [binOp,Op.intDiv,if_neg h1,e,SV.den];rfl⟩
  case and=>exact ⟨_,h,fun _=>trivial,fun w=>by
    show Result.ok (Value.int .u64 (IntKind.u64.wrap ((BitVec.ofInt 64 (a.toNat:Int)&&&BitVec.ofInt 64 (b.toNat:Int)).toNat:Int))) w=_
    rw [zqo,zqo];exact congrArg (fun x=>Result.ok (Value.int .u64 x) w) (zek (a&&&b))⟩
  case or=>exact ⟨_,h,fun _=>trivial,fun w=>by
    show Result.ok (Value.int .u64 (IntKind.u64.wrap ((BitVec.ofInt 64 (a.toNat:Int)|||BitVec.ofInt 64 (b.toNat:Int)).toNat:Int))) w=_
    rw [zqo,zqo];exact congrArg (fun x=>Result.ok (Value.int .u64 x) w) (zek (a|||b))⟩
  case xor=>exact ⟨_,h,fun _=>trivial,fun w=>by
    show Result.ok (Value.int .u64 (IntKind.u64.wrap ((BitVec.ofInt 64 (a.toNat:Int)^^^BitVec.ofInt 64 (b.toNat:Int)).toNat:Int))) w=_
    rw [zqo,zqo];exact congrArg (fun x=>Result.ok (Value.int .u64 x) w) (zek (a^^^b))⟩
  case andNot=>exact ⟨_,h,fun _=>trivial,fun w=>by
    show Result.ok (Value.int .u64 (IntKind.u64.wrap ((BitVec.ofInt 64 (a.toNat:Int)&&& ~~~(BitVec.ofInt 64 (b.toNat:Int))).toNat:Int))) w=_
    rw [zqo,zqo];exact congrArg (fun x=>Result.ok (Value.int .u64 x) w) (zek (a&&& ~~~b))⟩
  case eql=>exact ⟨_,h,fun _=>trivial,fun w=>by simp [binOp,Op.intCmp,SV.den];rw [Bool.eq_iff_iff];simp;exact ⟨fun e=>UInt64.toNat_inj.1 (by omega),fun e=>by rw [e]⟩⟩
  case neq=>exact ⟨_,h,fun _=>trivial,fun w=>by simp [binOp,Op.intCmp,SV.den];rw [Bool.eq_iff_iff];simp;exact not_congr ⟨fun e=>UInt64.toNat_inj.1 (by omega),fun e=>by rw [e]⟩⟩
  case lss=>exact ⟨_,h,fun _=>trivial,fun w=>by simp [binOp,Op.intCmp,SV.den,UInt64.lt_iff_toNat_lt]⟩
  case leq=>exact ⟨_,h,fun _=>trivial,fun w=>by simp [binOp,Op.intCmp,SV.den,UInt64.le_iff_toNat_le]⟩
  case gtr=>exact ⟨_,h,fun _=>trivial,fun w=>by simp [binOp,Op.intCmp,SV.den,UInt64.lt_iff_toNat_lt]⟩
  case geq=>exact ⟨_,h,fun _=>trivial,fun w=>by simp [binOp,Op.intCmp,SV.den,UInt64.le_iff_toNat_le]⟩
theorem z1w {y:SV} {k:Nat→Prop} (h:z22 y k): ∃(yk:IntKind) (n:Int),0≤n∧y.den ρ= .int yk n∧k n.toNat:=by
  unfold z22 at h
  split at h
  ·exact ⟨.i64,_,(zi h).1,rfl,(zi h).2⟩
  ·exact ⟨.u8,_,by omega,rfl,h⟩
  ·exact ⟨.u16,_,by omega,rfl,h⟩
  ·exact ⟨.u32,_,by omega,rfl,h⟩
  ·exact ⟨.u64,_,by omega,rfl,h⟩
  ·exact h.elim
theorem zie (t:TypeId) (k yk:IntKind) (x n:Int) (h:0≤n) (hb:n.toNat<k.bits) (w:World):(binOp .shl t (.int k x) (.int yk n)).run P w= .ok (.int k (k.wrap (x*2^n.toNat))) w:=by
  have h0: ¬n<0:=by omega
  simp only [binOp,Op.shift,if_neg h0,Nat.min_eq_left (Nat.le_of_lt hb)];rfl
theorem zh1 (t:TypeId) (k yk:IntKind) (x n:Int) (h:0≤n) (hb:n.toNat<k.bits) (w:World):(binOp .shr t (.int k x) (.int yk n)).run P w= .ok (.int k (x.fdiv (2^n.toNat))) w:=by
  have h0: ¬n<0:=by omega
  simp only [binOp,Op.shift,if_neg h0,Nat.min_eq_left (Nat.le_of_lt hb)];rfl
theorem z8i (a:UInt8) (n:Nat) (h:n<8):((a.toNat:Int)*2^n)%256=((a<<<UInt8.ofNat n).toNat:Int):=by
  have e:(UInt8.ofNat n).toNat%8=n:=by rw [UInt8.toNat_ofNat'];omega
  rw [UInt8.toNat_shiftLeft,e,Nat.shiftLeft_eq,Int.natCast_emod,Int.natCast_mul,Int.natCast_pow]
  rfl
theorem z8a (a:UInt8) (n:Nat) (h:n<8):(a.toNat:Int).fdiv (2^n)=((a>>>UInt8.ofNat n).toNat:Int):=by
  have e:(UInt8.ofNat n).toNat%8=n:=by rw [UInt8.toNat_ofNat'];omega
  rw [UInt8.toNat_shiftRight,e,Nat.shiftRight_eq_div_pow,Int.fdiv_eq_ediv_of_nonneg _ (Int.pow_nonneg (by omega)),Int.natCast_ediv,Int.natCast_pow]
  rfl
theorem z56 (a:UInt16) (n:Nat) (h:n<16):((a.toNat:Int)*2^n)%65536=((a<<<UInt16.ofNat n).toNat:Int):=by
  have e:(UInt16.ofNat n).toNat%16=n:=by rw [UInt16.toNat_ofNat'];omega
  rw [UInt16.toNat_shiftLeft,e,Nat.shiftLeft_eq,Int.natCast_emod,Int.natCast_mul,Int.natCast_pow]
  rfl
theorem z7c (a:UInt16) (n:Nat) (h:n<16):(a.toNat:Int).fdiv (2^n)=((a>>>UInt16.ofNat n).toNat:Int):=by
  have e:(UInt16.ofNat n).toNat%16=n:=by rw [UInt16.toNat_ofNat'];omega
  rw [UInt16.toNat_shiftRight,e,Nat.shiftRight_eq_div_pow,Int.fdiv_eq_ediv_of_nonneg _ (Int.pow_nonneg (by omega)),Int.natCast_ediv,Int.natCast_pow]
  rfl
theorem z5y (a:UInt32) (n:Nat) (h:n<32):((a.toNat:Int)*2^n)%4294967296=((a<<<UInt32.ofNat n).toNat:Int):=by
  have e:(UInt32.ofNat n).toNat%32=n:=by rw [UInt32.toNat_ofNat'];omega
  rw [UInt32.toNat_shiftLeft,e,Nat.shiftLeft_eq,Int.natCast_emod,Int.natCast_mul,Int.natCast_pow]
  rfl
theorem z5t (a:UInt32) (n:Nat) (h:n<32):(a.toNat:Int).fdiv (2^n)=((a>>>UInt32.ofNat n).toNat:Int):=by
  have e:(UInt32.ofNat n).toNat%32=n:=by rw [UInt32.toNat_ofNat'];omega
  rw [UInt32.toNat_shiftRight,e,Nat.shiftRight_eq_div_pow,Int.fdiv_eq_ediv_of_nonneg _ (Int.pow_nonneg (by omega)),Int.natCast_ediv,Int.natCast_pow]
  rfl
theorem z7n (a:UInt64) (n:Nat) (h:n<64):((a.toNat:Int)*2^n)%18446744073709551616=((a<<<UInt64.ofNat n).toNat:Int):=by
  have e:(UInt64.ofNat n).toNat%64=n:=by rw [UInt64.toNat_ofNat'];omega
  rw [UInt64.toNat_shiftLeft,e,Nat.shiftLeft_eq,Int.natCast_emod,Int.natCast_mul,Int.natCast_pow]
  rfl
theorem z53 (a:UInt64) (n:Nat) (h:n<64):(a.toNat:Int).fdiv (2^n)=((a>>>UInt64.ofNat n).toNat:Int):=by
  have e:(UInt64.ofNat n).toNat%64=n:=by rw [UInt64.toNat_ofNat'];omega
  rw [UInt64.toNat_shiftRight,e,Nat.shiftRight_eq_div_pow,Int.fdiv_eq_ediv_of_nonneg _ (Int.pow_nonneg (by omega)),Int.natCast_ediv,Int.natCast_pow]
  rfl
theorem z5q {x y:SV} {k:SV→Prop} (t:TypeId) (h:z29 x y k):Num P ρ k (binOp .shl t (x.den ρ) (y.den ρ)):=by
  unfold z29 at h
  obtain ⟨yk,n,h0,hy,hk⟩:=z1w (ρ:=ρ) h
  rw [hy]
  split at hk
  ·obtain ⟨h1,h2⟩:=zi hk
   exact ⟨_,h2,fun _=>trivial,fun w=>by simp only [SV.den];rw [zie t _ _ _ _ h0 (by simpa [IntKind.bits] using h1.1),zac _ h1.2]⟩
  ·obtain ⟨h1,h2⟩:=zi hk
   exact ⟨_,h2,fun _=>trivial,fun w=>by simp only [SV.den];rw [zie t _ _ _ _ h0 (by simpa [IntKind.bits] using h1),zb5,z8i _ _ h1]⟩
  ·obtain ⟨h1,h2⟩:=zi hk
   exact ⟨_,h2,fun _=>trivial,fun w=>by simp only [SV.den];rw [zie t _ _ _ _ h0 (by simpa [IntKind.bits] using h1),zbb,z56 _ _ h1]⟩
  ·obtain ⟨h1,h2⟩:=zi hk
   exact ⟨_,h2,fun _=>trivial,fun w=>by simp only [SV.den];rw [zie t _ _ _ _ h0 (by simpa [IntKind.bits] using h1),za8,z5y _ _ h1]⟩
  ·obtain ⟨h1,h2⟩:=zi hk
   exact ⟨_,h2,fun _=>trivial,fun w=>by simp only [SV.den];rw [zie t _ _ _ _ h0 (by simpa [IntKind.bits] using h1),za9,z7n _ _ h1]⟩
  ·exact hk.elim
theorem z5s {x y:SV} {k:SV→Prop} (t:TypeId) (h:z48 x y k):Num P ρ k (binOp .shr t (x.den ρ) (y.den ρ)):=by
  unfold z48 at h
  obtain ⟨yk,n,h0,hy,hk⟩:=z1w (ρ:=ρ) h
  rw [hy]
  split at hk
  ·obtain ⟨h1,h2⟩:=zi hk
   exact ⟨_,h2,fun _=>trivial,fun w=>by
     simp only [SV.den];rw [zh1 t _ _ _ _ h0 (by simpa [IntKind.bits] using h1),Int.fdiv_eq_ediv_of_nonneg _ (Int.pow_nonneg (by omega))]⟩
  ·obtain ⟨h1,h2⟩:=zi hk
   exact ⟨_,h2,fun _=>trivial,fun w=>by simp only [SV.den];rw [zh1 t _ _ _ _ h0 (by simpa [IntKind.bits] using h1),z8a _ _ h1]⟩
  ·obtain ⟨h1,h2⟩:=zi hk
   exact ⟨_,h2,fun _=>trivial,fun w=>by simp only [SV.den];rw [zh1 t _ _ _ _ h0 (by simpa [IntKind.bits] using h1),z7c _ _ h1]⟩
  ·obtain ⟨h1,h2⟩:=zi hk
   exact ⟨_,h2,fun _=>trivial,fun w=>by simp only [SV.den];rw [zh1 t _ _ _ _ h0 (by simpa [IntKind.bits] using h1),z5t _ _ h1]⟩
  ·obtain ⟨h1,h2⟩:=zi hk
   exact ⟨_,h2,fun _=>trivial,fun w=>by simp only [SV.den];rw [zh1 t _ _ _ _ h0 (by simpa [IntKind.bits] using h1),z53 _ _ h1]⟩
  ·exact hk.elim
theorem znj (l:List UInt8):(⟨l.toArray⟩:ByteArray).toList=l:=by rw [ByteArray.toList_eq]
theorem z5z {op:BinOp} {a b:List UInt8} {k:SV→Prop} (t:TypeId) (h:z30 op a b k):Num P ρ k (binOp op t (.string ⟨a.toArray⟩) (.string ⟨b.toArray⟩)):=by
  cases op<;>simp only [z30] at h
  case add=>
    obtain ⟨h1,h2⟩:=zi h
    refine ⟨_,h2,fun _=>trivial,fun w=>?_⟩
    have hs: ¬(((⟨a.toArray⟩:ByteArray).size+(⟨b.toArray⟩:ByteArray).size:Nat):Int)>IntKind.i64.max:=by
      have e1:(⟨a.toArray⟩:ByteArray).size=a.length:=by simp [ByteArray.size]
      have e2:(⟨b.toArray⟩:ByteArray).size=b.length:=by simp [ByteArray.size]
      have e3:IntKind.i64.max=9223372036854775807:=rfl
      rw [e1,e2,e3];omega
    simp only [binOp,Op.stringOp]
    rw [if_neg hs]
    show Result.ok (Value.string _) w=_
    congr 2
  case eql=>exact ⟨_,h,fun _=>trivial,fun w=>by simp [binOp,Op.stringOp,SV.den];rw [Bool.eq_iff_iff];simp⟩
  case neq=>exact ⟨_,h,fun _=>trivial,fun w=>by simp [binOp,Op.stringOp,SV.den];rw [Bool.eq_iff_iff];simp⟩
theorem z7x {op:BinOp} {x y:SV} {k:SV→Prop} (t:TypeId) (h:zxr op x y k):Num P ρ k (binOp op t (x.den ρ) (y.den ρ)):=by
  unfold zxr at h
  split at h
  ·exact z5q t h
  ·exact z5s t h
  ·split at h
   ·exact z6x t h
   ·exact z97 t h
   ·exact z5w t h
   ·exact z50 t h
   ·exact z6o t h
   ·exact z5z t h
   ·exact h.elim
theorem yah {op:UnOp} {x:SV} {k:SV→Prop} (h:unK op x k):Num P ρ k (Op.unary op (x.den ρ)):=by
  unfold unK at h
  split at h
  ·exact ⟨_,h,fun _=>trivial,fun w=>rfl⟩
  ·exact ⟨_,(zi h).2,fun _=>trivial,fun w=>by
     show Result.ok (Value.int .i64 (IntKind.i64.wrap (0-_))) w=_
     rw [zac _ (zi h).1];rfl⟩
  ·rename_i a;exact ⟨_,h,fun _=>trivial,fun w=>by
     show Result.ok (Value.int .u8 (IntKind.u8.wrap (0-(a.toNat:Int)))) w=_
     have ha:=zrz a
     rw [zb5];simp [SV.den,UInt8.toNat_neg,UInt8.size];omega⟩
  ·rename_i a;exact ⟨_,h,fun _=>trivial,fun w=>by
     show Result.ok (Value.int .u16 (IntKind.u16.wrap (0-(a.toNat:Int)))) w=_
     have ha:=zmw a
     rw [zbb];simp [SV.den,UInt16.toNat_neg,UInt16.size];omega⟩
  ·rename_i a;exact ⟨_,h,fun _=>trivial,fun w=>by
     show Result.ok (Value.int .u32 (IntKind.u32.wrap (0-(a.toNat:Int)))) w=_
     have ha:=zog a
     rw [za8];simp [SV.den,UInt32.toNat_neg,UInt32.size];omega⟩
  ·rename_i a;exact ⟨_,h,fun _=>trivial,fun w=>by
     show Result.ok (Value.int .u64 (IntKind.u64.wrap (0-(a.toNat:Int)))) w=_
     have ha:=zvt a
     rw [za9];simp [SV.den,UInt64.toNat_neg,UInt64.size];omega⟩
  ·rename_i a;exact ⟨_,h,fun _=>trivial,fun w=>by
     show Result.ok (Value.int .u8 (IntKind.u8.wrap ((BitVec.ofInt 8 (IntKind.u8.max)^^^BitVec.ofInt 8 (a.toNat:Int)).toNat:Int))) w=_
     have e:BitVec.ofInt 8 (IntKind.u8.max)^^^a.toBitVec=(~~~a).toBitVec:=by
       have:BitVec.ofInt 8 (IntKind.u8.max)=BitVec.allOnes 8:=rfl
       rw [this,BitVec.allOnes_xor];rfl
     rw [bv8,e];exact congrArg (fun x=>Result.ok (Value.int .u8 x) w) (zg5 (~~~a))⟩
  ·rename_i a;exact ⟨_,h,fun _=>trivial,fun w=>by
     show Result.ok (Value.int .u16 (IntKind.u16.wrap ((BitVec.ofInt 16 (IntKind.u16.max)^^^BitVec.ofInt 16 (a.toNat:Int)).toNat:Int))) w=_
     have e:BitVec.ofInt 16 (IntKind.u16.max)^^^a.toBitVec=(~~~a).toBitVec:=by
       have:BitVec.ofInt 16 (IntKind.u16.max)=BitVec.allOnes 16:=rfl
       rw [this,BitVec.allOnes_xor];rfl
     rw [zp9,e];exact congrArg (fun x=>Result.ok (Value.int .u16 x) w) (zej (~~~a))⟩
  ·rename_i a;exact ⟨_,h,fun _=>trivial,fun w=>by
     show Result.ok (Value.int .u32 (IntKind.u32.wrap ((BitVec.ofInt 32 (IntKind.u32.max)^^^BitVec.ofInt 32 (a.toNat:Int)).toNat:Int))) w=_
     have e:BitVec.ofInt 32 (IntKind.u32.max)^^^a.toBitVec=(~~~a).toBitVec:=by
       have:BitVec.ofInt 32 (IntKind.u32.max)=BitVec.allOnes 32:=rfl
       rw [this,BitVec.allOnes_xor];rfl
     rw [zpy,e];exact congrArg (fun x=>Result.ok (Value.int .u32 x) w) (zeb (~~~a))⟩
  ·rename_i a;exact ⟨_,h,fun _=>trivial,fun w=>by
     show Result.ok (Value.int .u64 (IntKind.u64.wrap ((BitVec.ofInt 64 (IntKind.u64.max)^^^BitVec.ofInt 64 (a.toNat:Int)).toNat:Int))) w=_
     have e:BitVec.ofInt 64 (IntKind.u64.max)^^^a.toBitVec=(~~~a).toBitVec:=by
       have:BitVec.ofInt 64 (IntKind.u64.max)=BitVec.allOnes 64:=rfl
       rw [this,BitVec.allOnes_xor];rfl
     rw [zqo,e];exact congrArg (fun x=>Result.ok (Value.int .u64 x) w) (zek (~~~a))⟩
  ·exact h.elim
theorem zl1 {d:IntKind} {x:SV} {k:SV→Prop} (h:zf0 d x k): ∃(sk:IntKind) (n:Int),x.den ρ= .int sk n∧Num P ρ k (Conv.intToInt d n):=by
  unfold zf0 at h
  split at h
  ·exact ⟨_,_,rfl,_,(zi h).2,fun _=>trivial,fun w=>by simp [Conv.intToInt,SV.den,zac _ (zi h).1]⟩
  ·rename_i a;exact ⟨_,_,rfl,_,h,fun _=>trivial,fun w=>by have:=zrz a;simp [Conv.intToInt,SV.den];exact zac _ (by unfold yo;omega)⟩
  ·rename_i a;exact ⟨_,_,rfl,_,h,fun _=>trivial,fun w=>by have:=zmw a;simp [Conv.intToInt,SV.den];exact zac _ (by unfold yo;omega)⟩
  ·rename_i a;exact ⟨_,_,rfl,_,h,fun _=>trivial,fun w=>by have:=zog a;simp [Conv.intToInt,SV.den];exact zac _ (by unfold yo;omega)⟩
  ·exact ⟨_,_,rfl,_,(zi h).2,fun _=>trivial,fun w=>by have:=(zi h).1;simp [Conv.intToInt,SV.den];exact zac _ (by unfold yo;omega)⟩
  ·exact ⟨_,_,rfl,_,h,fun _=>trivial,fun w=>by
     simp only [Conv.intToInt,SV.den,zb5,zkp];rfl⟩
  ·exact ⟨_,_,rfl,_,h,fun _=>trivial,fun w=>by simp [Conv.intToInt,SV.den,zg5]⟩
  ·exact ⟨_,_,rfl,_,h,fun _=>trivial,fun w=>by simp [Conv.intToInt,SV.den,zb5]⟩
  ·exact ⟨_,_,rfl,_,h,fun _=>trivial,fun w=>by simp [Conv.intToInt,SV.den,zb5]⟩
  ·exact ⟨_,_,rfl,_,h,fun _=>trivial,fun w=>by simp [Conv.intToInt,SV.den,zb5]⟩
  ·exact ⟨_,_,rfl,_,h,fun _=>trivial,fun w=>by
     simp only [Conv.intToInt,SV.den,zbb,zzt];rfl⟩
  ·rename_i a;exact ⟨_,_,rfl,_,h,fun _=>trivial,fun w=>by have:=zrz a;simp [Conv.intToInt,SV.den,zbb];omega⟩
  ·exact ⟨_,_,rfl,_,h,fun _=>trivial,fun w=>by simp [Conv.intToInt,SV.den,zej]⟩
  ·exact ⟨_,_,rfl,_,h,fun _=>trivial,fun w=>by simp [Conv.intToInt,SV.den,zbb]⟩
  ·exact ⟨_,_,rfl,_,h,fun _=>trivial,fun w=>by simp [Conv.intToInt,SV.den,zbb]⟩
  ·exact ⟨_,_,rfl,_,h,fun _=>trivial,fun w=>by
     simp only [Conv.intToInt,SV.den,za8,zze];rfl⟩
  ·rename_i a;exact ⟨_,_,rfl,_,h,fun _=>trivial,fun w=>by have:=zrz a;simp [Conv.intToInt,SV.den,za8];omega⟩
  ·rename_i a;exact ⟨_,_,rfl,_,h,fun _=>trivial,fun w=>by have:=zmw a;simp [Conv.intToInt,SV.den,za8];omega⟩
  ·exact ⟨_,_,rfl,_,h,fun _=>trivial,fun w=>by simp [Conv.intToInt,SV.den,zeb]⟩
  ·exact ⟨_,_,rfl,_,h,fun _=>trivial,fun w=>by simp [Conv.intToInt,SV.den,za8]⟩
  ·exact ⟨_,_,rfl,_,h,fun _=>trivial,fun w=>by
     simp only [Conv.intToInt,SV.den,za9,zrw];rfl⟩
  ·rename_i a;exact ⟨_,_,rfl,_,h,fun _=>trivial,fun w=>by have:=zrz a;simp [Conv.intToInt,SV.den,za9];omega⟩
  ·rename_i a;exact ⟨_,_,rfl,_,h,fun _=>trivial,fun w=>by have:=zmw a;simp [Conv.intToInt,SV.den,za9];omega⟩
  ·rename_i a;exact ⟨_,_,rfl,_,h,fun _=>trivial,fun w=>by have:=zog a;simp [Conv.intToInt,SV.den,za9];omega⟩
  ·exact ⟨_,_,rfl,_,h,fun _=>trivial,fun w=>by simp [Conv.intToInt,SV.den,zek]⟩
  ·exact h.elim
end
end Go.Sym

namespace Go.Sym
section steps
variable {ρ:Nat→Nat} {hp:List Blk} {w:World}
theorem HpRel.lt (h:HpRel ρ hp w) {k:Nat} {el:TypeId} {ps:List SV} (hk:hp[k]?=some (.mk el ps)):ρ k<w.heap.size:=by
  obtain ⟨_,_,fz,h1,_⟩:=h.mem k el ps hk
  exact (Array.getElem?_eq_some_iff.1 h1).1
theorem Step.world (h:HpRel ρ hp w) {w':World} (hh:w'.heap=w.heap) (ho:w'.os=w.os) (hu:w'.output=w.output) (ht:w'.tape=w.tape):Step ρ hp w ρ hp w':=
  ⟨⟨fun k el ps hk=>by rw [hh];exact h.mem k el ps hk,h.inj⟩,fun _ _=>rfl,Nat.le_refl _,⟨by rw [hh];exact Nat.le_refl _,fun b _ _=>by rw [hh],ho,hu,ht⟩,fun _ h=> .inl h⟩
theorem Step.trans {ρ1 ρ2:Nat→Nat} {hp1 hp2:List Blk} {w1 w2:World} (h:Step ρ hp w ρ1 hp1 w1) (h':Step ρ1 hp1 w1 ρ2 hp2 w2):Step ρ hp w ρ2 hp2 w2:=
  ⟨h'.rel,fun k hk=>by rw [h'.same k (Nat.lt_of_lt_of_le hk h.le),h.same k hk],Nat.le_trans h.le h'.le,h.ext.trans h'.ext h.foot,
   fun b hb=>(h'.foot b hb).elim (fun hb=>h.foot b hb) (fun hl=> .inr (Nat.le_trans h.ext.size hl))⟩
def zf5 (ρ:Nat→Nat) (n b:Nat):Nat→Nat:=fun k=>if k=n then b else ρ k
theorem x7 {n b k:Nat} (h:k<n):zf5 ρ n b k=ρ k:=by unfold zf5;rw [if_neg (by omega)]
theorem xk {n b:Nat}:zf5 ρ n b n=b:=by unfold zf5;rw [if_pos rfl]
theorem Step.alloc (h:HpRel ρ hp w) {el el0:TypeId} {ps:List SV} (hps:okL (· <hp.length) ps) {w':World} {fz:Nat×Nat}
    (hh:w'.heap=w.heap.push (.cells (zh ρ ps).toArray el0 fz)) (hf:fz.2≤fz.1∨(zh ρ ps).length≤fz.1)
    (ho:w'.os=w.os) (hu:w'.output=w.output) (ht:w'.tape=w.tape):
    Step ρ hp w (zf5 ρ hp.length w.heap.size) (hp++ [.mk el ps]) w':=by
  have hlen:(hp++ [Blk.mk el ps]).length=hp.length+1:=by simp
  have hc: ∀qs:List SV,okL (· <hp.length) qs→zh (zf5 ρ hp.length w.heap.size) qs=zh ρ qs:=fun qs hq=>
    xf (p:=(· <hp.length)) (fun k hk=>x7 hk) qs hq
  have old: ∀(k:Nat) (el':TypeId) (ps':List SV),(hp++ [Blk.mk el ps])[k]?=some (Blk.mk el' ps')→k<hp.length∧hp[k]?=some (Blk.mk el' ps')∨k=hp.length∧el'=el∧ps'=ps:=by
    intro k el' ps' hk
    rcases Nat.lt_trichotomy k hp.length with hl|rfl|hl
    ·rw [List.getElem?_append_left hl] at hk;exact .inl ⟨hl,hk⟩
    ·simp at hk;exact .inr ⟨rfl,hk.1.symm,hk.2.symm⟩
    ·rw [List.getElem?_eq_none (by simp;omega)] at hk;cases hk
  refine ⟨⟨?_,?_⟩,fun k hk=>x7 hk,by simp,⟨by rw [hh];simp,?_,ho,hu,ht⟩,?_⟩
  ·intro k el' ps' hk
   rcases old k el' ps' hk with ⟨hl,hk'⟩|⟨rfl,rfl,rfl⟩
   ·obtain ⟨h1,el2,fz',h2,h3⟩:=h.mem k el' ps' hk'
    refine ⟨ym (fun x hx=>by rw [hlen];exact Nat.lt_succ_of_lt hx) _ h1,el2,fz',?_,?_⟩
    ·rw [x7 hl,hh,Array.getElem?_push,if_neg (Nat.ne_of_lt (h.lt hk')),hc _ h1,h2]
    ·rw [hc _ h1];exact h3
   ·refine ⟨ym (fun x hx=>by rw [hlen];exact Nat.lt_succ_of_lt hx) _ hps,el0,fz,?_,?_⟩
    ·rw [xk,hh,hc _ hps];simp
    ·rw [hc _ hps];exact hf
  ·intro k k' el1 ps1 el2 ps2 h1 h2 he
   rcases old k el1 ps1 h1 with ⟨hl,hk⟩|⟨rfl,_,_⟩<;>rcases old k' el2 ps2 h2 with ⟨hl',hk'⟩|⟨rfl,_,_⟩
   ·rw [x7 hl,x7 hl'] at he;exact h.inj k k' _ _ _ _ hk hk' he
   ·rw [x7 hl,xk] at he;exact absurd he (Nat.ne_of_lt (h.lt hk))
   ·rw [x7 hl',xk] at he;exact absurd he.symm (Nat.ne_of_lt (h.lt hk'))
   ·rfl
  ·intro b hb _
   rw [hh,Array.getElem?_push,if_neg (Nat.ne_of_lt hb)]
  ·rintro b ⟨k,el',ps',hk,rfl⟩
   rcases old k el' ps' hk with ⟨hl,hk'⟩|⟨rfl,_,_⟩
   ·rw [x7 hl];exact .inl ⟨k,el',ps',hk',rfl⟩
   ·rw [xk];exact .inr (Nat.le_refl _)
theorem Step.write (h:HpRel ρ hp w) {k:Nat} {el el0:TypeId} {ps ps':List SV} (hk:hp[k]?=some (.mk el ps)) (hps:okL (· <hp.length) ps') {fz:Nat×Nat}
    (hf:fz.2≤fz.1∨(zh ρ ps').length≤fz.1):Step ρ hp w ρ (hp.set k (.mk el ps')) (World.putAt w (ρ k) (.cells (zh ρ ps').toArray el0 fz)):=by
  have hkl:k<hp.length:=(List.getElem?_eq_some_iff.1 hk).1
  have old: ∀(k':Nat) (el':TypeId) (qs:List SV),(hp.set k (Blk.mk el ps'))[k']?=some (Blk.mk el' qs)→k'≠k∧hp[k']?=some (Blk.mk el' qs)∨k'=k∧el'=el∧qs=ps':=by
    intro k' el' qs h'
    by_cases e:k'=k
    ·subst e;rw [List.getElem?_set_self hkl] at h';simp at h';exact .inr ⟨rfl,h'.1.symm,h'.2.symm⟩
    ·rw [List.getElem?_set_ne (fun x=>e x.symm)] at h';exact .inl ⟨e,h'⟩
  refine ⟨⟨?_,?_⟩,fun _ _=>rfl,by simp,⟨by simp [World.putAt],?_,rfl,rfl,rfl⟩,?_⟩
  ·intro k' el' qs h'
   rcases old k' el' qs h' with ⟨hne,hk'⟩|⟨rfl,rfl,rfl⟩
   ·obtain ⟨h1,el2,fz',h2,h3⟩:=h.mem k' el' qs hk'
    refine ⟨by simpa using h1,el2,fz',?_,h3⟩
    have:ρ k≠ρ k':=fun e=>hne (h.inj k' k _ _ _ _ hk' hk e.symm)
    simp only [World.putAt]
    rw [Array.getElem?_setIfInBounds_ne this];exact h2
   ·refine ⟨by simpa using hps,el0,fz,?_,hf⟩
    simp [World.putAt,h.lt hk]
  ·intro a b el1 ps1 el2 ps2 h1 h2 he
   have f: ∀(k':Nat) (el':TypeId) (qs:List SV),(hp.set k (Blk.mk el ps'))[k']?=some (Blk.mk el' qs)→ ∃(e:TypeId) (q:List SV),hp[k']?=some (Blk.mk e q):=fun k' el' qs h'=>by
     rcases old k' el' qs h' with ⟨_,hk'⟩|⟨rfl,_,_⟩
     ·exact ⟨_,_,hk'⟩
     ·exact ⟨_,_,hk⟩
   obtain ⟨_,_,g1⟩:=f a _ _ h1
   obtain ⟨_,_,g2⟩:=f b _ _ h2
   exact h.inj a b _ _ _ _ g1 g2 he
  ·intro b _ hn
   have:ρ k≠b:=fun e=>hn ⟨k,el,ps,hk,e⟩
   simp only [World.putAt]
   rw [Array.getElem?_setIfInBounds_ne this]
  ·rintro b ⟨k',el',qs,h',rfl⟩
   rcases old k' el' qs h' with ⟨_,hk'⟩|⟨rfl,_,_⟩
   ·exact .inl ⟨k',_,_,hk',rfl⟩
   ·exact .inl ⟨k',_,_,hk,rfl⟩
theorem Step.move (h:HpRel ρ hp w) {k:Nat} {el el':TypeId} {ps:List SV} (hk:hp[k]?=some (.mk el ps)):
    Step ρ hp w (zf5 ρ hp.length (ρ k)) (hp.set k .dead++ [.mk el' ps]) w:=by
  have hkl:k<hp.length:=(List.getElem?_eq_some_iff.1 hk).1
  have hlen:(hp.set k Blk.dead++ [Blk.mk el' ps]).length=hp.length+1:=by simp
  have hc: ∀qs:List SV,okL (· <hp.length) qs→zh (zf5 ρ hp.length (ρ k)) qs=zh ρ qs:=fun qs hq=>
    xf (p:=(· <hp.length)) (fun k hk=>x7 hk) qs hq
  have old: ∀(x:Nat) (e:TypeId) (qs:List SV),(hp.set k Blk.dead++ [Blk.mk el' ps])[x]?=some (Blk.mk e qs)→(x<hp.length∧x≠k∧hp[x]?=some (Blk.mk e qs))∨(x=hp.length∧e=el'∧qs=ps):=by
    intro x e qs hx
    rcases Nat.lt_trichotomy x hp.length with hl|rfl|hl
    ·rw [List.getElem?_append_left (by simpa using hl)] at hx
     by_cases hxk:x=k
     ·subst hxk;rw [List.getElem?_set_self hl] at hx;cases hx
     ·rw [List.getElem?_set_ne (fun e=>hxk e.symm)] at hx;exact .inl ⟨hl,hxk,hx⟩
    ·rw [List.getElem?_append_right (by simp)] at hx;simp at hx;exact .inr ⟨rfl,hx.1.symm,hx.2.symm⟩
    ·rw [List.getElem?_eq_none (by simp;omega)] at hx;cases hx
  refine ⟨⟨?_,?_⟩,fun x hx=>x7 hx,by simp,Ext.refl _ _,?_⟩
  ·intro x e qs hx
   rcases old x e qs hx with ⟨hl,_,hx'⟩|⟨rfl,rfl,rfl⟩
   ·obtain ⟨h1,el2,fz,h2,h3⟩:=h.mem x e qs hx'
    exact ⟨ym (fun y hy=>by rw [hlen];exact Nat.lt_succ_of_lt hy) _ h1,el2,fz,by rw [x7 hl,hc _ h1,h2],by rw [hc _ h1];exact h3⟩
   ·obtain ⟨h1,el2,fz,h2,h3⟩:=h.mem k _ _ hk
    exact ⟨ym (fun y hy=>by rw [hlen];exact Nat.lt_succ_of_lt hy) _ h1,el2,fz,by rw [xk,hc _ h1,h2],by rw [hc _ h1];exact h3⟩
  ·intro x y e1 q1 e2 q2 h1 h2 he
   rcases old x e1 q1 h1 with ⟨hl,hn,hx⟩|⟨rfl,_,_⟩<;>rcases old y e2 q2 h2 with ⟨hl',hn',hy⟩|⟨rfl,_,_⟩
   ·rw [x7 hl,x7 hl'] at he;exact h.inj x y _ _ _ _ hx hy he
   ·rw [x7 hl,xk] at he;exact absurd (h.inj x k _ _ _ _ hx hk he) hn
   ·rw [x7 hl',xk] at he;exact absurd (h.inj y k _ _ _ _ hy hk he.symm) hn'
   ·rfl
  ·rintro b ⟨x,e,qs,hx,rfl⟩
   rcases old x e qs hx with ⟨hl,_,hx'⟩|⟨rfl,_,_⟩
   ·rw [x7 hl];exact .inl ⟨x,e,qs,hx',rfl⟩
   ·rw [xk];exact .inl ⟨k,el,ps,hk,rfl⟩
theorem Step.kill (h:HpRel ρ hp w) (k:Nat):Step ρ hp w ρ (hp.set k .dead) w:=by
  have old: ∀(k':Nat) (el':TypeId) (qs:List SV),(hp.set k Blk.dead)[k']?=some (Blk.mk el' qs)→hp[k']?=some (Blk.mk el' qs):=by
    intro k' el' qs h'
    by_cases e:k'=k
    ·subst e
     rw [List.getElem?_set] at h'
     split at h'
     ·split at h'<;>cases h'
     ·rename_i hne;exact absurd rfl hne
    ·rwa [List.getElem?_set_ne (fun x=>e x.symm)] at h'
  refine ⟨⟨fun k' el' qs h'=>?_,fun a b _ _ _ _ h1 h2 he=>h.inj a b _ _ _ _ (old _ _ _ h1) (old _ _ _ h2) he⟩,fun _ _=>rfl,by simp,Ext.refl _ _,?_⟩
  ·obtain ⟨h1,h2⟩:=h.mem k' el' qs (old _ _ _ h')
   exact ⟨by simpa using h1,h2⟩
  ·rintro b ⟨k',el',qs,h',rfl⟩
   exact .inl ⟨k',_,_,old _ _ _ h',rfl⟩
end steps
structure TmRel (nt:Nat) (ρ:Nat→Nat) (n:Nat) (tm:List (Nat×SV)) (a:Act):Prop where
  size:a.tmps.size=nt
  defers:a.defers= []
  val: ∀t v,yz tm t=some v→v.ok (· <n)∧a.tmps[t]?=some (v.den ρ)
theorem TmRel.later {nt:Nat} {ρ ρ':Nat→Nat} {n n':Nat} {tm:List (Nat×SV)} {a:Act} (h:TmRel nt ρ n tm a) (hs: ∀k,k<n→ρ' k=ρ k) (hn:n≤n'):TmRel nt ρ' n' tm a:=
  ⟨h.size,h.defers,fun t v hv=>by
    obtain ⟨h1,h2⟩:=h.val t v hv
    exact ⟨SV.ok_mono (fun k hk=>Nat.lt_of_lt_of_le hk hn) v h1,by rw [h2,SV.den_congr (p:=(· <n)) (fun k hk=>(hs k hk).symm) v h1]⟩⟩
theorem z0e {ρ:Nat→Nat} {p:Nat→Prop} {v:Value} {k:SV→Prop} (h:zm8 v k): ∃x:SV,k x∧x.ok p∧v=x.den ρ:=by
  unfold zm8 at h
  split at h
  ·exact ⟨_,h,trivial,rfl⟩
  ·exact ⟨_,h,trivial,rfl⟩
  ·split at h
   ·rename_i n _ e
    have hl:n<256:=Nat.le_of_ble_eq_true e
    refine ⟨_,h,trivial,?_⟩
    simp only [SV.den,UInt8.toNat_ofNat']
    rw [Nat.mod_eq_of_lt (show n<2^8 from hl)];rfl
   ·exact h.elim
  ·split at h
   ·rename_i n _ e
    have hl:n<65536:=Nat.le_of_ble_eq_true e
    refine ⟨_,h,trivial,?_⟩
    simp only [SV.den,UInt16.toNat_ofNat']
    rw [Nat.mod_eq_of_lt (show n<2^16 from hl)];rfl
   ·exact h.elim
  ·split at h
   ·rename_i n _ e
    have hl:n<4294967296:=Nat.le_of_ble_eq_true e
    refine ⟨_,h,trivial,?_⟩
    simp only [SV.den,UInt32.toNat_ofNat']
    rw [Nat.mod_eq_of_lt (show n<2^32 from hl)];rfl
   ·exact h.elim
  ·split at h
   ·rename_i n _ e
    have hl:n<18446744073709551616:=Nat.le_of_ble_eq_true e
    refine ⟨_,h,trivial,?_⟩
    simp only [SV.den,UInt64.toNat_ofNat']
    rw [Nat.mod_eq_of_lt (show n<2^64 from hl)];rfl
   ·exact h.elim
  ·exact ⟨_,h,trivial,rfl⟩
  ·exact ⟨_,h,trivial,rfl⟩
  ·exact ⟨_,h,trivial,rfl⟩
  ·exact ⟨_,h,trivial,rfl⟩
  ·exact ⟨_,h,trivial,rfl⟩
  ·exact h.elim
section
variable {nt:Nat} {ρ:Nat→Nat} {n:Nat} {tm:List (Nat×SV)} {a:Act}
theorem xu (h:TmRel nt ρ n tm a) {x:Operand} {k:SV→Prop} (hk:evK tm x k): ∃v:SV,v.ok (· <n)∧a.eval x=v.den ρ∧k v:=by
  unfold evK at hk
  split at hk
  ·obtain ⟨v,h1,h2⟩:=zz hk
   obtain ⟨h3,h4⟩:=h.val _ v h1
   exact ⟨v,h3,by simp [Act.eval,h4],h2⟩
  ·obtain ⟨v,h3,h1,h2⟩:=z0e (ρ:=ρ) (p:=(· <n)) hk
   exact ⟨v,h1,by simpa [Act.eval] using h2,h3⟩
  ·exact ⟨.func _ [],trivial,rfl,hk⟩
  ·exact hk.elim
theorem zua (h:TmRel nt ρ n tm a) {xs:List Operand} {k:List SV→Prop} (hk:zwn tm xs k): ∃vs:List SV,okL (· <n) vs∧xs.map a.eval=y3 ρ vs∧k vs:=by
  induction xs generalizing k with
  |nil=>exact ⟨[],trivial,rfl,hk⟩
  |cons x xs ih=>
   obtain ⟨v,h1,h2,h3⟩:=xu h hk
   obtain ⟨vs,g1,g2,g3⟩:=ih h3
   exact ⟨v ::vs,⟨h1,g1⟩,by simp [y3,h2,g2],g3⟩
theorem zn9 (h:TmRel nt ρ n tm a) {xs:List (Nat×Operand)} {k:List (Nat×SV)→Prop} (hk:zh9 tm xs k):
    ∃vs:List (Nat×SV),(∀p∈vs,p.2.ok (· <n))∧(xs.map fun p=>(p.1,a.eval p.2))=(vs.map fun p=>(p.1,p.2.den ρ))∧k vs:=by
  induction xs generalizing k with
  |nil=>exact ⟨[],by simp,rfl,hk⟩
  |cons x xs ih=>
   obtain ⟨i,x⟩:=x
   obtain ⟨v,h1,h2,h3⟩:=xu h hk
   obtain ⟨vs,g1,g2,g3⟩:=ih h3
   exact ⟨(i,v) ::vs,fun p hp=>by rcases List.mem_cons.1 hp with rfl|hp;exact h1;exact g1 p hp,by simp [h2,g2],g3⟩
end
def Ty.agg:Ty→Bool
  | .arr .. | .struct .. =>true
  |_=>false
def yn (P:Program) (t:TypeId) (i:TyI):Prop:=
  (∃info,P.info? t=some info∧info.size=i.sz∧info.bytes=i.bytes∧ ∀ρ,info.zero=some (i.zero.den ρ))∧
  (i.zero.ok (fun _=>False)∧(i.d.agg=false→i.sz=1)∧i.zero.size=i.sz)∧
  (match i.d with
   | .int k=>P.underlying t=some (.int k)
   | .bool=>P.underlying t=some .bool
   | .str=>P.underlying t=some .string
   | .ptr=> ∃e,P.underlying t=some (.pointer e)
   | .sl e=>P.underlying t=some (.slice e)
   | .arr n e=>P.underlying t=some (.array n e)
   | .struct fs=> ∃fields:Array Field,P.underlying t=some (.struct fields)∧(fields.toList.map fun f=>(f.offset,f.type))=fs∧ ∀f∈fields,f.name≠ "_"
   | .func=> ∃a b c,P.underlying t=some (.func a b c)
   | .iface=> ∃ms,P.underlying t=some (.interface ms)
   | .other=> ∃d,P.underlying t=some d∧(match d with| .struct _| .array _ _| .int _=>False|_=>True))∧
  (i.eqOk=true→P.stoodInHeld t=false∧P.eqGuardType P.depth t=false)
def zxx (K:SV→List Blk→Prop) (ρ:Nat→Nat) (hp:List Blk) (w:World) (r:SV) (ρ':Nat→Nat) (hp':List Blk) (w':World):Prop:=
  K r hp'∧r.ok (· <hp'.length)∧Step ρ hp w ρ' hp' w'
def zgn (P:Program) (f:FuncId) (args:Array Value) (ρ:Nat→Nat) (hp:List Blk) (w:World) (K:SV→List Blk→Prop):Prop:=
  (∃r ρ' hp' w',(callFunc f args).run P w= .ok (.value (r.den ρ')) w'∧zxx K ρ hp w r ρ' hp' w')∨
  ((callFunc f args).run P w= .ok (.enter f args) w∧Calls P f args w fun e w'=> ∃r ρ' hp',e= .returned (r.den ρ')∧zxx K ρ hp w r ρ' hp' w')
def zp (P:Program) (f:FuncId) (S:Spec):Prop:=
  ∀(args:List SV) (hp:List Blk) (K:SV→List Blk→Prop),S args hp K→ ∀(ρ:Nat→Nat) (w:World),HpRel ρ hp w→okL (· <hp.length) args→
   zgn P f (y3 ρ args).toArray ρ hp w K
structure CtxOK (P:Program) (Γ:Ctx):Prop where
  ty: ∀t i,yz Γ.ty t=some i→yn P t i
  fn: ∀f S,yz Γ.fn f=some S→zp P f S
  ext: ∀a t v,Γ.ext a t v→v.ok (fun _=>False)∧ ∀ρ w,Γ.E w→(loadVar t a).run P w= .ok (v.den ρ) w
theorem zgn.mono {P:Program} {f:FuncId} {args:Array Value} {ρ:Nat→Nat} {hp:List Blk} {w:World} {K K':SV→List Blk→Prop}
    {ρ1:Nat→Nat} {hp1:List Blk} (h:zgn P f args ρ hp w K)
    (hm: ∀r ρ' hp' w',zxx K ρ hp w r ρ' hp' w'→ ∃r1 ρ1' hp1',r1.den ρ1'=r.den ρ'∧zxx K' ρ1 hp1 w r1 ρ1' hp1' w'):zgn P f args ρ1 hp1 w K':=by
  rcases h with ⟨r,ρ',hp',w',h1,h2⟩|⟨h1,h2⟩
  ·obtain ⟨r1,ρ1',hp1',e,hp⟩:=hm r ρ' hp' w' h2
   exact .inl ⟨r1,ρ1',hp1',w',by rw [h1,e],hp⟩
  ·refine .inr ⟨h1,h2.mono fun e w' ⟨r,ρ',hp',he,hpost⟩=>?_⟩
   obtain ⟨r1,ρ1',hp1',e1,hp⟩:=hm r ρ' hp' w' hpost
   exact ⟨r1,ρ1',hp1',by rw [he,e1],hp⟩
end Go.Sym
