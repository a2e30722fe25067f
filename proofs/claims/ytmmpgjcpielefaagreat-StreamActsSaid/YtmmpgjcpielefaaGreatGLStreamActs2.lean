/-
  Contracts of functions of the program, each said of symbolic values, and plain laws; no condition beyond each statement's own.
-/
import Derived.Test.YtmmpgjcpielefaaGreatGLStreamActs1
import Derived.Laws.Strings
set_option linter.unusedSimpArgs false
set_option linter.unusedVariables false
namespace Go.Sym
theorem zao (n:Int) (h:ya n):IntKind.i64.wrap n=n:=by
  unfold ya at h
  simp [IntKind.wrap,IntKind.bits,IntKind.signed]
  split<;>omega
theorem zc4 (n:Int):IntKind.u8.wrap n=n%256:=by simp [IntKind.wrap,IntKind.bits,IntKind.signed]
theorem zw3 (a:UInt8):a.toNat<256:=a.toNat_lt
theorem zjg (n:Int):((UInt8.ofInt n).toNat:Int)=n%256:=by
  have h:(UInt8.ofInt n).toNat=(n%256).toNat%256:=by show (UInt8.ofNat (n%2^8).toNat).toNat=_;rw [UInt8.toNat_ofNat'];rfl
  omega
theorem bv8 (a:UInt8):BitVec.ofInt 8 (a.toNat:Int)=a.toBitVec:=by
  apply BitVec.eq_of_toNat_eq;simp
theorem ziw (a:UInt8):IntKind.u8.wrap (a.toNat:Int)=(a.toNat:Int):=by
  rw [zc4];have:=zw3 a;omega
theorem zb3 (n:Int):IntKind.u16.wrap n=n%65536:=by simp [IntKind.wrap,IntKind.bits,IntKind.signed]
theorem znh (a:UInt16):a.toNat<65536:=a.toNat_lt
theorem z5a (n:Int):((UInt16.ofInt n).toNat:Int)=n%65536:=by
  have h:(UInt16.ofInt n).toNat=(n%65536).toNat%65536:=by show (UInt16.ofNat (n%2^16).toNat).toNat=_;rw [UInt16.toNat_ofNat'];rfl
  omega
theorem zsu (a:UInt16):BitVec.ofInt 16 (a.toNat:Int)=a.toBitVec:=by
  apply BitVec.eq_of_toNat_eq;simp
theorem zfn (a:UInt16):IntKind.u16.wrap (a.toNat:Int)=(a.toNat:Int):=by
  rw [zb3];have:=znh a;omega
theorem zb6 (n:Int):IntKind.u32.wrap n=n%4294967296:=by simp [IntKind.wrap,IntKind.bits,IntKind.signed]
theorem zsd (a:UInt32):a.toNat<4294967296:=a.toNat_lt
theorem z6n (n:Int):((UInt32.ofInt n).toNat:Int)=n%4294967296:=by
  have h:(UInt32.ofInt n).toNat=(n%4294967296).toNat%4294967296:=by show (UInt32.ofNat (n%2^32).toNat).toNat=_;rw [UInt32.toNat_ofNat'];rfl
  omega
theorem zt7 (a:UInt32):BitVec.ofInt 32 (a.toNat:Int)=a.toBitVec:=by
  apply BitVec.eq_of_toNat_eq;simp
theorem zfy (a:UInt32):IntKind.u32.wrap (a.toNat:Int)=(a.toNat:Int):=by
  rw [zb6];have:=zsd a;omega
theorem zb2 (n:Int):IntKind.u64.wrap n=n%18446744073709551616:=by simp [IntKind.wrap,IntKind.bits,IntKind.signed]
theorem z0p (a:UInt64):a.toNat<18446744073709551616:=a.toNat_lt
theorem z52 (n:Int):((UInt64.ofInt n).toNat:Int)=n%18446744073709551616:=by
  have h:(UInt64.ofInt n).toNat=(n%18446744073709551616).toNat%18446744073709551616:=by show (UInt64.ofNat (n%2^64).toNat).toNat=_;rw [UInt64.toNat_ofNat'];rfl
  omega
theorem zt5 (a:UInt64):BitVec.ofInt 64 (a.toNat:Int)=a.toBitVec:=by
  apply BitVec.eq_of_toNat_eq;simp
theorem zfp (a:UInt64):IntKind.u64.wrap (a.toNat:Int)=(a.toNat:Int):=by
  rw [zb2];have:=z0p a;omega
section
variable {P:Program} {ρ:Nat→Nat}
def Num (P:Program) (ρ:Nat→Nat) (k:SV→Prop) (s:Sem Value):Prop:=
  ∃v:SV,k v∧(∀p,v.ok p)∧ ∀w,s.run P w= .ok (v.den ρ) w
theorem yfw {op:BinOp} {a b:Int} {k:SV→Prop} (t:TypeId) (h:yai op a b k):Num P ρ k (binOp op t (.int .i64 a) (.int .i64 b)):=by
  cases op<;>simp only [yai] at h
  case add=>exact ⟨_,(zq h).2,fun _=>trivial,fun w=>by simp [binOp,Op.intArith,SV.den,zao _ (zq h).1]⟩
  case sub=>exact ⟨_,(zq h).2,fun _=>trivial,fun w=>by simp [binOp,Op.intArith,SV.den,zao _ (zq h).1]⟩
  case mul=>exact ⟨_,(zq h).2,fun _=>trivial,fun w=>by simp [binOp,Op.intArith,SV.den,zao _ (zq h).1]⟩
  case quo=>exact ⟨_,(zq h).2,fun _=>trivial,fun w=>by simp [binOp,Op.intDiv,SV.den,(zq h).1.1,zao _ (zq h).1.2]⟩
  case rem=>exact ⟨_,(zq h).2,fun _=>trivial,fun w=>by simp [binOp,Op.intDiv,SV.den,(zq h).1]⟩
  case and=>exact ⟨_,h,fun _=>trivial,fun w=>rfl⟩
  case or=>exact ⟨_,h,fun _=>trivial,fun w=>rfl⟩
  case xor=>exact ⟨_,h,fun _=>trivial,fun w=>rfl⟩
  case andNot=>exact ⟨_,h,fun _=>trivial,fun w=>rfl⟩
  case eql=>exact ⟨_,h,fun _=>trivial,fun w=>by simp [binOp,Op.intCmp,SV.den];rw [Bool.eq_iff_iff];simp⟩
  case neq=>exact ⟨_,h,fun _=>trivial,fun w=>by simp [binOp,Op.intCmp,SV.den];rw [Bool.eq_iff_iff];simp⟩
  case lss=>exact ⟨_,h,fun _=>trivial,fun w=>by simp [binOp,Op.intCmp,SV.den]⟩
  case leq=>exact ⟨_,h,fun _=>trivial,fun w=>by simp [binOp,Op.intCmp,SV.den]⟩
  case gtr=>exact ⟨_,h,fun _=>trivial,fun w=>by simp [binOp,Op.intCmp,SV.den]⟩
  case geq=>exact ⟨_,h,fun _=>trivial,fun w=>by simp [binOp,Op.intCmp,SV.den]⟩
theorem ykc {op:BinOp} {a b:UInt8} {k:SV→Prop} (t:TypeId) (h:u8K op a b k):Num P ρ k (binOp op t (.int .u8 a.toNat) (.int .u8 b.toNat)):=by
  have ha:=zw3 a
  have hb:=zw3 b
  cases op<;>simp only [u8K] at h
  case add=>exact ⟨_,h,fun _=>trivial,fun w=>by simp [binOp,Op.intArith,SV.den,zc4]⟩
  case sub=>exact ⟨_,h,fun _=>trivial,fun w=>by simp [binOp,Op.intArith,SV.den,zc4,UInt8.toNat_sub];omega⟩
  case mul=>exact ⟨_,h,fun _=>trivial,fun w=>by simp [binOp,Op.intArith,SV.den,zc4]⟩
  case quo=>
    have h0:=(zq h).1
    have e:((a.toNat:Int).tdiv (b.toNat:Int))=((a/ b).toNat:Int):=by rw [UInt8.toNat_div];rfl
    have h1:(b.toNat:Int)≠0:=by omega
    exact ⟨_,(zq h).2,fun _=>trivial,fun w=>by simp only [binOp,Op.intDiv,if_neg h1,e,ziw,SV.den];rfl⟩
  case rem=>
    have h0:=(zq h).1
    have e:((a.toNat:Int).tmod (b.toNat:Int))=((a%b).toNat:Int):=by rw [UInt8.toNat_mod];rfl
    have h1:(b.toNat:Int)≠0:=by omega
    exact ⟨_,(zq h).2,fun _=>trivial,fun w=>by simp only [binOp,Op.intDiv,if_neg h1,e,SV.den];rfl⟩
  case and=>exact ⟨_,h,fun _=>trivial,fun w=>by
    show Result.ok (Value.int .u8 (IntKind.u8.wrap ((BitVec.ofInt 8 (a.toNat:Int)&&&BitVec.ofInt 8 (b.toNat:Int)).toNat:Int))) w=_
    rw [bv8,bv8];exact congrArg (fun x=>Result.ok (Value.int .u8 x) w) (ziw (a&&&b))⟩
  case or=>exact ⟨_,h,fun _=>trivial,fun w=>by
    show Result.ok (Value.int .u8 (IntKind.u8.wrap ((BitVec.ofInt 8 (a.toNat:Int)|||BitVec.ofInt 8 (b.toNat:Int)).toNat:Int))) w=_
    rw [bv8,bv8];exact congrArg (fun x=>Result.ok (Value.int .u8 x) w) (ziw (a|||b))⟩
  case xor=>exact ⟨_,h,fun _=>trivial,fun w=>by
    show Result.ok (Value.int .u8 (IntKind.u8.wrap ((BitVec.ofInt 8 (a.toNat:Int)^^^BitVec.ofInt 8 (b.toNat:Int)).toNat:Int))) w=_
    rw [bv8,bv8];exact congrArg (fun x=>Result.ok (Value.int .u8 x) w) (ziw (a^^^b))⟩
  case andNot=>exact ⟨_,h,fun _=>trivial,fun w=>by
    show Result.ok (Value.int .u8 (IntKind.u8.wrap ((BitVec.ofInt 8 (a.toNat:Int)&&& ~~~(BitVec.ofInt 8 (b.toNat:Int))).toNat:Int))) w=_
    rw [bv8,bv8];exact congrArg (fun x=>Result.ok (Value.int .u8 x) w) (ziw (a&&& ~~~b))⟩
  case eql=>exact ⟨_,h,fun _=>trivial,fun w=>by simp [binOp,Op.intCmp,SV.den];rw [Bool.eq_iff_iff];simp;exact ⟨fun e=>UInt8.toNat_inj.1 (by omega),fun e=>by rw [e]⟩⟩
  case neq=>exact ⟨_,h,fun _=>trivial,fun w=>by simp [binOp,Op.intCmp,SV.den];rw [Bool.eq_iff_iff];simp;exact not_congr ⟨fun e=>UInt8.toNat_inj.1 (by omega),fun e=>by rw [e]⟩⟩
  case lss=>exact ⟨_,h,fun _=>trivial,fun w=>by simp [binOp,Op.intCmp,SV.den,UInt8.lt_iff_toNat_lt]⟩
  case leq=>exact ⟨_,h,fun _=>trivial,fun w=>by simp [binOp,Op.intCmp,SV.den,UInt8.le_iff_toNat_le]⟩
  case gtr=>exact ⟨_,h,fun _=>trivial,fun w=>by simp [binOp,Op.intCmp,SV.den,UInt8.lt_iff_toNat_lt]⟩
  case geq=>exact ⟨_,h,fun _=>trivial,fun w=>by simp [binOp,Op.intCmp,SV.den,UInt8.le_iff_toNat_le]⟩
theorem yez {op:BinOp} {a b:UInt16} {k:SV→Prop} (t:TypeId) (h:ybp op a b k):Num P ρ k (binOp op t (.int .u16 a.toNat) (.int .u16 b.toNat)):=by
  have ha:=znh a
  have hb:=znh b
  cases op<;>simp only [ybp] at h
  case add=>exact ⟨_,h,fun _=>trivial,fun w=>by simp [binOp,Op.intArith,SV.den,zb3]⟩
  case sub=>exact ⟨_,h,fun _=>trivial,fun w=>by simp [binOp,Op.intArith,SV.den,zb3,UInt16.toNat_sub];omega⟩
  case mul=>exact ⟨_,h,fun _=>trivial,fun w=>by simp [binOp,Op.intArith,SV.den,zb3]⟩
  case quo=>
    have h0:=(zq h).1
    have e:((a.toNat:Int).tdiv (b.toNat:Int))=((a/ b).toNat:Int):=by rw [UInt16.toNat_div];rfl
    have h1:(b.toNat:Int)≠0:=by omega
    exact ⟨_,(zq h).2,fun _=>trivial,fun w=>by simp only [binOp,Op.intDiv,if_neg h1,e,zfn,SV.den];rfl⟩
  case rem=>
    have h0:=(zq h).1
    have e:((a.toNat:Int).tmod (b.toNat:Int))=((a%b).toNat:Int):=by rw [UInt16.toNat_mod];rfl
    have h1:(b.toNat:Int)≠0:=by omega
    exact ⟨_,(zq h).2,fun _=>trivial,fun w=>by simp only [binOp,Op.intDiv,if_neg h1,e,SV.den];rfl⟩
  case and=>exact ⟨_,h,fun _=>trivial,fun w=>by
    show Result.ok (Value.int .u16 (IntKind.u16.wrap ((BitVec.ofInt 16 (a.toNat:Int)&&&BitVec.ofInt 16 (b.toNat:Int)).toNat:Int))) w=_
    rw [zsu,zsu];exact congrArg (fun x=>Result.ok (Value.int .u16 x) w) (zfn (a&&&b))⟩
  case or=>exact ⟨_,h,fun _=>trivial,fun w=>by
    show Result.ok (Value.int .u16 (IntKind.u16.wrap ((BitVec.ofInt 16 (a.toNat:Int)|||BitVec.ofInt 16 (b.toNat:Int)).toNat:Int))) w=_
    rw [zsu,zsu];exact congrArg (fun x=>Result.ok (Value.int .u16 x) w) (zfn (a|||b))⟩
  case xor=>exact ⟨_,h,fun _=>trivial,fun w=>by
    show Result.ok (Value.int .u16 (IntKind.u16.wrap ((BitVec.ofInt 16 (a.toNat:Int)^^^BitVec.ofInt 16 (b.toNat:Int)).toNat:Int))) w=_
    rw [zsu,zsu];exact congrArg (fun x=>Result.ok (Value.int .u16 x) w) (zfn (a^^^b))⟩
  case andNot=>exact ⟨_,h,fun _=>trivial,fun w=>by
    show Result.ok (Value.int .u16 (IntKind.u16.wrap ((BitVec.ofInt 16 (a.toNat:Int)&&& ~~~(BitVec.ofInt 16 (b.toNat:Int))).toNat:Int))) w=_
    rw [zsu,zsu];exact congrArg (fun x=>Result.ok (Value.int .u16 x) w) (zfn (a&&& ~~~b))⟩
  case eql=>exact ⟨_,h,fun _=>trivial,fun w=>by simp [binOp,Op.intCmp,SV.den];rw [Bool.eq_iff_iff];simp;exact ⟨fun e=>UInt16.toNat_inj.1 (by omega),fun e=>by rw [e]⟩⟩
  case neq=>exact ⟨_,h,fun _=>trivial,fun w=>by simp [binOp,Op.intCmp,SV.den];rw [Bool.eq_iff_iff];simp;exact not_congr ⟨fun e=>UInt16.toNat_inj.1 (by omega),fun e=>by rw [e]⟩⟩
  case lss=>exact ⟨_,h,fun _=>trivial,fun w=>by simp [binOp,Op.intCmp,SV.den,UInt16.lt_iff_toNat_lt]⟩
  case leq=>exact ⟨_,h,fun _=>trivial,fun w=>by simp [binOp,Op.intCmp,SV.den,UInt16.le_iff_toNat_le]⟩
  case gtr=>exact ⟨_,h,fun _=>trivial,fun w=>by simp [binOp,Op.intCmp,SV.den,UInt16.lt_iff_toNat_lt]⟩
  case geq=>exact ⟨_,h,fun _=>trivial,fun w=>by simp [binOp,Op.intCmp,SV.den,UInt16.le_iff_toNat_le]⟩
theorem yd9 {op:BinOp} {a b:UInt32} {k:SV→Prop} (t:TypeId) (h:ydb op a b k):Num P ρ k (binOp op t (.int .u32 a.toNat) (.int .u32 b.toNat)):=by
  have ha:=zsd a
  have hb:=zsd b
  cases op<;>simp only [ydb] at h
  case add=>exact ⟨_,h,fun _=>trivial,fun w=>by simp [binOp,Op.intArith,SV.den,zb6]⟩
  case sub=>exact ⟨_,h,fun _=>trivial,fun w=>by simp [binOp,Op.intArith,SV.den,zb6,UInt32.toNat_sub];omega⟩
  case mul=>exact ⟨_,h,fun _=>trivial,fun w=>by simp [binOp,Op.intArith,SV.den,zb6]⟩
  case quo=>
    have h0:=(zq h).1
    have e:((a.toNat:Int).tdiv (b.toNat:Int))=((a/ b).toNat:Int):=by rw [UInt32.toNat_div];rfl
    have h1:(b.toNat:Int)≠0:=by omega
    exact ⟨_,(zq h).2,fun _=>trivial,fun w=>by simp only [binOp,Op.intDiv,if_neg h1,e,zfy,SV.den];rfl⟩
  case rem=>
    have h0:=(zq h).1
    have e:((a.toNat:Int).tmod (b.toNat:Int))=((a%b).toNat:Int):=by rw [UInt32.toNat_mod];rfl
    have h1:(b.toNat:Int)≠0:=by omega
    exact ⟨_,(zq h).2,fun _=>trivial,fun w=>by simp only [binOp,Op.intDiv,if_neg h1,e,SV.den];rfl⟩
  case and=>exact ⟨_,h,fun _=>trivial,fun w=>by
    show Result.ok (Value.int .u32 (IntKind.u32.wrap ((BitVec.ofInt 32 (a.toNat:Int)&&&BitVec.ofInt 32 (b.toNat:Int)).toNat:Int))) w=_
    rw [zt7,zt7];exact congrArg (fun x=>Result.ok (Value.int .u32 x) w) (zfy (a&&&b))⟩
  case or=>exact ⟨_,h,fun _=>trivial,fun w=>by
    show Result.ok (Value.int .u32 (IntKind.u32.wrap ((BitVec.ofInt 32 (a.toNat:Int)|||BitVec.ofInt 32 (b.toNat:Int)).toNat:Int))) w=_
    rw [zt7,zt7];exact congrArg (fun x=>Result.ok (Value.int .u32 x) w) (zfy (a|||b))⟩
  case xor=>exact ⟨_,h,fun _=>trivial,fun w=>by
    show Result.ok (Value.int .u32 (IntKind.u32.wrap ((BitVec.ofInt 32 (a.toNat:Int)^^^BitVec.ofInt 32 (b.toNat:Int)).toNat:Int))) w=_
    rw [zt7,zt7];exact congrArg (fun x=>Result.ok (Value.int .u32 x) w) (zfy (a^^^b))⟩
  case andNot=>exact ⟨_,h,fun _=>trivial,fun w=>by
    show Result.ok (Value.int .u32 (IntKind.u32.wrap ((BitVec.ofInt 32 (a.toNat:Int)&&& ~~~(BitVec.ofInt 32 (b.toNat:Int))).toNat:Int))) w=_
    rw [zt7,zt7];exact congrArg (fun x=>Result.ok (Value.int .u32 x) w) (zfy (a&&& ~~~b))⟩
  case eql=>exact ⟨_,h,fun _=>trivial,fun w=>by simp [binOp,Op.intCmp,SV.den];rw [Bool.eq_iff_iff];simp;exact ⟨fun e=>UInt32.toNat_inj.1 (by omega),fun e=>by rw [e]⟩⟩
  case neq=>exact ⟨_,h,fun _=>trivial,fun w=>by simp [binOp,Op.intCmp,SV.den];rw [Bool.eq_iff_iff];simp;exact not_congr ⟨fun e=>UInt32.toNat_inj.1 (by omega),fun e=>by rw [e]⟩⟩
  case lss=>exact ⟨_,h,fun _=>trivial,fun w=>by simp [binOp,Op.intCmp,SV.den,UInt32.lt_iff_toNat_lt]⟩
  case leq=>exact ⟨_,h,fun _=>trivial,fun w=>by simp [binOp,Op.intCmp,SV.den,UInt32.le_iff_toNat_le]⟩
  case gtr=>exact ⟨_,h,fun _=>trivial,fun w=>by simp [binOp,Op.intCmp,SV.den,UInt32.lt_iff_toNat_lt]⟩
  case geq=>exact ⟨_,h,fun _=>trivial,fun w=>by simp [binOp,Op.intCmp,SV.den,UInt32.le_iff_toNat_le]⟩
theorem yfy {op:BinOp} {a b:UInt64} {k:SV→Prop} (t:TypeId) (h:ya0 op a b k):Num P ρ k (binOp op t (.int .u64 a.toNat) (.int .u64 b.toNat)):=by
  have ha:=z0p a
  have hb:=z0p b
  cases op<;>simp only [ya0] at h
  case add=>exact ⟨_,h,fun _=>trivial,fun w=>by simp [binOp,Op.intArith,SV.den,zb2]⟩
  case sub=>exact ⟨_,h,fun _=>trivial,fun w=>by simp [binOp,Op.intArith,SV.den,zb2,UInt64.toNat_sub];omega⟩
  case mul=>exact ⟨_,h,fun _=>trivial,fun w=>by simp [binOp,Op.intArith,SV.den,zb2]⟩
  case quo=>
    have h0:=(zq h).1
    have e:((a.toNat:Int).tdiv (b.toNat:Int))=((a/ b).toNat:Int):=by rw [UInt64.toNat_div];rfl
    have h1:(b.toNat:Int)≠0:=by omega
    exact ⟨_,(zq h).2,fun _=>trivial,fun w=>by simp only [binOp,Op.intDiv,if_neg h1,e,zfp,SV.den];rfl⟩
  case rem=>
    have h0:=(zq h).1
    have e:((a.toNat:Int).tmod (b.toNat:Int))=((a%b).toNat:Int):=by rw [UInt64.toNat_mod];rfl
    have h1:(b.toNat:Int)≠0:=by omega
    exact ⟨_,(zq h).2,fun _=>trivial,fun w=>by simp only [binOp,Op.intDiv,if_neg h1,e,SV.den];rfl⟩
  case and=>exact ⟨_,h,fun _=>trivial,fun w=>by
    show Result.ok (Value.int .u64 (IntKind.u64.wrap ((BitVec.ofInt 64 (a.toNat:Int)&&&BitVec.ofInt 64 (b.toNat:Int)).toNat:Int))) w=_
    rw [zt5,zt5];exact congrArg (fun x=>Result.ok (Value.int .u64 x) w) (zfp (a&&&b))⟩
  case or=>exact ⟨_,h,fun _=>trivial,fun w=>by
    show Result.ok (Value.int .u64 (IntKind.u64.wrap ((BitVec.ofInt 64 (a.toNat:Int)|||BitVec.ofInt 64 (b.toNat:Int)).toNat:Int))) w=_
    rw [zt5,zt5];exact congrArg (fun x=>Result.ok (Value.int .u64 x) w) (zfp (a|||b))⟩
  case xor=>exact ⟨_,h,fun _=>trivial,fun w=>by
    show Result.ok (Value.int .u64 (IntKind.u64.wrap ((BitVec.ofInt 64 (a.toNat:Int)^^^BitVec.ofInt 64 (b.toNat:Int)).toNat:Int))) w=_
    rw [zt5,zt5];exact congrArg (fun x=>Result.ok (Value.int .u64 x) w) (zfp (a^^^b))⟩
  case andNot=>exact ⟨_,h,fun _=>trivial,fun w=>by
    show Result.ok (Value.int .u64 (IntKind.u64.wrap ((BitVec.ofInt 64 (a.toNat:Int)&&& ~~~(BitVec.ofInt 64 (b.toNat:Int))).toNat:Int))) w=_
    rw [zt5,zt5];exact congrArg (fun x=>Result.ok (Value.int .u64 x) w) (zfp (a&&& ~~~b))⟩
  case eql=>exact ⟨_,h,fun _=>trivial,fun w=>by simp [binOp,Op.intCmp,SV.den];rw [Bool.eq_iff_iff];simp;exact ⟨fun e=>UInt64.toNat_inj.1 (by omega),fun e=>by rw [e]⟩⟩
  case neq=>exact ⟨_,h,fun _=>trivial,fun w=>by simp [binOp,Op.intCmp,SV.den];rw [Bool.eq_iff_iff];simp;exact not_congr ⟨fun e=>UInt64.toNat_inj.1 (by omega),fun e=>by rw [e]⟩⟩
  case lss=>exact ⟨_,h,fun _=>trivial,fun w=>by simp [binOp,Op.intCmp,SV.den,UInt64.lt_iff_toNat_lt]⟩
  case leq=>exact ⟨_,h,fun _=>trivial,fun w=>by simp [binOp,Op.intCmp,SV.den,UInt64.le_iff_toNat_le]⟩
  case gtr=>exact ⟨_,h,fun _=>trivial,fun w=>by simp [binOp,Op.intCmp,SV.den,UInt64.lt_iff_toNat_lt]⟩
  case geq=>exact ⟨_,h,fun _=>trivial,fun w=>by simp [binOp,Op.intCmp,SV.den,UInt64.le_iff_toNat_le]⟩
theorem z9h {y:SV} {k:Nat→Prop} (h:z8w y k): ∃(yk:IntKind) (n:Int),0≤n∧y.den ρ= .int yk n∧k n.toNat:=by
  unfold z8w at h
  split at h
  ·exact ⟨.i64,_,(zq h).1,rfl,(zq h).2⟩
  ·exact ⟨.u8,_,by omega,rfl,h⟩
  ·exact ⟨.u16,_,by omega,rfl,h⟩
  ·exact ⟨.u32,_,by omega,rfl,h⟩
  ·exact ⟨.u64,_,by omega,rfl,h⟩
  ·exact h.elim
theorem zke (t:TypeId) (k yk:IntKind) (x n:Int) (h:0≤n) (hb:n.toNat<k.bits) (w:World):(binOp .shl t (.int k x) (.int yk n)).run P w= .ok (.int k (k.wrap (x*2^n.toNat))) w:=by
  have h0: ¬n<0:=by omega
  simp only [binOp,Op.shift,if_neg h0,Nat.min_eq_left (Nat.le_of_lt hb)];rfl
theorem zkp (t:TypeId) (k yk:IntKind) (x n:Int) (h:0≤n) (hb:n.toNat<k.bits) (w:World):(binOp .shr t (.int k x) (.int yk n)).run P w= .ok (.int k (x.fdiv (2^n.toNat))) w:=by
  have h0: ¬n<0:=by omega
  simp only [binOp,Op.shift,if_neg h0,Nat.min_eq_left (Nat.le_of_lt hb)];rfl
theorem yij (a:UInt8) (n:Nat) (h:n<8):((a.toNat:Int)*2^n)%256=((a<<<UInt8.ofNat n).toNat:Int):=by
  have e:(UInt8.ofNat n).toNat%8=n:=by rw [UInt8.toNat_ofNat'];omega
  rw [UInt8.toNat_shiftLeft,e,Nat.shiftLeft_eq,Int.natCast_emod,Int.natCast_mul,Int.natCast_pow]
  rfl
theorem yki (a:UInt8) (n:Nat) (h:n<8):(a.toNat:Int).fdiv (2^n)=((a>>>UInt8.ofNat n).toNat:Int):=by
  have e:(UInt8.ofNat n).toNat%8=n:=by rw [UInt8.toNat_ofNat'];omega
  rw [UInt8.toNat_shiftRight,e,Nat.shiftRight_eq_div_pow,Int.fdiv_eq_ediv_of_nonneg _ (Int.pow_nonneg (by omega)),Int.natCast_ediv,Int.natCast_pow]
  rfl
theorem ydy (a:UInt16) (n:Nat) (h:n<16):((a.toNat:Int)*2^n)%65536=((a<<<UInt16.ofNat n).toNat:Int):=by
  have e:(UInt16.ofNat n).toNat%16=n:=by rw [UInt16.toNat_ofNat'];omega
  rw [UInt16.toNat_shiftLeft,e,Nat.shiftLeft_eq,Int.natCast_emod,Int.natCast_mul,Int.natCast_pow]
  rfl
theorem yd6 (a:UInt16) (n:Nat) (h:n<16):(a.toNat:Int).fdiv (2^n)=((a>>>UInt16.ofNat n).toNat:Int):=by
  have e:(UInt16.ofNat n).toNat%16=n:=by rw [UInt16.toNat_ofNat'];omega
  rw [UInt16.toNat_shiftRight,e,Nat.shiftRight_eq_div_pow,Int.fdiv_eq_ediv_of_nonneg _ (Int.pow_nonneg (by omega)),Int.natCast_ediv,Int.natCast_pow]
  rfl
theorem ygp (a:UInt32) (n:Nat) (h:n<32):((a.toNat:Int)*2^n)%4294967296=((a<<<UInt32.ofNat n).toNat:Int):=by
  have e:(UInt32.ofNat n).toNat%32=n:=by rw [UInt32.toNat_ofNat'];omega
  rw [UInt32.toNat_shiftLeft,e,Nat.shiftLeft_eq,Int.natCast_emod,Int.natCast_mul,Int.natCast_pow]
  rfl
theorem yem (a:UInt32) (n:Nat) (h:n<32):(a.toNat:Int).fdiv (2^n)=((a>>>UInt32.ofNat n).toNat:Int):=by
  have e:(UInt32.ofNat n).toNat%32=n:=by rw [UInt32.toNat_ofNat'];omega
  rw [UInt32.toNat_shiftRight,e,Nat.shiftRight_eq_div_pow,Int.fdiv_eq_ediv_of_nonneg _ (Int.pow_nonneg (by omega)),Int.natCast_ediv,Int.natCast_pow]
  rfl
theorem yf1 (a:UInt64) (n:Nat) (h:n<64):((a.toNat:Int)*2^n)%18446744073709551616=((a<<<UInt64.ofNat n).toNat:Int):=by
  have e:(UInt64.ofNat n).toNat%64=n:=by rw [UInt64.toNat_ofNat'];omega
  rw [UInt64.toNat_shiftLeft,e,Nat.shiftLeft_eq,Int.natCast_emod,Int.natCast_mul,Int.natCast_pow]
  rfl
theorem yga (a:UInt64) (n:Nat) (h:n<64):(a.toNat:Int).fdiv (2^n)=((a>>>UInt64.ofNat n).toNat:Int):=by
  have e:(UInt64.ofNat n).toNat%64=n:=by rw [UInt64.toNat_ofNat'];omega
  rw [UInt64.toNat_shiftRight,e,Nat.shiftRight_eq_div_pow,Int.fdiv_eq_ediv_of_nonneg _ (Int.pow_nonneg (by omega)),Int.natCast_ediv,Int.natCast_pow]
  rfl
theorem yec {x y:SV} {k:SV→Prop} (t:TypeId) (h:yb6 x y k):Num P ρ k (binOp .shl t (x.den ρ) (y.den ρ)):=by
  unfold yb6 at h
  obtain ⟨yk,n,h0,hy,hk⟩:=z9h (ρ:=ρ) h
  rw [hy]
  split at hk
  ·obtain ⟨h1,h2⟩:=zq hk
   exact ⟨_,h2,fun _=>trivial,fun w=>by simp only [SV.den];rw [zke t _ _ _ _ h0 (by simpa [IntKind.bits] using h1.1),zao _ h1.2]⟩
  ·obtain ⟨h1,h2⟩:=zq hk
   exact ⟨_,h2,fun _=>trivial,fun w=>by simp only [SV.den];rw [zke t _ _ _ _ h0 (by simpa [IntKind.bits] using h1),zc4,yij _ _ h1]⟩
  ·obtain ⟨h1,h2⟩:=zq hk
   exact ⟨_,h2,fun _=>trivial,fun w=>by simp only [SV.den];rw [zke t _ _ _ _ h0 (by simpa [IntKind.bits] using h1),zb3,ydy _ _ h1]⟩
  ·obtain ⟨h1,h2⟩:=zq hk
   exact ⟨_,h2,fun _=>trivial,fun w=>by simp only [SV.den];rw [zke t _ _ _ _ h0 (by simpa [IntKind.bits] using h1),zb6,ygp _ _ h1]⟩
  ·obtain ⟨h1,h2⟩:=zq hk
   exact ⟨_,h2,fun _=>trivial,fun w=>by simp only [SV.den];rw [zke t _ _ _ _ h0 (by simpa [IntKind.bits] using h1),zb2,yf1 _ _ h1]⟩
  ·exact hk.elim
theorem ydv {x y:SV} {k:SV→Prop} (t:TypeId) (h:yck x y k):Num P ρ k (binOp .shr t (x.den ρ) (y.den ρ)):=by
  unfold yck at h
  obtain ⟨yk,n,h0,hy,hk⟩:=z9h (ρ:=ρ) h
  rw [hy]
  split at hk
  ·obtain ⟨h1,h2⟩:=zq hk
   exact ⟨_,h2,fun _=>trivial,fun w=>by
     simp only [SV.den];rw [zkp t _ _ _ _ h0 (by simpa [IntKind.bits] using h1),Int.fdiv_eq_ediv_of_nonneg _ (Int.pow_nonneg (by omega))]⟩
  ·obtain ⟨h1,h2⟩:=zq hk
   exact ⟨_,h2,fun _=>trivial,fun w=>by simp only [SV.den];rw [zkp t _ _ _ _ h0 (by simpa [IntKind.bits] using h1),yki _ _ h1]⟩
  ·obtain ⟨h1,h2⟩:=zq hk
   exact ⟨_,h2,fun _=>trivial,fun w=>by simp only [SV.den];rw [zkp t _ _ _ _ h0 (by simpa [IntKind.bits] using h1),yd6 _ _ h1]⟩
  ·obtain ⟨h1,h2⟩:=zq hk
   exact ⟨_,h2,fun _=>trivial,fun w=>by simp only [SV.den];rw [zkp t _ _ _ _ h0 (by simpa [IntKind.bits] using h1),yem _ _ h1]⟩
  ·obtain ⟨h1,h2⟩:=zq hk
   exact ⟨_,h2,fun _=>trivial,fun w=>by simp only [SV.den];rw [zkp t _ _ _ _ h0 (by simpa [IntKind.bits] using h1),yga _ _ h1]⟩
  ·exact hk.elim
theorem zr2 (l:List UInt8):(⟨l.toArray⟩:ByteArray).toList=l:=by rw [ByteArray.toList_eq]
theorem yf7 {op:BinOp} {a b:List UInt8} {k:SV→Prop} (t:TypeId) (h:yaa op a b k):Num P ρ k (binOp op t (.string ⟨a.toArray⟩) (.string ⟨b.toArray⟩)):=by
  cases op<;>simp only [yaa] at h
  case add=>
    obtain ⟨h1,h2⟩:=zq h
    refine ⟨_,h2,fun _=>trivial,fun w=>?_⟩
    have hs: ¬(((⟨a.toArray⟩:ByteArray).size+(⟨b.toArray⟩:ByteArray).size:Nat):Int)>IntKind.i64.max:=by
      have e1:(⟨a.toArray⟩:ByteArray).size=a.length:=by simp [ByteArray.size]
      have e2:(⟨b.toArray⟩:ByteArray).size=b.length:=by simp [ByteArray.size]
      have e3:IntKind.i64.max=9223372036854775807:=rfl
      rw [e1,e2,e3];omega
    simp only [binOp,Op.stringOp]
    rw [if_neg hs]
    show Result.ok (Value.string _) w=_
    congr 2
  case eql=>exact ⟨_,h,fun _=>trivial,fun w=>by simp [binOp,Op.stringOp,SV.den];rw [Bool.eq_iff_iff];simp⟩
  case neq=>exact ⟨_,h,fun _=>trivial,fun w=>by simp [binOp,Op.stringOp,SV.den];rw [Bool.eq_iff_iff];simp⟩
theorem yge {op:BinOp} {x y:SV} {k:SV→Prop} (t:TypeId) (h:z20 op x y k):Num P ρ k (binOp op t (x.den ρ) (y.den ρ)):=by
  unfold z20 at h
  split at h
  ·exact yec t h
  ·exact ydv t h
  ·split at h
   ·exact yfw t h
   ·exact ykc t h
   ·exact yez t h
   ·exact yd9 t h
   ·exact yfy t h
   ·exact yf7 t h
   ·exact h.elim
theorem ykb {op:UnOp} {x:SV} {k:SV→Prop} (h:unK op x k):Num P ρ k (Op.unary op (x.den ρ)):=by
  unfold unK at h
  split at h
  ·exact ⟨_,h,fun _=>trivial,fun w=>rfl⟩
  ·exact ⟨_,(zq h).2,fun _=>trivial,fun w=>by
     show Result.ok (Value.int .i64 (IntKind.i64.wrap (0-_))) w=_
     rw [zao _ (zq h).1];rfl⟩
  ·rename_i a;exact ⟨_,h,fun _=>trivial,fun w=>by
     show Result.ok (Value.int .u8 (IntKind.u8.wrap (0-(a.toNat:Int)))) w=_
     have ha:=zw3 a
     rw [zc4];simp [SV.den,UInt8.toNat_neg,UInt8.size];omega⟩
  ·rename_i a;exact ⟨_,h,fun _=>trivial,fun w=>by
     show Result.ok (Value.int .u16 (IntKind.u16.wrap (0-(a.toNat:Int)))) w=_
     have ha:=znh a
     rw [zb3];simp [SV.den,UInt16.toNat_neg,UInt16.size];omega⟩
  ·rename_i a;exact ⟨_,h,fun _=>trivial,fun w=>by
     show Result.ok (Value.int .u32 (IntKind.u32.wrap (0-(a.toNat:Int)))) w=_
     have ha:=zsd a
     rw [zb6];simp [SV.den,UInt32.toNat_neg,UInt32.size];omega⟩
  ·rename_i a;exact ⟨_,h,fun _=>trivial,fun w=>by
     show Result.ok (Value.int .u64 (IntKind.u64.wrap (0-(a.toNat:Int)))) w=_
     have ha:=z0p a
     rw [zb2];simp [SV.den,UInt64.toNat_neg,UInt64.size];omega⟩
  ·rename_i a;exact ⟨_,h,fun _=>trivial,fun w=>by
     show Result.ok (Value.int .u8 (IntKind.u8.wrap ((BitVec.ofInt 8 (IntKind.u8.max)^^^BitVec.ofInt 8 (a.toNat:Int)).toNat:Int))) w=_
     have e:BitVec.ofInt 8 (IntKind.u8.max)^^^a.toBitVec=(~~~a).toBitVec:=by
       have:BitVec.ofInt 8 (IntKind.u8.max)=BitVec.allOnes 8:=rfl
       rw [this,BitVec.allOnes_xor];rfl
     rw [bv8,e];exact congrArg (fun x=>Result.ok (Value.int .u8 x) w) (ziw (~~~a))⟩
  ·rename_i a;exact ⟨_,h,fun _=>trivial,fun w=>by
     show Result.ok (Value.int .u16 (IntKind.u16.wrap ((BitVec.ofInt 16 (IntKind.u16.max)^^^BitVec.ofInt 16 (a.toNat:Int)).toNat:Int))) w=_
     have e:BitVec.ofInt 16 (IntKind.u16.max)^^^a.toBitVec=(~~~a).toBitVec:=by
       have:BitVec.ofInt 16 (IntKind.u16.max)=BitVec.allOnes 16:=rfl
       rw [this,BitVec.allOnes_xor];rfl
     rw [zsu,e];exact congrArg (fun x=>Result.ok (Value.int .u16 x) w) (zfn (~~~a))⟩
  ·rename_i a;exact ⟨_,h,fun _=>trivial,fun w=>by
     show Result.ok (Value.int .u32 (IntKind.u32.wrap ((BitVec.ofInt 32 (IntKind.u32.max)^^^BitVec.ofInt 32 (a.toNat:Int)).toNat:Int))) w=_
     have e:BitVec.ofInt 32 (IntKind.u32.max)^^^a.toBitVec=(~~~a).toBitVec:=by
       have:BitVec.ofInt 32 (IntKind.u32.max)=BitVec.allOnes 32:=rfl
       rw [this,BitVec.allOnes_xor];rfl
     rw [zt7,e];exact congrArg (fun x=>Result.ok (Value.int .u32 x) w) (zfy (~~~a))⟩
  ·rename_i a;exact ⟨_,h,fun _=>trivial,fun w=>by
     show Result.ok (Value.int .u64 (IntKind.u64.wrap ((BitVec.ofInt 64 (IntKind.u64.max)^^^BitVec.ofInt 64 (a.toNat:Int)).toNat:Int))) w=_
     have e:BitVec.ofInt 64 (IntKind.u64.max)^^^a.toBitVec=(~~~a).toBitVec:=by
       have:BitVec.ofInt 64 (IntKind.u64.max)=BitVec.allOnes 64:=rfl
       rw [this,BitVec.allOnes_xor];rfl
     rw [zt5,e];exact congrArg (fun x=>Result.ok (Value.int .u64 x) w) (zfp (~~~a))⟩
  ·exact h.elim
theorem zp8 {d:IntKind} {x:SV} {k:SV→Prop} (h:zhi d x k): ∃(sk:IntKind) (n:Int),x.den ρ= .int sk n∧Num P ρ k (Conv.intToInt d n):=by
  unfold zhi at h
  split at h
  ·exact ⟨_,_,rfl,_,(zq h).2,fun _=>trivial,fun w=>by simp [Conv.intToInt,SV.den,zao _ (zq h).1]⟩
  ·rename_i a;exact ⟨_,_,rfl,_,h,fun _=>trivial,fun w=>by have:=zw3 a;simp [Conv.intToInt,SV.den];exact zao _ (by unfold ya;omega)⟩
  ·rename_i a;exact ⟨_,_,rfl,_,h,fun _=>trivial,fun w=>by have:=znh a;simp [Conv.intToInt,SV.den];exact zao _ (by unfold ya;omega)⟩
  ·rename_i a;exact ⟨_,_,rfl,_,h,fun _=>trivial,fun w=>by have:=zsd a;simp [Conv.intToInt,SV.den];exact zao _ (by unfold ya;omega)⟩
  ·exact ⟨_,_,rfl,_,(zq h).2,fun _=>trivial,fun w=>by have:=(zq h).1;simp [Conv.intToInt,SV.den];exact zao _ (by unfold ya;omega)⟩
  ·exact ⟨_,_,rfl,_,h,fun _=>trivial,fun w=>by
     simp only [Conv.intToInt,SV.den,zc4,zjg];rfl⟩
  ·exact ⟨_,_,rfl,_,h,fun _=>trivial,fun w=>by simp [Conv.intToInt,SV.den,ziw]⟩
  ·exact ⟨_,_,rfl,_,h,fun _=>trivial,fun w=>by simp [Conv.intToInt,SV.den,zc4]⟩
  ·exact ⟨_,_,rfl,_,h,fun _=>trivial,fun w=>by simp [Conv.intToInt,SV.den,zc4]⟩
  ·exact ⟨_,_,rfl,_,h,fun _=>trivial,fun w=>by simp [Conv.intToInt,SV.den,zc4]⟩
  ·exact ⟨_,_,rfl,_,h,fun _=>trivial,fun w=>by
     simp only [Conv.intToInt,SV.den,zb3,z5a];rfl⟩
  ·rename_i a;exact ⟨_,_,rfl,_,h,fun _=>trivial,fun w=>by have:=zw3 a;simp [Conv.intToInt,SV.den,zb3];omega⟩
  ·exact ⟨_,_,rfl,_,h,fun _=>trivial,fun w=>by simp [Conv.intToInt,SV.den,zfn]⟩
  ·exact ⟨_,_,rfl,_,h,fun _=>trivial,fun w=>by simp [Conv.intToInt,SV.den,zb3]⟩
  ·exact ⟨_,_,rfl,_,h,fun _=>trivial,fun w=>by simp [Conv.intToInt,SV.den,zb3]⟩
  ·exact ⟨_,_,rfl,_,h,fun _=>trivial,fun w=>by
     simp only [Conv.intToInt,SV.den,zb6,z6n];rfl⟩
  ·rename_i a;exact ⟨_,_,rfl,_,h,fun _=>trivial,fun w=>by have:=zw3 a;simp [Conv.intToInt,SV.den,zb6];omega⟩
  ·rename_i a;exact ⟨_,_,rfl,_,h,fun _=>trivial,fun w=>by have:=znh a;simp [Conv.intToInt,SV.den,zb6];omega⟩
  ·exact ⟨_,_,rfl,_,h,fun _=>trivial,fun w=>by simp [Conv.intToInt,SV.den,zfy]⟩
  ·exact ⟨_,_,rfl,_,h,fun _=>trivial,fun w=>by simp [Conv.intToInt,SV.den,zb6]⟩
  ·exact ⟨_,_,rfl,_,h,fun _=>trivial,fun w=>by
     simp only [Conv.intToInt,SV.den,zb2,z52];rfl⟩
  ·rename_i a;exact ⟨_,_,rfl,_,h,fun _=>trivial,fun w=>by have:=zw3 a;simp [Conv.intToInt,SV.den,zb2];omega⟩
  ·rename_i a;exact ⟨_,_,rfl,_,h,fun _=>trivial,fun w=>by have:=znh a;simp [Conv.intToInt,SV.den,zb2];omega⟩
  ·rename_i a;exact ⟨_,_,rfl,_,h,fun _=>trivial,fun w=>by have:=zsd a;simp [Conv.intToInt,SV.den,zb2];omega⟩
  ·exact ⟨_,_,rfl,_,h,fun _=>trivial,fun w=>by simp [Conv.intToInt,SV.den,zfp]⟩
  ·exact h.elim
end
end Go.Sym

namespace Go.Sym
section steps
variable {ρ:Nat→Nat} {hp:List Blk} {w:World}
theorem HpRel.lt (h:HpRel ρ hp w) {k:Nat} {el:TypeId} {ps:List SV} (hk:hp[k]?=some (.mk el ps)):ρ k<w.heap.size:=by
  obtain ⟨_,_,fz,h1,_⟩:=h.mem k el ps hk
  exact (Array.getElem?_eq_some_iff.1 h1).1
theorem Step.world (h:HpRel ρ hp w) {w':World} (hh:w'.heap=w.heap) (ho:w'.os=w.os) (hu:w'.output=w.output) (ht:w'.tape=w.tape):Step ρ hp w ρ hp w':=
  ⟨⟨fun k el ps hk=>by rw [hh];exact h.mem k el ps hk,h.inj⟩,fun _ _=>rfl,Nat.le_refl _,⟨by rw [hh];exact Nat.le_refl _,fun b _ _=>by rw [hh],ho,hu,ht⟩,fun _ h=> .inl h⟩
theorem Step.trans {ρ1 ρ2:Nat→Nat} {hp1 hp2:List Blk} {w1 w2:World} (h:Step ρ hp w ρ1 hp1 w1) (h':Step ρ1 hp1 w1 ρ2 hp2 w2):Step ρ hp w ρ2 hp2 w2:=
  ⟨h'.rel,fun k hk=>by rw [h'.same k (Nat.lt_of_lt_of_le hk h.le),h.same k hk],Nat.le_trans h.le h'.le,h.ext.trans h'.ext h.foot,
   fun b hb=>(h'.foot b hb).elim (fun hb=>h.foot b hb) (fun hl=> .inr (Nat.le_trans h.ext.size hl))⟩
def zg9 (ρ:Nat→Nat) (n b:Nat):Nat→Nat:=fun k=>if k=n then b else ρ k
theorem zav {n b k:Nat} (h:k<n):zg9 ρ n b k=ρ k:=by unfold zg9;rw [if_neg (by omega)]
theorem x7 {n b:Nat}:zg9 ρ n b n=b:=by unfold zg9;rw [if_pos rfl]
theorem Step.alloc (h:HpRel ρ hp w) {el el0:TypeId} {ps:List SV} (hps:okL (· <hp.length) ps) {w':World} {fz:Nat×Nat}
    (hh:w'.heap=w.heap.push (.cells (zw ρ ps).toArray el0 fz)) (hf:fz.2≤fz.1∨(zw ρ ps).length≤fz.1)
    (ho:w'.os=w.os) (hu:w'.output=w.output) (ht:w'.tape=w.tape):
    Step ρ hp w (zg9 ρ hp.length w.heap.size) (hp++ [.mk el ps]) w':=by
  have hlen:(hp++ [Blk.mk el ps]).length=hp.length+1:=by simp
  have hc: ∀qs:List SV,okL (· <hp.length) qs→zw (zg9 ρ hp.length w.heap.size) qs=zw ρ qs:=fun qs hq=>
    xy (p:=(· <hp.length)) (fun k hk=>zav hk) qs hq
  have old: ∀(k:Nat) (el':TypeId) (ps':List SV),(hp++ [Blk.mk el ps])[k]?=some (Blk.mk el' ps')→k<hp.length∧hp[k]?=some (Blk.mk el' ps')∨k=hp.length∧el'=el∧ps'=ps:=by
    intro k el' ps' hk
    rcases Nat.lt_trichotomy k hp.length with hl|rfl|hl
    ·rw [List.getElem?_append_left hl] at hk;exact .inl ⟨hl,hk⟩
    ·simp at hk;exact .inr ⟨rfl,hk.1.symm,hk.2.symm⟩
    ·rw [List.getElem?_eq_none (by simp;omega)] at hk;cases hk
  refine ⟨⟨?_,?_⟩,fun k hk=>zav hk,by simp,⟨by rw [hh];simp,?_,ho,hu,ht⟩,?_⟩
  ·intro k el' ps' hk
   rcases old k el' ps' hk with ⟨hl,hk'⟩|⟨rfl,rfl,rfl⟩
   ·obtain ⟨h1,el2,fz',h2,h3⟩:=h.mem k el' ps' hk'
    refine ⟨yz (fun x hx=>by rw [hlen];exact Nat.lt_succ_of_lt hx) _ h1,el2,fz',?_,?_⟩
    ·rw [zav hl,hh,Array.getElem?_push,if_neg (Nat.ne_of_lt (h.lt hk')),hc _ h1,h2]
    ·rw [hc _ h1];exact h3
   ·refine ⟨yz (fun x hx=>by rw [hlen];exact Nat.lt_succ_of_lt hx) _ hps,el0,fz,?_,?_⟩
    ·rw [x7,hh,hc _ hps];simp
    ·rw [hc _ hps];exact hf
  ·intro k k' el1 ps1 el2 ps2 h1 h2 he
   rcases old k el1 ps1 h1 with ⟨hl,hk⟩|⟨rfl,_,_⟩<;>rcases old k' el2 ps2 h2 with ⟨hl',hk'⟩|⟨rfl,_,_⟩
   ·rw [zav hl,zav hl'] at he;exact h.inj k k' _ _ _ _ hk hk' he
   ·rw [zav hl,x7] at he;exact absurd he (Nat.ne_of_lt (h.lt hk))
   ·rw [zav hl',x7] at he;exact absurd he.symm (Nat.ne_of_lt (h.lt hk'))
   ·rfl
  ·intro b hb _
   rw [hh,Array.getElem?_push,if_neg (Nat.ne_of_lt hb)]
  ·rintro b ⟨k,el',ps',hk,rfl⟩
   rcases old k el' ps' hk with ⟨hl,hk'⟩|⟨rfl,_,_⟩
   ·rw [zav hl];exact .inl ⟨k,el',ps',hk',rfl⟩
   ·rw [x7];exact .inr (Nat.le_refl _)
theorem Step.write (h:HpRel ρ hp w) {k:Nat} {el el0:TypeId} {ps ps':List SV} (hk:hp[k]?=some (.mk el ps)) (hps:okL (· <hp.length) ps') {fz:Nat×Nat}
    (hf:fz.2≤fz.1∨(zw ρ ps').length≤fz.1):Step ρ hp w ρ (hp.set k (.mk el ps')) (World.putAt w (ρ k) (.cells (zw ρ ps').toArray el0 fz)):=by
  have hkl:k<hp.length:=(List.getElem?_eq_some_iff.1 hk).1
  have old: ∀(k':Nat) (el':TypeId) (qs:List SV),(hp.set k (Blk.mk el ps'))[k']?=some (Blk.mk el' qs)→k'≠k∧hp[k']?=some (Blk.mk el' qs)∨k'=k∧el'=el∧qs=ps':=by
    intro k' el' qs h'
    by_cases e:k'=k
    ·subst e;rw [List.getElem?_set_self hkl] at h';simp at h';exact .inr ⟨rfl,h'.1.symm,h'.2.symm⟩
    ·rw [List.getElem?_set_ne (fun x=>e x.symm)] at h';exact .inl ⟨e,h'⟩
  refine ⟨⟨?_,?_⟩,fun _ _=>rfl,by simp,⟨by simp [World.putAt],?_,rfl,rfl,rfl⟩,?_⟩
  ·intro k' el' qs h'
   rcases old k' el' qs h' with ⟨hne,hk'⟩|⟨rfl,rfl,rfl⟩
   ·obtain ⟨h1,el2,fz',h2,h3⟩:=h.mem k' el' qs hk'
    refine ⟨by simpa using h1,el2,fz',?_,h3⟩
    have:ρ k≠ρ k':=fun e=>hne (h.inj k' k _ _ _ _ hk' hk e.symm)
    simp only [World.putAt]
    rw [Array.getElem?_setIfInBounds_ne this];exact h2
   ·refine ⟨by simpa using hps,el0,fz,?_,hf⟩
    simp [World.putAt,h.lt hk]
  ·intro a b el1 ps1 el2 ps2 h1 h2 he
   have f: ∀(k':Nat) (el':TypeId) (qs:List SV),(hp.set k (Blk.mk el ps'))[k']?=some (Blk.mk el' qs)→ ∃(e:TypeId) (q:List SV),hp[k']?=some (Blk.mk e q):=fun k' el' qs h'=>by
     rcases old k' el' qs h' with ⟨_,hk'⟩|⟨rfl,_,_⟩
     ·exact ⟨_,_,hk'⟩
     ·exact ⟨_,_,hk⟩
   obtain ⟨_,_,g1⟩:=f a _ _ h1
   obtain ⟨_,_,g2⟩:=f b _ _ h2
   exact h.inj a b _ _ _ _ g1 g2 he
  ·intro b _ hn
   have:ρ k≠b:=fun e=>hn ⟨k,el,ps,hk,e⟩
   simp only [World.putAt]
   rw [Array.getElem?_setIfInBounds_ne this]
  ·rintro b ⟨k',el',qs,h',rfl⟩
   rcases old k' el' qs h' with ⟨_,hk'⟩|⟨rfl,_,_⟩
   ·exact .inl ⟨k',_,_,hk',rfl⟩
   ·exact .inl ⟨k',_,_,hk,rfl⟩
theorem Step.move (h:HpRel ρ hp w) {k:Nat} {el el':TypeId} {ps:List SV} (hk:hp[k]?=some (.mk el ps)):
    Step ρ hp w (zg9 ρ hp.length (ρ k)) (hp.set k .dead++ [.mk el' ps]) w:=by
  have hkl:k<hp.length:=(List.getElem?_eq_some_iff.1 hk).1
  have hlen:(hp.set k Blk.dead++ [Blk.mk el' ps]).length=hp.length+1:=by simp
  have hc: ∀qs:List SV,okL (· <hp.length) qs→zw (zg9 ρ hp.length (ρ k)) qs=zw ρ qs:=fun qs hq=>
    xy (p:=(· <hp.length)) (fun k hk=>zav hk) qs hq
  have old: ∀(x:Nat) (e:TypeId) (qs:List SV),(hp.set k Blk.dead++ [Blk.mk el' ps])[x]?=some (Blk.mk e qs)→(x<hp.length∧x≠k∧hp[x]?=some (Blk.mk e qs))∨(x=hp.length∧e=el'∧qs=ps):=by
    intro x e qs hx
    rcases Nat.lt_trichotomy x hp.length with hl|rfl|hl
    ·rw [List.getElem?_append_left (by simpa using hl)] at hx
     by_cases hxk:x=k
     ·subst hxk;rw [List.getElem?_set_self hl] at hx;cases hx
     ·rw [List.getElem?_set_ne (fun e=>hxk e.symm)] at hx;exact .inl ⟨hl,hxk,hx⟩
    ·rw [List.getElem?_append_right (by simp)] at hx;simp at hx;exact .inr ⟨rfl,hx.1.symm,hx.2.symm⟩
    ·rw [List.getElem?_eq_none (by simp;omega)] at hx;cases hx
  refine ⟨⟨?_,?_⟩,fun x hx=>zav hx,by simp,Ext.refl _ _,?_⟩
  ·intro x e qs hx
   rcases old x e qs hx with ⟨hl,_,hx'⟩|⟨rfl,rfl,rfl⟩
   ·obtain ⟨h1,el2,fz,h2,h3⟩:=h.mem x e qs hx'
    exact ⟨yz (fun y hy=>by rw [hlen];exact Nat.lt_succ_of_lt hy) _ h1,el2,fz,by rw [zav hl,hc _ h1,h2],by rw [hc _ h1];exact h3⟩
   ·obtain ⟨h1,el2,fz,h2,h3⟩:=h.mem k _ _ hk
    exact ⟨yz (fun y hy=>by rw [hlen];exact Nat.lt_succ_of_lt hy) _ h1,el2,fz,by rw [x7,hc _ h1,h2],by rw [hc _ h1];exact h3⟩
  ·intro x y e1 q1 e2 q2 h1 h2 he
   rcases old x e1 q1 h1 with ⟨hl,hn,hx⟩|⟨rfl,_,_⟩<;>rcases old y e2 q2 h2 with ⟨hl',hn',hy⟩|⟨rfl,_,_⟩
   ·rw [zav hl,zav hl'] at he;exact h.inj x y _ _ _ _ hx hy he
   ·rw [zav hl,x7] at he;exact absurd (h.inj x k _ _ _ _ hx hk he) hn
   ·rw [zav hl',x7] at he;exact absurd (h.inj y k _ _ _ _ hy hk he.symm) hn'
   ·rfl
  ·rintro b ⟨x,e,qs,hx,rfl⟩
   rcases old x e qs hx with ⟨hl,_,hx'⟩|⟨rfl,_,_⟩
   ·rw [zav hl];exact .inl ⟨x,e,qs,hx',rfl⟩
   ·rw [x7];exact .inl ⟨k,el,ps,hk,rfl⟩
theorem Step.kill (h:HpRel ρ hp w) (k:Nat):Step ρ hp w ρ (hp.set k .dead) w:=by
  have old: ∀(k':Nat) (el':TypeId) (qs:List SV),(hp.set k Blk.dead)[k']?=some (Blk.mk el' qs)→hp[k']?=some (Blk.mk el' qs):=by
    intro k' el' qs h'
    by_cases e:k'=k
    ·subst e
     rw [List.getElem?_set] at h'
     split at h'
     ·split at h'<;>cases h'
     ·rename_i hne;exact absurd rfl hne
    ·rwa [List.getElem?_set_ne (fun x=>e x.symm)] at h'
  refine ⟨⟨fun k' el' qs h'=>?_,fun a b _ _ _ _ h1 h2 he=>h.inj a b _ _ _ _ (old _ _ _ h1) (old _ _ _ h2) he⟩,fun _ _=>rfl,by simp,Ext.refl _ _,?_⟩
  ·obtain ⟨h1,h2⟩:=h.mem k' el' qs (old _ _ _ h')
   exact ⟨by simpa using h1,h2⟩
  ·rintro b ⟨k',el',qs,h',rfl⟩
   exact .inl ⟨k',_,_,old _ _ _ h',rfl⟩
end steps
structure TmRel (nt:Nat) (ρ:Nat→Nat) (n:Nat) (tm:List (Nat×SV)) (a:Act):Prop where
  size:a.tmps.size=nt
  defers:a.defers= []
  val: ∀t v,y8 tm t=some v→v.ok (· <n)∧a.tmps[t]?=some (v.den ρ)
theorem TmRel.later {nt:Nat} {ρ ρ':Nat→Nat} {n n':Nat} {tm:List (Nat×SV)} {a:Act} (h:TmRel nt ρ n tm a) (hs: ∀k,k<n→ρ' k=ρ k) (hn:n≤n'):TmRel nt ρ' n' tm a:=
  ⟨h.size,h.defers,fun t v hv=>by
    obtain ⟨h1,h2⟩:=h.val t v hv
    exact ⟨SV.ok_mono (fun k hk=>Nat.lt_of_lt_of_le hk hn) v h1,by rw [h2,SV.den_congr (p:=(· <n)) (fun k hk=>(hs k hk).symm) v h1]⟩⟩
theorem z7q {ρ:Nat→Nat} {p:Nat→Prop} {v:Value} {k:SV→Prop} (h:znx v k): ∃x:SV,k x∧x.ok p∧v=x.den ρ:=by
  unfold znx at h
  split at h
  ·exact ⟨_,h,trivial,rfl⟩
  ·exact ⟨_,h,trivial,rfl⟩
  ·split at h
   ·rename_i n _ e
    have hl:n<256:=Nat.le_of_ble_eq_true e
    refine ⟨_,h,trivial,?_⟩
    simp only [SV.den,UInt8.toNat_ofNat']
    rw [Nat.mod_eq_of_lt (show n<2^8 from hl)];rfl
   ·exact h.elim
  ·split at h
   ·rename_i n _ e
    have hl:n<65536:=Nat.le_of_ble_eq_true e
    refine ⟨_,h,trivial,?_⟩
    simp only [SV.den,UInt16.toNat_ofNat']
    rw [Nat.mod_eq_of_lt (show n<2^16 from hl)];rfl
   ·exact h.elim
  ·split at h
   ·rename_i n _ e
    have hl:n<4294967296:=Nat.le_of_ble_eq_true e
    refine ⟨_,h,trivial,?_⟩
    simp only [SV.den,UInt32.toNat_ofNat']
    rw [Nat.mod_eq_of_lt (show n<2^32 from hl)];rfl
   ·exact h.elim
  ·split at h
   ·rename_i n _ e
    have hl:n<18446744073709551616:=Nat.le_of_ble_eq_true e
    refine ⟨_,h,trivial,?_⟩
    simp only [SV.den,UInt64.toNat_ofNat']
    rw [Nat.mod_eq_of_lt (show n<2^64 from hl)];rfl
   ·exact h.elim
  ·exact ⟨_,h,trivial,rfl⟩
  ·exact ⟨_,h,trivial,rfl⟩
  ·exact ⟨_,h,trivial,rfl⟩
  ·exact ⟨_,h,trivial,rfl⟩
  ·exact ⟨_,h,trivial,rfl⟩
  ·exact h.elim
section
variable {nt:Nat} {ρ:Nat→Nat} {n:Nat} {tm:List (Nat×SV)} {a:Act}
theorem zal (h:TmRel nt ρ n tm a) {x:Operand} {k:SV→Prop} (hk:evK tm x k): ∃v:SV,v.ok (· <n)∧a.eval x=v.den ρ∧k v:=by
  unfold evK at hk
  split at hk
  ·obtain ⟨v,h1,h2⟩:=yd hk
   obtain ⟨h3,h4⟩:=h.val _ v h1
   exact ⟨v,h3,by simp [Act.eval,h4],h2⟩
  ·obtain ⟨v,h3,h1,h2⟩:=z7q (ρ:=ρ) (p:=(· <n)) hk
   exact ⟨v,h1,by simpa [Act.eval] using h2,h3⟩
  ·exact ⟨.func _ [],trivial,rfl,hk⟩
  ·exact hk.elim
theorem zx4 (h:TmRel nt ρ n tm a) {xs:List Operand} {k:List SV→Prop} (hk:z34 tm xs k): ∃vs:List SV,okL (· <n) vs∧xs.map a.eval=xf ρ vs∧k vs:=by
  induction xs generalizing k with
  |nil=>exact ⟨[],trivial,rfl,hk⟩
  |cons x xs ih=>
   obtain ⟨v,h1,h2,h3⟩:=zal h hk
   obtain ⟨vs,g1,g2,g3⟩:=ih h3
   exact ⟨v ::vs,⟨h1,g1⟩,by simp [xf,h2,g2],g3⟩
theorem zsh (h:TmRel nt ρ n tm a) {xs:List (Nat×Operand)} {k:List (Nat×SV)→Prop} (hk:zkt tm xs k):
    ∃vs:List (Nat×SV),(∀p∈vs,p.2.ok (· <n))∧(xs.map fun p=>(p.1,a.eval p.2))=(vs.map fun p=>(p.1,p.2.den ρ))∧k vs:=by
  induction xs generalizing k with
  |nil=>exact ⟨[],by simp,rfl,hk⟩
  |cons x xs ih=>
   obtain ⟨i,x⟩:=x
   obtain ⟨v,h1,h2,h3⟩:=zal h hk
   obtain ⟨vs,g1,g2,g3⟩:=ih h3
   exact ⟨(i,v) ::vs,fun p hp=>by rcases List.mem_cons.1 hp with rfl|hp;exact h1;exact g1 p hp,by simp [h2,g2],g3⟩
end
def Ty.agg:Ty→Bool
  | .arr .. | .struct .. =>true
  |_=>false
def yt (P:Program) (t:TypeId) (i:TyI):Prop:=
  (∃info,P.info? t=some info∧info.size=i.sz∧info.bytes=i.bytes∧ ∀ρ,info.zero=some (i.zero.den ρ))∧
  (i.zero.ok (fun _=>False)∧(i.d.agg=false→i.sz=1)∧i.zero.size=i.sz)∧
  (match i.d with
   | .int k=>P.underlying t=some (.int k)
   | .bool=>P.underlying t=some .bool
   | .str=>P.underlying t=some .string
   | .ptr=> ∃e,P.underlying t=some (.pointer e)
   | .sl e=>P.underlying t=some (.slice e)
   | .arr n e=>P.underlying t=some (.array n e)
   | .struct fs=> ∃fields:Array Field,P.underlying t=some (.struct fields)∧(fields.toList.map fun f=>(f.offset,f.type))=fs∧ ∀f∈fields,f.name≠ "_"
   | .func=> ∃a b c,P.underlying t=some (.func a b c)
   | .iface=> ∃ms,P.underlying t=some (.interface ms)
   | .other=> ∃d,P.underlying t=some d∧(match d with| .struct _| .array _ _| .int _=>False|_=>True))∧
  (i.eqOk=true→P.stoodInHeld t=false∧P.eqGuardType P.depth t=false)
def z30 (K:SV→List Blk→Prop) (ρ:Nat→Nat) (hp:List Blk) (w:World) (r:SV) (ρ':Nat→Nat) (hp':List Blk) (w':World):Prop:=
  K r hp'∧r.ok (· <hp'.length)∧Step ρ hp w ρ' hp' w'
def zh6 (P:Program) (f:FuncId) (args:Array Value) (ρ:Nat→Nat) (hp:List Blk) (w:World) (K:SV→List Blk→Prop):Prop:=
  (∃r ρ' hp' w',(callFunc f args).run P w= .ok (.value (r.den ρ')) w'∧z30 K ρ hp w r ρ' hp' w')∨
  ((callFunc f args).run P w= .ok (.enter f args) w∧Calls P f args w fun e w'=> ∃r ρ' hp',e= .returned (r.den ρ')∧z30 K ρ hp w r ρ' hp' w')
def zp (P:Program) (f:FuncId) (S:Spec):Prop:=
  ∀(args:List SV) (hp:List Blk) (K:SV→List Blk→Prop),S args hp K→ ∀(ρ:Nat→Nat) (w:World),HpRel ρ hp w→okL (· <hp.length) args→
   zh6 P f (xf ρ args).toArray ρ hp w K
structure CtxOK (P:Program) (Γ:Ctx):Prop where
  ty: ∀t i,y8 Γ.ty t=some i→yt P t i
  fn: ∀f S,y8 Γ.fn f=some S→zp P f S
  ext: ∀a t v,Γ.ext a t v→v.ok (fun _=>False)∧ ∀ρ w,Γ.E w→(loadVar t a).run P w= .ok (v.den ρ) w
theorem zh6.mono {P:Program} {f:FuncId} {args:Array Value} {ρ:Nat→Nat} {hp:List Blk} {w:World} {K K':SV→List Blk→Prop}
    {ρ1:Nat→Nat} {hp1:List Blk} (h:zh6 P f args ρ hp w K)
    (hm: ∀r ρ' hp' w',z30 K ρ hp w r ρ' hp' w'→ ∃r1 ρ1' hp1',r1.den ρ1'=r.den ρ'∧z30 K' ρ1 hp1 w r1 ρ1' hp1' w'):zh6 P f args ρ1 hp1 w K':=by
  rcases h with ⟨r,ρ',hp',w',h1,h2⟩|⟨h1,h2⟩
  ·obtain ⟨r1,ρ1',hp1',e,hp⟩:=hm r ρ' hp' w' h2
   exact .inl ⟨r1,ρ1',hp1',w',by rw [h1,e],hp⟩
  ·refine .inr ⟨h1,h2.mono fun e w' ⟨r,ρ',hp',he,hpost⟩=>?_⟩
   obtain ⟨r1,ρ1',hp1',e1,hp⟩:=hm r ρ' hp' w' hpost
   exact ⟨r1,ρ1',hp1',by rw [he,e1],hp⟩
end Go.Sym
