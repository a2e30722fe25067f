/-
  Contracts of functions of the program, each said of symbolic values, and plain laws; no condition beyond each statement's own.
-/
import Derived.Test.YtmmpgjcpielefaaGreatG17
import Derived.Test.YtmmpgjcpielefaaGreatRows
set_option linter.unusedSimpArgs false
set_option linter.unusedVariables false
namespace Go.Sym.Z
open Go.Proofs.Tryz
set_option maxRecDepth 100000
def ty2:TyI:=⟨(.int .i64),1,8,(.int 0),false⟩
def ty3:TyI:=⟨(.int .i64),1,8,(.int 0),false⟩
theorem zda:yx prog 3 ty3:=⟨⟨_,yh Go.Proofs.Tryz.typeInfo3,rfl,rfl,fun _=>rfl⟩,⟨by simp [ty3,SV.ok,okL],by simp [ty3,Ty.agg],by simp [ty3,SV.size,yf]⟩,Go.Proofs.Tryz.underlying3,fun h=>by cases h⟩
def ty4:TyI:=⟨.bool,1,1,(.bool false),false⟩
theorem zc8:yx prog 4 ty4:=⟨⟨_,yh Go.Proofs.Tryz.typeInfo4,rfl,rfl,fun _=>rfl⟩,⟨by simp [ty4,SV.ok,okL],by simp [ty4,Ty.agg],by simp [ty4,SV.size,yf]⟩,Go.Proofs.Tryz.underlying4,fun h=>by cases h⟩
def ty5:TyI:=⟨(.int .u8),1,1,(.u8 0),false⟩
theorem zc9:yx prog 5 ty5:=⟨⟨_,yh Go.Proofs.Tryz.typeInfo5,rfl,rfl,fun _=>rfl⟩,⟨by simp [ty5,SV.ok,okL],by simp [ty5,Ty.agg],by simp [ty5,SV.size,yf]⟩,Go.Proofs.Tryz.underlying5,fun h=>by cases h⟩
def ty9:TyI:=⟨.str,1,16,(.str []),false⟩
theorem zdf:yx prog 9 ty9:=⟨⟨_,yh Go.Proofs.Tryz.typeInfo9,rfl,rfl,fun _=>rfl⟩,⟨by simp [ty9,SV.ok,okL],by simp [ty9,Ty.agg],by simp [ty9,SV.size,yf]⟩,Go.Proofs.Tryz.underlying9,fun h=>by cases h⟩
def z1n:TyI:=⟨(.sl 33),1,24,(.nilsl),false⟩
def zkf:TyI:=⟨.ptr,1,8,(.nilptr),false⟩
theorem zsu:yx prog 23 zkf:=⟨⟨_,yh Go.Proofs.Tryz.typeInfo23,rfl,rfl,fun _=>rfl⟩,⟨by simp [zkf,SV.ok,okL],by simp [zkf,Ty.agg],by simp [zkf,SV.size,yf]⟩,⟨_,Go.Proofs.Tryz.underlying23⟩,fun h=>by cases h⟩
def z15:TyI:=⟨(.int .i64),1,8,(.int 0),false⟩
def z08:TyI:=⟨.ptr,1,8,(.nilptr),false⟩
def z16:TyI:=⟨(.struct [(0,3),(1,9),(2,3),(3,9),(4,3),(5,4)]),6,64,(.agg [.int 0,.str [],.int 0,.str [],.int 0,.bool false]),true⟩
def z1k:TyI:=⟨(.struct [(0,3),(1,9),(2,3),(3,9),(4,3),(5,4)]),6,64,(.agg [.int 0,.str [],.int 0,.str [],.int 0,.bool false]),true⟩
def z1c:TyI:=⟨(.struct [(0,3),(1,9)]),2,24,(.agg [.int 0,.str []]),true⟩
def zkx:TyI:=⟨(.struct [(0,3),(1,9)]),2,24,(.agg [.int 0,.str []]),true⟩
theorem zre:yx prog 43 zkx:=⟨⟨_,yh Go.Proofs.Tryz.typeInfo43,rfl,rfl,fun _=>rfl⟩,⟨by simp [zkx,SV.ok,okL],by simp [zkx,Ty.agg],by simp [zkx,SV.size,yf]⟩,⟨_,Go.Proofs.Tryz.underlying43,rfl,by decide⟩,fun _=>⟨by decide+kernel,Go.Proofs.Tryz.eqGuardType43⟩⟩
def zd3:TyI:=⟨(.int .u64),1,8,(.u64 0),false⟩
theorem zbq:yx prog 48 zd3:=⟨⟨_,yh Go.Proofs.Tryz.typeInfo48,rfl,rfl,fun _=>rfl⟩,⟨by simp [zd3,SV.ok,okL],by simp [zd3,Ty.agg],by simp [zd3,SV.size,yf]⟩,Go.Proofs.Tryz.underlying48,fun h=>by cases h⟩
def zd6:TyI:=⟨(.sl 5),1,24,(.nilsl),false⟩
theorem zbr:yx prog 51 zd6:=⟨⟨_,yh Go.Proofs.Tryz.typeInfo51,rfl,rfl,fun _=>rfl⟩,⟨by simp [zd6,SV.ok,okL],by simp [zd6,Ty.agg],by simp [zd6,SV.size,yf]⟩,Go.Proofs.Tryz.underlying51,fun h=>by cases h⟩
def z0n:TyI:=⟨.ptr,1,8,(.nilptr),false⟩
def z09:TyI:=⟨(.sl 3),1,24,(.nilsl),false⟩
def z1w:TyI:=⟨(.sl 63),1,24,(.nilsl),false⟩
def z1a:TyI:=⟨(.struct [(0,3),(1,9),(2,3),(3,9),(4,3),(5,4)]),6,64,(.agg [.int 0,.str [],.int 0,.str [],.int 0,.bool false]),true⟩
def z1v:TyI:=⟨(.sl 9),1,24,(.nilsl),false⟩
def zk3:TyI:=⟨.ptr,1,8,(.nilptr),false⟩
theorem zsg:yx prog 68 zk3:=⟨⟨_,yh Go.Proofs.Tryz.typeInfo68,rfl,rfl,fun _=>rfl⟩,⟨by simp [zk3,SV.ok,okL],by simp [zk3,Ty.agg],by simp [zk3,SV.size,yf]⟩,⟨_,Go.Proofs.Tryz.underlying68⟩,fun h=>by cases h⟩
def z1l:TyI:=⟨(.struct [(0,3),(1,68)]),2,16,(.agg [.int 0,.nilptr]),true⟩
def zkk:TyI:=⟨(.struct [(0,3),(1,68)]),2,16,(.agg [.int 0,.nilptr]),true⟩
theorem zs8:yx prog 70 zkk:=⟨⟨_,yh Go.Proofs.Tryz.typeInfo70,rfl,rfl,fun _=>rfl⟩,⟨by simp [zkk,SV.ok,okL],by simp [zkk,Ty.agg],by simp [zkk,SV.size,yf]⟩,⟨_,Go.Proofs.Tryz.underlying70,rfl,by decide⟩,fun _=>⟨by decide+kernel,Go.Proofs.Tryz.eqGuardType70⟩⟩
def z1h:TyI:=⟨(.struct [(0,70),(2,68),(3,9),(4,3)]),5,48,(.agg [.int 0,.nilptr,.nilptr,.str [],.int 0]),true⟩
def zkg:TyI:=⟨(.struct [(0,70),(2,68),(3,9),(4,3)]),5,48,(.agg [.int 0,.nilptr,.nilptr,.str [],.int 0]),true⟩
theorem zsa:yx prog 74 zkg:=⟨⟨_,yh Go.Proofs.Tryz.typeInfo74,rfl,rfl,fun _=>rfl⟩,⟨by simp [zkg,SV.ok,okL],by simp [zkg,Ty.agg],by simp [zkg,SV.size,yf]⟩,⟨_,Go.Proofs.Tryz.underlying74,rfl,by decide⟩,fun _=>⟨by decide+kernel,Go.Proofs.Tryz.eqGuardType74⟩⟩
def z14:TyI:=⟨(.struct [(0,3),(1,9),(2,9),(3,3),(4,4)]),5,56,(.agg [.int 0,.str [],.str [],.int 0,.bool false]),true⟩
def zn9:TyI:=⟨(.struct [(0,3),(1,9),(2,9),(3,3),(4,4)]),5,56,(.agg [.int 0,.str [],.str [],.int 0,.bool false]),true⟩
theorem z8z:yx prog 76 zn9:=⟨⟨_,yh Go.Proofs.Tryz.typeInfo76,rfl,rfl,fun _=>rfl⟩,⟨by simp [zn9,SV.ok,okL],by simp [zn9,Ty.agg],by simp [zn9,SV.size,yf]⟩,⟨_,Go.Proofs.Tryz.underlying76,rfl,by decide⟩,fun _=>⟨by decide+kernel,Go.Proofs.Tryz.eqGuardType76⟩⟩
def z1y:TyI:=⟨(.struct [(0,3),(1,3),(2,76),(7,76),(12,9),(13,3)]),14,152,(.agg [.int 0,.int 0,.int 0,.str [],.str [],.int 0,.bool false,.int 0,.str [],.str [],.int 0,.bool false,.str [],.int 0]),true⟩
def z1d:TyI:=⟨(.struct [(0,3),(1,3),(2,76),(7,76),(12,9),(13,3)]),14,152,(.agg [.int 0,.int 0,.int 0,.str [],.str [],.int 0,.bool false,.int 0,.str [],.str [],.int 0,.bool false,.str [],.int 0]),true⟩
def z02:TyI:=⟨.ptr,1,8,(.nilptr),false⟩
def zz6:TyI:=⟨(.struct [(0,70),(2,68),(3,93),(4,3)]),5,40,(.agg [.int 0,.nilptr,.nilptr,.nilptr,.int 0]),true⟩
def z00:TyI:=⟨(.struct [(0,70),(2,68),(3,93),(4,3)]),5,40,(.agg [.int 0,.nilptr,.nilptr,.nilptr,.int 0]),true⟩
def xm:TyI:=⟨(.int .u64),1,8,(.u64 0),false⟩
theorem zcx:yx prog 99 xm:=⟨⟨_,yh Go.Proofs.Tryz.typeInfo99,rfl,rfl,fun _=>rfl⟩,⟨by simp [xm,SV.ok,okL],by simp [xm,Ty.agg],by simp [xm,SV.size,yf]⟩,Go.Proofs.Tryz.underlying99,fun h=>by cases h⟩
def zp5:TyI:=⟨(.struct [(0,3),(1,9),(2,9),(3,3)]),4,48,(.agg [.int 0,.str [],.str [],.int 0]),true⟩
def ze6:TyI:=⟨(.struct [(0,3),(1,9),(2,9),(3,3)]),4,48,(.agg [.int 0,.str [],.str [],.int 0]),true⟩
theorem zn5:yx prog 103 ze6:=⟨⟨_,yh Go.Proofs.Tryz.typeInfo103,rfl,rfl,fun _=>rfl⟩,⟨by simp [ze6,SV.ok,okL],by simp [ze6,Ty.agg],by simp [ze6,SV.size,yf]⟩,⟨_,Go.Proofs.Tryz.underlying103,rfl,by decide⟩,fun _=>⟨by decide+kernel,Go.Proofs.Tryz.eqGuardType103⟩⟩
def zen:TyI:=⟨.ptr,1,8,(.nilptr),false⟩
theorem zoz:yx prog 104 zen:=⟨⟨_,yh Go.Proofs.Tryz.typeInfo104,rfl,rfl,fun _=>rfl⟩,⟨by simp [zen,SV.ok,okL],by simp [zen,Ty.agg],by simp [zen,SV.size,yf]⟩,⟨_,Go.Proofs.Tryz.underlying104⟩,fun h=>by cases h⟩
def xu:TyI:=⟨(.int .u32),1,4,(.u32 0),false⟩
theorem zbh:yx prog 113 xu:=⟨⟨_,yh Go.Proofs.Tryz.typeInfo113,rfl,rfl,fun _=>rfl⟩,⟨by simp [xu,SV.ok,okL],by simp [xu,Ty.agg],by simp [xu,SV.size,yf]⟩,Go.Proofs.Tryz.underlying113,fun h=>by cases h⟩
def zg2:TyI:=⟨(.sl 148),1,24,(.nilsl),false⟩
theorem z4f:yx prog 116 zg2:=⟨⟨_,yh Go.Proofs.Tryz.typeInfo116,rfl,rfl,fun _=>rfl⟩,⟨by simp [zg2,SV.ok,okL],by simp [zg2,Ty.agg],by simp [zg2,SV.size,yf]⟩,Go.Proofs.Tryz.underlying116,fun h=>by cases h⟩
def zqp:TyI:=⟨(.struct [(0,51),(1,3),(2,3)]),3,40,(.agg [.nilsl,.int 0,.int 0]),false⟩
def zq1:TyI:=⟨(.struct [(0,51),(1,3),(2,3)]),3,40,(.agg [.nilsl,.int 0,.int 0]),false⟩
def zqk:TyI:=⟨(.struct [(0,51),(1,51)]),2,48,(.agg [.nilsl,.nilsl]),false⟩
def zhp:TyI:=⟨(.struct [(0,51),(1,51)]),2,48,(.agg [.nilsl,.nilsl]),false⟩
theorem z3s:yx prog 132 zhp:=⟨⟨_,yh Go.Proofs.Tryz.typeInfo132,rfl,rfl,fun _=>rfl⟩,⟨by simp [zhp,SV.ok,okL],by simp [zhp,Ty.agg],by simp [zhp,SV.size,yf]⟩,⟨_,Go.Proofs.Tryz.underlying132,rfl,by decide⟩,fun h=>by cases h⟩
def zf6:TyI:=⟨.ptr,1,8,(.nilptr),false⟩
theorem ztl:yx prog 134 zf6:=⟨⟨_,yh Go.Proofs.Tryz.typeInfo134,rfl,rfl,fun _=>rfl⟩,⟨by simp [zf6,SV.ok,okL],by simp [zf6,Ty.agg],by simp [zf6,SV.size,yf]⟩,⟨_,Go.Proofs.Tryz.underlying134⟩,fun h=>by cases h⟩
def zqz:TyI:=⟨(.struct [(0,9),(1,9),(2,134)]),3,40,(.agg [.str [],.str [],.nilptr]),true⟩
def zgo:TyI:=⟨(.struct [(0,9),(1,9),(2,134)]),3,40,(.agg [.str [],.str [],.nilptr]),true⟩
theorem z2i:yx prog 136 zgo:=⟨⟨_,yh Go.Proofs.Tryz.typeInfo136,rfl,rfl,fun _=>rfl⟩,⟨by simp [zgo,SV.ok,okL],by simp [zgo,Ty.agg],by simp [zgo,SV.size,yf]⟩,⟨_,Go.Proofs.Tryz.underlying136,rfl,by decide⟩,fun _=>⟨by decide+kernel,Go.Proofs.Tryz.eqGuardType136⟩⟩
def zgp:TyI:=⟨.func,1,8,(.nilfn),false⟩
theorem z19:yx prog 143 zgp:=⟨⟨_,yh Go.Proofs.Tryz.typeInfo143,rfl,rfl,fun _=>rfl⟩,⟨by simp [zgp,SV.ok,okL],by simp [zgp,Ty.agg],by simp [zgp,SV.size,yf]⟩,⟨_,_,_,Go.Proofs.Tryz.underlying143⟩,fun h=>by cases h⟩
def zan:TyI:=⟨(.arr 4 5),4,4,(.arr8 4 [0,0,0,0]),true⟩
theorem z29:yx prog 148 zan:=⟨⟨_,yh Go.Proofs.Tryz.typeInfo148,rfl,rfl,fun _=>rfl⟩,⟨by simp [zan,SV.ok,okL],by simp [zan,Ty.agg],by simp [zan,SV.size,yf]⟩,Go.Proofs.Tryz.underlying148,fun _=>⟨by decide+kernel,Go.Proofs.Tryz.eqGuardType148⟩⟩
def zgg:TyI:=⟨(.arr 16 113),16,64,(.arr32 16 (List.replicate 16 0)),true⟩
theorem z7f:yx prog 164 zgg:=⟨⟨_,yh Go.Proofs.Tryz.typeInfo164,rfl,rfl,fun _=>rfl⟩,⟨by simp [zgg,SV.ok,okL],by simp [zgg,Ty.agg],by simp [zgg,SV.size,yf]⟩,Go.Proofs.Tryz.underlying164,fun _=>⟨by decide+kernel,Go.Proofs.Tryz.eqGuardType164⟩⟩
def zg9:TyI:=⟨(.arr 5 99),5,40,(.arr64 5 [0,0,0,0,0]),true⟩
theorem z3x:yx prog 167 zg9:=⟨⟨_,yh Go.Proofs.Tryz.typeInfo167,rfl,rfl,fun _=>rfl⟩,⟨by simp [zg9,SV.ok,okL],by simp [zg9,Ty.agg],by simp [zg9,SV.size,yf]⟩,Go.Proofs.Tryz.underlying167,fun _=>⟨by decide+kernel,Go.Proofs.Tryz.eqGuardType167⟩⟩
def zea:TyI:=⟨(.arr 16 5),16,16,(.arr8 16 (List.replicate 16 0)),true⟩
theorem zjg:yx prog 168 zea:=⟨⟨_,yh Go.Proofs.Tryz.typeInfo168,rfl,rfl,fun _=>rfl⟩,⟨by simp [zea,SV.ok,okL],by simp [zea,Ty.agg],by simp [zea,SV.size,yf]⟩,Go.Proofs.Tryz.underlying168,fun _=>⟨by decide+kernel,Go.Proofs.Tryz.eqGuardType168⟩⟩
def zeu:TyI:=⟨.ptr,1,8,(.nilptr),false⟩
theorem zot:yx prog 178 zeu:=⟨⟨_,yh Go.Proofs.Tryz.typeInfo178,rfl,rfl,fun _=>rfl⟩,⟨by simp [zeu,SV.ok,okL],by simp [zeu,Ty.agg],by simp [zeu,SV.size,yf]⟩,⟨_,Go.Proofs.Tryz.underlying178⟩,fun h=>by cases h⟩
def zqn:TyI:=⟨(.struct [(0,99),(1,99)]),2,16,(.agg [.u64 0,.u64 0]),true⟩
def zcc:TyI:=⟨(.struct [(0,99),(1,99)]),2,16,(.agg [.u64 0,.u64 0]),true⟩
theorem zvg:yx prog 183 zcc:=⟨⟨_,yh Go.Proofs.Tryz.typeInfo183,rfl,rfl,fun _=>rfl⟩,⟨by simp [zcc,SV.ok,okL],by simp [zcc,Ty.agg],by simp [zcc,SV.size,yf]⟩,⟨_,Go.Proofs.Tryz.underlying183,rfl,by decide⟩,fun _=>⟨by decide+kernel,Go.Proofs.Tryz.eqGuardType183⟩⟩
def zqa:TyI:=⟨(.struct [(0,178),(1,183)]),3,24,(.agg [.nilptr,.u64 0,.u64 0]),true⟩
def zfz:TyI:=⟨(.struct [(0,178),(1,183)]),3,24,(.agg [.nilptr,.u64 0,.u64 0]),true⟩
theorem zul:yx prog 186 zfz:=⟨⟨_,yh Go.Proofs.Tryz.typeInfo186,rfl,rfl,fun _=>rfl⟩,⟨by simp [zfz,SV.ok,okL],by simp [zfz,Ty.agg],by simp [zfz,SV.size,yf]⟩,⟨_,Go.Proofs.Tryz.underlying186,rfl,by decide⟩,fun _=>⟨by decide+kernel,Go.Proofs.Tryz.eqGuardType186⟩⟩
def zgj:TyI:=⟨(.arr 64 5),64,64,(.arr8 64 (List.replicate 64 0)),true⟩
theorem z6a:yx prog 187 zgj:=⟨⟨_,yh Go.Proofs.Tryz.typeInfo187,rfl,rfl,fun _=>rfl⟩,⟨by simp [zgj,SV.ok,okL],by simp [zgj,Ty.agg],by simp [zgj,SV.size,yf]⟩,Go.Proofs.Tryz.underlying187,fun _=>⟨by decide+kernel,Go.Proofs.Tryz.eqGuardType187⟩⟩
def zgi:TyI:=⟨(.arr 16 113),16,64,(.arr32 16 (List.replicate 16 0)),true⟩
theorem z4a:yx prog 188 zgi:=⟨⟨_,yh Go.Proofs.Tryz.typeInfo188,rfl,rfl,fun _=>rfl⟩,⟨by simp [zgi,SV.ok,okL],by simp [zgi,Ty.agg],by simp [zgi,SV.size,yf]⟩,Go.Proofs.Tryz.underlying188,fun _=>⟨by decide+kernel,Go.Proofs.Tryz.eqGuardType188⟩⟩
def zho:TyI:=⟨.ptr,1,8,(.nilptr),false⟩
theorem z4n:yx prog 193 zho:=⟨⟨_,yh Go.Proofs.Tryz.typeInfo193,rfl,rfl,fun _=>rfl⟩,⟨by simp [zho,SV.ok,okL],by simp [zho,Ty.agg],by simp [zho,SV.size,yf]⟩,⟨_,Go.Proofs.Tryz.underlying193⟩,fun h=>by cases h⟩
def zha:TyI:=⟨.ptr,1,8,(.nilptr),false⟩
theorem z2w:yx prog 195 zha:=⟨⟨_,yh Go.Proofs.Tryz.typeInfo195,rfl,rfl,fun _=>rfl⟩,⟨by simp [zha,SV.ok,okL],by simp [zha,Ty.agg],by simp [zha,SV.size,yf]⟩,⟨_,Go.Proofs.Tryz.underlying195⟩,fun h=>by cases h⟩
def zgz:TyI:=⟨(.arr 16 183),32,256,(.arr64 32 (List.replicate 32 0)),true⟩
theorem z5o:yx prog 198 zgz:=⟨⟨_,yh Go.Proofs.Tryz.typeInfo198,rfl,rfl,fun _=>rfl⟩,⟨by simp [zgz,SV.ok,okL],by simp [zgz,Ty.agg],by simp [zgz,SV.size,yf]⟩,Go.Proofs.Tryz.underlying198,fun _=>⟨by decide+kernel,Go.Proofs.Tryz.eqGuardType198⟩⟩
def zhl:TyI:=⟨(.arr 16 99),16,128,(.arr64 16 (List.replicate 16 0)),true⟩
theorem z6e:yx prog 199 zhl:=⟨⟨_,yh Go.Proofs.Tryz.typeInfo199,rfl,rfl,fun _=>rfl⟩,⟨by simp [zhl,SV.ok,okL],by simp [zhl,Ty.agg],by simp [zhl,SV.size,yf]⟩,Go.Proofs.Tryz.underlying199,fun _=>⟨by decide+kernel,Go.Proofs.Tryz.eqGuardType199⟩⟩
def zqf:TyI:=⟨(.struct [(0,198),(32,199),(48,183)]),50,400,(.agg [.arr64 32 (List.replicate 32 0),.arr64 16 (List.replicate 16 0),.u64 0,.u64 0]),true⟩
def zg8:TyI:=⟨(.struct [(0,198),(32,199),(48,183)]),50,400,(.agg [.arr64 32 (List.replicate 32 0),.arr64 16 (List.replicate 16 0),.u64 0,.u64 0]),true⟩
theorem z5h:yx prog 201 zg8:=⟨⟨_,yh Go.Proofs.Tryz.typeInfo201,rfl,rfl,fun _=>rfl⟩,⟨by simp [zg8,SV.ok,okL],by simp [zg8,Ty.agg],by simp [zg8,SV.size,yf]⟩,⟨_,Go.Proofs.Tryz.underlying201,rfl,by decide⟩,fun _=>⟨by decide+kernel,Go.Proofs.Tryz.eqGuardType201⟩⟩
def zfv:TyI:=⟨.ptr,1,8,(.nilptr),false⟩
theorem zt1:yx prog 207 zfv:=⟨⟨_,yh Go.Proofs.Tryz.typeInfo207,rfl,rfl,fun _=>rfl⟩,⟨by simp [zfv,SV.ok,okL],by simp [zfv,Ty.agg],by simp [zfv,SV.size,yf]⟩,⟨_,Go.Proofs.Tryz.underlying207⟩,fun h=>by cases h⟩
def zqb:TyI:=⟨(.struct [(0,207),(1,207)]),2,16,(.agg [.nilptr,.nilptr]),true⟩
def zhf:TyI:=⟨(.struct [(0,207),(1,207)]),2,16,(.agg [.nilptr,.nilptr]),true⟩
theorem z6p:yx prog 209 zhf:=⟨⟨_,yh Go.Proofs.Tryz.typeInfo209,rfl,rfl,fun _=>rfl⟩,⟨by simp [zhf,SV.ok,okL],by simp [zhf,Ty.agg],by simp [zhf,SV.size,yf]⟩,⟨_,Go.Proofs.Tryz.underlying209,rfl,by decide⟩,fun _=>⟨by decide+kernel,Go.Proofs.Tryz.eqGuardType209⟩⟩
def zej:TyI:=⟨(.arr 256 5),256,256,(.arr8 256 (List.replicate 256 0)),true⟩
theorem zn4:yx prog 212 zej:=⟨⟨_,yh Go.Proofs.Tryz.typeInfo212,rfl,rfl,fun _=>rfl⟩,⟨by simp [zej,SV.ok,okL],by simp [zej,Ty.agg],by simp [zej,SV.size,yf]⟩,Go.Proofs.Tryz.underlying212,fun _=>⟨by decide+kernel,Go.Proofs.Tryz.eqGuardType212⟩⟩
def zew:TyI:=⟨(.sl 168),1,24,(.nilsl),false⟩
theorem zna:yx prog 214 zew:=⟨⟨_,yh Go.Proofs.Tryz.typeInfo214,rfl,rfl,fun _=>rfl⟩,⟨by simp [zew,SV.ok,okL],by simp [zew,Ty.agg],by simp [zew,SV.size,yf]⟩,Go.Proofs.Tryz.underlying214,fun h=>by cases h⟩
def zq7:TyI:=⟨(.struct [(0,212),(256,214)]),257,280,(.agg [.arr8 256 (List.replicate 256 0),.nilsl]),false⟩
def zeq:TyI:=⟨(.struct [(0,212),(256,214)]),257,280,(.agg [.arr8 256 (List.replicate 256 0),.nilsl]),false⟩
theorem zoh:yx prog 216 zeq:=⟨⟨_,yh Go.Proofs.Tryz.typeInfo216,rfl,rfl,fun _=>rfl⟩,⟨by simp [zeq,SV.ok,okL],by simp [zeq,Ty.agg],by simp [zeq,SV.size,yf]⟩,⟨_,Go.Proofs.Tryz.underlying216,rfl,by decide⟩,fun h=>by cases h⟩
def zg6:TyI:=⟨(.arr 5 99),5,40,(.arr64 5 [0,0,0,0,0]),true⟩
theorem z2n:yx prog 220 zg6:=⟨⟨_,yh Go.Proofs.Tryz.typeInfo220,rfl,rfl,fun _=>rfl⟩,⟨by simp [zg6,SV.ok,okL],by simp [zg6,Ty.agg],by simp [zg6,SV.size,yf]⟩,Go.Proofs.Tryz.underlying220,fun _=>⟨by decide+kernel,Go.Proofs.Tryz.eqGuardType220⟩⟩
def zq5:TyI:=⟨(.struct [(0,220),(5,220)]),10,80,(.agg [.arr64 5 [0,0,0,0,0],.arr64 5 [0,0,0,0,0]]),true⟩
def zg1:TyI:=⟨(.struct [(0,220),(5,220)]),10,80,(.agg [.arr64 5 [0,0,0,0,0],.arr64 5 [0,0,0,0,0]]),true⟩
theorem z5c:yx prog 223 zg1:=⟨⟨_,yh Go.Proofs.Tryz.typeInfo223,rfl,rfl,fun _=>rfl⟩,⟨by simp [zg1,SV.ok,okL],by simp [zg1,Ty.agg],by simp [zg1,SV.size,yf]⟩,⟨_,Go.Proofs.Tryz.underlying223,rfl,by decide⟩,fun _=>⟨by decide+kernel,Go.Proofs.Tryz.eqGuardType223⟩⟩
def zhn:TyI:=⟨.ptr,1,8,(.nilptr),false⟩
theorem z4r:yx prog 235 zhn:=⟨⟨_,yh Go.Proofs.Tryz.typeInfo235,rfl,rfl,fun _=>rfl⟩,⟨by simp [zhn,SV.ok,okL],by simp [zhn,Ty.agg],by simp [zhn,SV.size,yf]⟩,⟨_,Go.Proofs.Tryz.underlying235⟩,fun h=>by cases h⟩
def zg0:TyI:=⟨(.arr 3 99),3,24,(.arr64 3 [0,0,0]),true⟩
theorem z7e:yx prog 236 zg0:=⟨⟨_,yh Go.Proofs.Tryz.typeInfo236,rfl,rfl,fun _=>rfl⟩,⟨by simp [zg0,SV.ok,okL],by simp [zg0,Ty.agg],by simp [zg0,SV.size,yf]⟩,Go.Proofs.Tryz.underlying236,fun _=>⟨by decide+kernel,Go.Proofs.Tryz.eqGuardType236⟩⟩
def zhm:TyI:=⟨.ptr,1,8,(.nilptr),false⟩
theorem z4o:yx prog 238 zhm:=⟨⟨_,yh Go.Proofs.Tryz.typeInfo238,rfl,rfl,fun _=>rfl⟩,⟨by simp [zhm,SV.ok,okL],by simp [zhm,Ty.agg],by simp [zhm,SV.size,yf]⟩,⟨_,Go.Proofs.Tryz.underlying238⟩,fun h=>by cases h⟩
def zfy:TyI:=⟨(.arr 8 113),8,32,(.arr32 8 [0,0,0,0,0,0,0,0]),true⟩
theorem zt4:yx prog 239 zfy:=⟨⟨_,yh Go.Proofs.Tryz.typeInfo239,rfl,rfl,fun _=>rfl⟩,⟨by simp [zfy,SV.ok,okL],by simp [zfy,Ty.agg],by simp [zfy,SV.size,yf]⟩,Go.Proofs.Tryz.underlying239,fun _=>⟨by decide+kernel,Go.Proofs.Tryz.eqGuardType239⟩⟩
def zf7:TyI:=⟨(.arr 8 99),8,64,(.arr64 8 [0,0,0,0,0,0,0,0]),true⟩
theorem zvq:yx prog 242 zf7:=⟨⟨_,yh Go.Proofs.Tryz.typeInfo242,rfl,rfl,fun _=>rfl⟩,⟨by simp [zf7,SV.ok,okL],by simp [zf7,Ty.agg],by simp [zf7,SV.size,yf]⟩,Go.Proofs.Tryz.underlying242,fun _=>⟨by decide+kernel,Go.Proofs.Tryz.eqGuardType242⟩⟩
def zf1:TyI:=⟨(.arr 80 99),80,640,(.arr64 80 (List.replicate 80 0)),true⟩
theorem zub:yx prog 245 zf1:=⟨⟨_,yh Go.Proofs.Tryz.typeInfo245,rfl,rfl,fun _=>rfl⟩,⟨by simp [zf1,SV.ok,okL],by simp [zf1,Ty.agg],by simp [zf1,SV.size,yf]⟩,Go.Proofs.Tryz.underlying245,fun _=>⟨by decide+kernel,Go.Proofs.Tryz.eqGuardType245⟩⟩
def zqt:TyI:=⟨(.struct [(0,3),(1,242),(9,245),(89,51),(90,99)]),91,744,(.agg [.int 0,.arr64 8 [0,0,0,0,0,0,0,0],.arr64 80 (List.replicate 80 0),.nilsl,.u64 0]),false⟩
def zfx:TyI:=⟨(.struct [(0,3),(1,242),(9,245),(89,51),(90,99)]),91,744,(.agg [.int 0,.arr64 8 [0,0,0,0,0,0,0,0],.arr64 80 (List.replicate 80 0),.nilsl,.u64 0]),false⟩
theorem zug:yx prog 248 zfx:=⟨⟨_,yh Go.Proofs.Tryz.typeInfo248,rfl,rfl,fun _=>rfl⟩,⟨by simp [zfx,SV.ok,okL],by simp [zfx,Ty.agg],by simp [zfx,SV.size,yf]⟩,⟨_,Go.Proofs.Tryz.underlying248,rfl,by decide⟩,fun h=>by cases h⟩
def zf0:TyI:=⟨(.arr 64 113),64,256,(.arr32 64 (List.replicate 64 0)),true⟩
theorem zuo:yx prog 249 zf0:=⟨⟨_,yh Go.Proofs.Tryz.typeInfo249,rfl,rfl,fun _=>rfl⟩,⟨by simp [zf0,SV.ok,okL],by simp [zf0,Ty.agg],by simp [zf0,SV.size,yf]⟩,Go.Proofs.Tryz.underlying249,fun _=>⟨by decide+kernel,Go.Proofs.Tryz.eqGuardType249⟩⟩
def zp3:TyI:=⟨.ptr,1,8,(.nilptr),false⟩
theorem yio:ty2.sz=1∧ty2.bytes=8∧ty3.sz=1∧ty3.bytes=8∧ty4.sz=1∧ty4.bytes=1∧ty5.sz=1∧ty5.bytes=1∧ty9.sz=1∧ty9.bytes=16∧z1n.sz=1∧z1n.bytes=24∧zkf.sz=1∧zkf.bytes=8∧z15.sz=1∧z15.bytes=8∧z08.sz=1∧z08.bytes=8∧z16.sz=6∧z16.bytes=64∧z1k.sz=6∧z1k.bytes=64∧z1c.sz=2∧z1c.bytes=24∧zkx.sz=2∧zkx.bytes=24∧zd3.sz=1∧zd3.bytes=8∧zd6.sz=1∧zd6.bytes=24∧z0n.sz=1∧z0n.bytes=8∧z09.sz=1∧z09.bytes=24∧z1w.sz=1∧z1w.bytes=24∧z1a.sz=6∧z1a.bytes=64∧z1v.sz=1∧z1v.bytes=24∧zk3.sz=1∧zk3.bytes=8∧z1l.sz=2∧z1l.bytes=16∧zkk.sz=2∧zkk.bytes=16∧z1h.sz=5∧z1h.bytes=48∧zkg.sz=5∧zkg.bytes=48∧z14.sz=5∧z14.bytes=56∧zn9.sz=5∧zn9.bytes=56∧z1y.sz=14∧z1y.bytes=152∧z1d.sz=14∧z1d.bytes=152∧z02.sz=1∧z02.bytes=8∧zz6.sz=5∧zz6.bytes=40∧z00.sz=5∧z00.bytes=40∧xm.sz=1∧xm.bytes=8∧zp5.sz=4∧zp5.bytes=48∧ze6.sz=4∧ze6.bytes=48∧zen.sz=1∧zen.bytes=8∧xu.sz=1∧xu.bytes=4∧zg2.sz=1∧zg2.bytes=24∧zqp.sz=3∧zqp.bytes=40∧zq1.sz=3∧zq1.bytes=40∧zqk.sz=2∧zqk.bytes=48∧zhp.sz=2∧zhp.bytes=48∧zf6.sz=1∧zf6.bytes=8∧zqz.sz=3∧zqz.bytes=40∧zgo.sz=3∧zgo.bytes=40∧zgp.sz=1∧zgp.bytes=8∧zan.sz=4∧zan.bytes=4∧zgg.sz=16∧zgg.bytes=64∧zg9.sz=5∧zg9.bytes=40∧zea.sz=16∧zea.bytes=16∧zeu.sz=1∧zeu.bytes=8∧zqn.sz=2∧zqn.bytes=16∧zcc.sz=2∧zcc.bytes=16∧zqa.sz=3∧zqa.bytes=24∧zfz.sz=3∧zfz.bytes=24∧zgj.sz=64∧zgj.bytes=64∧zgi.sz=16∧zgi.bytes=64∧zho.sz=1∧zho.bytes=8∧zha.sz=1∧zha.bytes=8∧zgz.sz=32∧zgz.bytes=256∧zhl.sz=16∧zhl.bytes=128∧zqf.sz=50∧zqf.bytes=400∧zg8.sz=50∧zg8.bytes=400∧zfv.sz=1∧zfv.bytes=8∧zqb.sz=2∧zqb.bytes=16∧zhf.sz=2∧zhf.bytes=16∧zej.sz=256∧zej.bytes=256∧zew.sz=1∧zew.bytes=24∧zq7.sz=257∧zq7.bytes=280∧zeq.sz=257∧zeq.bytes=280∧zg6.sz=5∧zg6.bytes=40∧zq5.sz=10∧zq5.bytes=80∧zg1.sz=10∧zg1.bytes=80∧zhn.sz=1∧zhn.bytes=8∧zg0.sz=3∧zg0.bytes=24∧zhm.sz=1∧zhm.bytes=8∧zfy.sz=8∧zfy.bytes=32∧zf7.sz=8∧zf7.bytes=64∧zf1.sz=80∧zf1.bytes=640∧zqt.sz=91∧zqt.bytes=744∧zfx.sz=91∧zfx.bytes=744∧zf0.sz=64∧zf0.bytes=256∧zp3.sz=1∧zp3.bytes=8:=by
  refine ⟨rfl,rfl,rfl,rfl,rfl,rfl,rfl,rfl,rfl,rfl,rfl,rfl,rfl,rfl,rfl,rfl,rfl,rfl,rfl,rfl,rfl,rfl,rfl,rfl,rfl,rfl,rfl,rfl,rfl,rfl,rfl,rfl,rfl,rfl,rfl,rfl,rfl,rfl,rfl,rfl,rfl,rfl,rfl,rfl,rfl,rfl,rfl,rfl,rfl,rfl,rfl,rfl,rfl,rfl,rfl,rfl,rfl,rfl,rfl,rfl,rfl,rfl,rfl,rfl,rfl,rfl,rfl,rfl,rfl,rfl,rfl,rfl,rfl,rfl,rfl,rfl,rfl,rfl,rfl,rfl,rfl,rfl,rfl,rfl,rfl,rfl,rfl,rfl,rfl,rfl,rfl,rfl,rfl,rfl,rfl,rfl,rfl,rfl,rfl,rfl,rfl,rfl,rfl,rfl,rfl,rfl,rfl,rfl,rfl,rfl,rfl,rfl,rfl,rfl,rfl,rfl,rfl,rfl,rfl,rfl,rfl,rfl,rfl,rfl,rfl,rfl,rfl,rfl,rfl,rfl,rfl,rfl,rfl,rfl,rfl,rfl,rfl,rfl,rfl,rfl,rfl,rfl,rfl,rfl,rfl,rfl,rfl,rfl,rfl,rfl,rfl,rfl,rfl,rfl,rfl,rfl,rfl,rfl,rfl,rfl,rfl,rfl,rfl,rfl,rfl,rfl⟩
theorem yig:(∀{α:Type} {x y:List α},(x++y).length=x.length+y.length)∧(∀{α:Type} {i:Nat} {l:List α},(List.take i l).length=min i l.length)∧(∀{α:Type} {i:Nat} {l:List α},(List.drop i l).length=l.length-i)∧(∀{α:Type},([]:List α).length=0)∧(∀{α:Type} {a:α} {l:List α},(a ::l).length=l.length+1)∧(∀{α:Type} {n:Nat} {a:α},(List.replicate n a).length=n)∧(∀{α:Type} {l:List α} {i:Nat} {a:α},(l.set i a).length=l.length):=
  ⟨List.length_append,List.length_take,List.length_drop,List.length_nil,List.length_cons,List.length_replicate,List.length_set⟩
theorem sz:(∀(o:List (Nat×Nat)) (i e:Nat),off (ye o i e)=off o+i*e)∧(ty2.sz=1∧ty2.bytes=8∧ty3.sz=1∧ty3.bytes=8∧ty4.sz=1∧ty4.bytes=1∧ty5.sz=1∧ty5.bytes=1∧ty9.sz=1∧ty9.bytes=16∧z1n.sz=1∧z1n.bytes=24∧zkf.sz=1∧zkf.bytes=8∧z15.sz=1∧z15.bytes=8∧z08.sz=1∧z08.bytes=8∧z16.sz=6∧z16.bytes=64∧z1k.sz=6∧z1k.bytes=64∧z1c.sz=2∧z1c.bytes=24∧zkx.sz=2∧zkx.bytes=24∧zd3.sz=1∧zd3.bytes=8∧zd6.sz=1∧zd6.bytes=24∧z0n.sz=1∧z0n.bytes=8∧z09.sz=1∧z09.bytes=24∧z1w.sz=1∧z1w.bytes=24∧z1a.sz=6∧z1a.bytes=64∧z1v.sz=1∧z1v.bytes=24∧zk3.sz=1∧zk3.bytes=8∧z1l.sz=2∧z1l.bytes=16∧zkk.sz=2∧zkk.bytes=16∧z1h.sz=5∧z1h.bytes=48∧zkg.sz=5∧zkg.bytes=48∧z14.sz=5∧z14.bytes=56∧zn9.sz=5∧zn9.bytes=56∧z1y.sz=14∧z1y.bytes=152∧z1d.sz=14∧z1d.bytes=152∧z02.sz=1∧z02.bytes=8∧zz6.sz=5∧zz6.bytes=40∧z00.sz=5∧z00.bytes=40∧xm.sz=1∧xm.bytes=8∧zp5.sz=4∧zp5.bytes=48∧ze6.sz=4∧ze6.bytes=48∧zen.sz=1∧zen.bytes=8∧xu.sz=1∧xu.bytes=4∧zg2.sz=1∧zg2.bytes=24∧zqp.sz=3∧zqp.bytes=40∧zq1.sz=3∧zq1.bytes=40∧zqk.sz=2∧zqk.bytes=48∧zhp.sz=2∧zhp.bytes=48∧zf6.sz=1∧zf6.bytes=8∧zqz.sz=3∧zqz.bytes=40∧zgo.sz=3∧zgo.bytes=40∧zgp.sz=1∧zgp.bytes=8∧zan.sz=4∧zan.bytes=4∧zgg.sz=16∧zgg.bytes=64∧zg9.sz=5∧zg9.bytes=40∧zea.sz=16∧zea.bytes=16∧zeu.sz=1∧zeu.bytes=8∧zqn.sz=2∧zqn.bytes=16∧zcc.sz=2∧zcc.bytes=16∧zqa.sz=3∧zqa.bytes=24∧zfz.sz=3∧zfz.bytes=24∧zgj.sz=64∧zgj.bytes=64∧zgi.sz=16∧zgi.bytes=64∧zho.sz=1∧zho.bytes=8∧zha.sz=1∧zha.bytes=8∧zgz.sz=32∧zgz.bytes=256∧zhl.sz=16∧zhl.bytes=128∧zqf.sz=50∧zqf.bytes=400∧zg8.sz=50∧zg8.bytes=400∧zfv.sz=1∧zfv.bytes=8∧zqb.sz=2∧zqb.bytes=16∧zhf.sz=2∧zhf.bytes=16∧zej.sz=256∧zej.bytes=256∧zew.sz=1∧zew.bytes=24∧zq7.sz=257∧zq7.bytes=280∧zeq.sz=257∧zeq.bytes=280∧zg6.sz=5∧zg6.bytes=40∧zq5.sz=10∧zq5.bytes=80∧zg1.sz=10∧zg1.bytes=80∧zhn.sz=1∧zhn.bytes=8∧zg0.sz=3∧zg0.bytes=24∧zhm.sz=1∧zhm.bytes=8∧zfy.sz=8∧zfy.bytes=32∧zf7.sz=8∧zf7.bytes=64∧zf1.sz=80∧zf1.bytes=640∧zqt.sz=91∧zqt.bytes=744∧zfx.sz=91∧zfx.bytes=744∧zf0.sz=64∧zf0.bytes=256∧zp3.sz=1∧zp3.bytes=8):=⟨fun o i e=>zv o i e,yio⟩
theorem szl:((∀(o:List (Nat×Nat)) (i e:Nat),off (ye o i e)=off o+i*e)∧(ty2.sz=1∧ty2.bytes=8∧ty3.sz=1∧ty3.bytes=8∧ty4.sz=1∧ty4.bytes=1∧ty5.sz=1∧ty5.bytes=1∧ty9.sz=1∧ty9.bytes=16∧z1n.sz=1∧z1n.bytes=24∧zkf.sz=1∧zkf.bytes=8∧z15.sz=1∧z15.bytes=8∧z08.sz=1∧z08.bytes=8∧z16.sz=6∧z16.bytes=64∧z1k.sz=6∧z1k.bytes=64∧z1c.sz=2∧z1c.bytes=24∧zkx.sz=2∧zkx.bytes=24∧zd3.sz=1∧zd3.bytes=8∧zd6.sz=1∧zd6.bytes=24∧z0n.sz=1∧z0n.bytes=8∧z09.sz=1∧z09.bytes=24∧z1w.sz=1∧z1w.bytes=24∧z1a.sz=6∧z1a.bytes=64∧z1v.sz=1∧z1v.bytes=24∧zk3.sz=1∧zk3.bytes=8∧z1l.sz=2∧z1l.bytes=16∧zkk.sz=2∧zkk.bytes=16∧z1h.sz=5∧z1h.bytes=48∧zkg.sz=5∧zkg.bytes=48∧z14.sz=5∧z14.bytes=56∧zn9.sz=5∧zn9.bytes=56∧z1y.sz=14∧z1y.bytes=152∧z1d.sz=14∧z1d.bytes=152∧z02.sz=1∧z02.bytes=8∧zz6.sz=5∧zz6.bytes=40∧z00.sz=5∧z00.bytes=40∧xm.sz=1∧xm.bytes=8∧zp5.sz=4∧zp5.bytes=48∧ze6.sz=4∧ze6.bytes=48∧zen.sz=1∧zen.bytes=8∧xu.sz=1∧xu.bytes=4∧zg2.sz=1∧zg2.bytes=24∧zqp.sz=3∧zqp.bytes=40∧zq1.sz=3∧zq1.bytes=40∧zqk.sz=2∧zqk.bytes=48∧zhp.sz=2∧zhp.bytes=48∧zf6.sz=1∧zf6.bytes=8∧zqz.sz=3∧zqz.bytes=40∧zgo.sz=3∧zgo.bytes=40∧zgp.sz=1∧zgp.bytes=8∧zan.sz=4∧zan.bytes=4∧zgg.sz=16∧zgg.bytes=64∧zg9.sz=5∧zg9.bytes=40∧zea.sz=16∧zea.bytes=16∧zeu.sz=1∧zeu.bytes=8∧zqn.sz=2∧zqn.bytes=16∧zcc.sz=2∧zcc.bytes=16∧zqa.sz=3∧zqa.bytes=24∧zfz.sz=3∧zfz.bytes=24∧zgj.sz=64∧zgj.bytes=64∧zgi.sz=16∧zgi.bytes=64∧zho.sz=1∧zho.bytes=8∧zha.sz=1∧zha.bytes=8∧zgz.sz=32∧zgz.bytes=256∧zhl.sz=16∧zhl.bytes=128∧zqf.sz=50∧zqf.bytes=400∧zg8.sz=50∧zg8.bytes=400∧zfv.sz=1∧zfv.bytes=8∧zqb.sz=2∧zqb.bytes=16∧zhf.sz=2∧zhf.bytes=16∧zej.sz=256∧zej.bytes=256∧zew.sz=1∧zew.bytes=24∧zq7.sz=257∧zq7.bytes=280∧zeq.sz=257∧zeq.bytes=280∧zg6.sz=5∧zg6.bytes=40∧zq5.sz=10∧zq5.bytes=80∧zg1.sz=10∧zg1.bytes=80∧zhn.sz=1∧zhn.bytes=8∧zg0.sz=3∧zg0.bytes=24∧zhm.sz=1∧zhm.bytes=8∧zfy.sz=8∧zfy.bytes=32∧zf7.sz=8∧zf7.bytes=64∧zf1.sz=80∧zf1.bytes=640∧zqt.sz=91∧zqt.bytes=744∧zfx.sz=91∧zfx.bytes=744∧zf0.sz=64∧zf0.bytes=256∧zp3.sz=1∧zp3.bytes=8))∧(∀{α:Type} {x y:List α},(x++y).length=x.length+y.length)∧(∀{α:Type} {i:Nat} {l:List α},(List.take i l).length=min i l.length)∧(∀{α:Type} {i:Nat} {l:List α},(List.drop i l).length=l.length-i)∧(∀{α:Type},([]:List α).length=0)∧(∀{α:Type} {a:α} {l:List α},(a ::l).length=l.length+1)∧(∀{α:Type} {n:Nat} {a:α},(List.replicate n a).length=n)∧(∀{α:Type} {l:List α} {i:Nat} {a:α},(l.set i a).length=l.length):=⟨sz,yig⟩
theorem pk {a:Array Oper} {b:Ctx} {c:List PStep} (h:zlk a b c=true):zlk a b c=true:=h
theorem zu {p k:Prop} (h:k) (hp:p:=by first|assumption|omega|exact pk (by kernel_rfl)|(unfold yb;omega)|exact UInt8.toNat_lt _|decide+kernel|(constructor<;>first|assumption|omega)|(simp only [sz,off,zv9]<;>omega)|(simp only [szl,off,zv9]<;>omega)|(constructor<;>first|assumption|(simp only [szl,off,zv9]<;>omega))):Pre p k:=zw hp h
theorem zi {t:Bool} {a b:Prop} (h:a) (e:t=true:=by first|rfl|assumption|(rw [decide_eq_true_eq];omega)|(simp<;>omega)):zx t a b:=zo e h
theorem zj {t:Bool} {a b:Prop} (h:b) (e:t=false:=by first|rfl|assumption|(rw [decide_eq_false_iff_not];omega)|(simp<;>omega)):zx t a b:=zn e h
structure Hid (Q:Prop):Prop where
  out:Q
theorem za {P Q:Prop} (h:Q) (w:Hid Q→P:=by
    intro h
    repeat ((conv=>whnf);first|refine zu ?_|refine zb ?_|refine zi ?_|refine zj ?_)
    conv=>whnf
    exact h.out):P:=w ⟨h⟩
theorem zt {p:Prop} (h:p:=by
    repeat ((conv=>whnf);refine zb ?_)
    exact trivial):p:=h
theorem zh {v u:SV} {p:Prop} (e:v=u) (h:p:=by
    repeat ((conv=>whnf);refine zb ?_)
    exact trivial):zpk v u p:=by subst e;exact zb h
theorem ze {n0:Nat} {r r':SV} {hp hp':List Blk} {K:SV→List Blk→Prop} (gl:List Nat) (hk:K r' hp') (h:zgc n0 gl [(0,r)] hp [(0,r')] hp' True:=by
    repeat ((conv=>whnf);refine zb ?_)
    exact trivial):zcq n0 r hp K:=yv gl hk h
end Go.Sym.Z

namespace Go.Sym.Aes
open Go.Sym.Lp
def tw (x:UInt8):UInt8:=(x<<<(1:UInt8))^^^((27:UInt8)&&&((0:UInt8)-(x>>>(7:UInt8))))
def rl8 (x:UInt8) (n:Nat):UInt8:=x<<<UInt8.ofNat n|||x>>>UInt8.ofNat (8-n)
def q1 (q:UInt8):UInt8:=q^^^q<<<1
def q2 (q:UInt8):UInt8:=q1 q^^^q1 q<<<2
def q3 (q:UInt8):UInt8:=q2 q^^^q2 q<<<4
def q4 (q:UInt8):UInt8:=q3 q^^^((9:UInt8)&&&((0:UInt8)-(q3 q>>>(7:UInt8))))
def pq:Nat→UInt8×UInt8
  |0=>(1,1)
  |i+1=>((pq i).1^^^tw (pq i).1,q4 (pq i).2)
def sb (q:UInt8):UInt8:=99^^^q^^^rl8 q 1^^^rl8 q 2^^^rl8 q 3^^^rl8 q 4
def zqi:Nat→List UInt8
  |0=>99 ::List.replicate 255 0
  |i+1=>(zqi i).set (pq (i+1)).1.toNat (sb (pq (i+1)).2)
set_option maxRecDepth 100000
theorem zql: ∀i,(zqi i).length=256
  |0=>rfl
  |i+1=>by simp only [zqi,List.length_set];exact zql i
def box:List UInt8:= [99,124,119,123,242,107,111,197,48,1,103,43,254,215,171,118,202,130,201,125,250,89,71,240,173,212,162,175,156,164,114,192,183,253,147,38,54,63,247,204,52,165,229,241,113,216,49,21,4,199,35,195,24,150,5,154,7,18,128,226,235,39,178,117,9,131,44,26,27,110,90,160,82,59,214,179,41,227,47,132,83,209,0,237,32,252,177,91,106,203,190,57,74,76,88,207,208,239,170,251,67,77,51,133,69,249,2,127,80,60,159,168,81,163,64,143,146,157,56,245,188,182,218,33,16,255,243,210,205,12,19,236,95,151,68,23,196,167,126,61,100,93,25,115,96,129,79,220,34,42,144,136,70,238,184,20,222,94,11,219,224,50,58,10,73,6,36,92,194,211,172,98,145,149,228,121,231,200,55,109,141,213,78,169,108,86,244,234,101,122,174,8,186,120,37,46,28,166,180,198,232,221,116,31,75,189,139,138,112,62,181,102,72,3,246,14,97,53,87,185,134,193,29,158,225,248,152,17,105,217,142,148,155,30,135,233,206,85,40,223,140,161,137,13,191,230,66,104,65,153,45,15,176,84,187,22]
theorem ybk: ∀i,i<255→((pq (i+1)).1=1↔i+1=255):=by decide+kernel
theorem z8b:zqi 255=box:=by decide+kernel
end Go.Sym.Aes
namespace Go.Sym.Aes
open Go.Sym.Lp
def rc:Nat→UInt8
  |0=>1
  |k+1=>tw (rc k)
def xz (n i:Nat) (t:List UInt8):List UInt8:=
  if i%n=0 then [box.getD (t.getD 1 0).toNat 0^^^rc ((i-1)/ n),box.getD (t.getD 2 0).toNat 0,box.getD (t.getD 3 0).toNat 0,box.getD (t.getD 0 0).toNat 0]
  else if n=8∧i%n=4 then (List.range 4).map fun k=>box.getD (t.getD k 0).toNat 0 else t
def xi (key:List UInt8) (n i:Nat) (W:List UInt8):List UInt8:=
  if i<n then (key.drop (4*i)).take 4
  else (List.range 4).map fun k=>W.getD (4*(i-n)+k) 0^^^(xz n i ((W.drop (4*(i-1))).take 4)).getD k 0
def ks (key:List UInt8) (n:Nat):Nat→List UInt8
  |0=> []
  |i+1=>ks key n i++xi key n i (ks key n i)
theorem zcf {key:List UInt8} {n i:Nat} (hk:key.length=4*n) (W:List UInt8):(xi key n i W).length=4:=by
  unfold xi
  split
  ·rw [List.length_take,List.length_drop];omega
  ·simp
theorem za3 {key:List UInt8} {n:Nat} (hk:key.length=4*n): ∀i,(ks key n i).length=4*i
  |0=>rfl
  |i+1=>by simp only [ks,List.length_append,za3 hk i,zcf hk];omega
end Go.Sym.Aes
namespace Go.Sym.Aes
open Go.Sym.Lp
def kw (key:List UInt8) (n N i:Nat):List UInt8:=ks key n i++List.replicate (N-4*i) 0
section
variable {key:List UInt8} {n N i:Nat} (hk:key.length=4*n)
include hk
theorem z17 (h:4*i≤N):(kw key n N i).length=N:=by
  unfold kw;rw [List.length_append,za3 hk,List.length_replicate];omega
theorem zmp {j:Nat} (hj:j<4*i):(kw key n N i).getD j 0=(ks key n i).getD j 0:=by
  unfold kw
  rw [List.getD_eq_getElem?_getD,List.getElem?_append_left (by rw [za3 hk];exact hj),List.getD_eq_getElem?_getD]
theorem z6h {j:Nat} (hj:j+4≤4*i):((kw key n N i).drop j).take 4=((ks key n i).drop j).take 4:=by
  unfold kw
  rw [List.drop_append_of_le_length (by rw [za3 hk];omega),List.take_append_of_le_length (by rw [List.length_drop,za3 hk];omega)]
theorem zz2 (h:4*i+4≤N) {v:List UInt8} (hv:v=xi key n i (ks key n i)):(kw key n N i).take (4*i)++v++(kw key n N i).drop (4*i+4)=kw key n N (i+1):=by
  have hl:=za3 hk i
  unfold kw
  subst hv
  rw [List.take_left' hl,List.drop_append,List.drop_eq_nil_of_le (by omega),List.nil_append,hl,List.drop_replicate,show N-4*i-(4*i+4-4*i)=N-4*(i+1) by omega]
  simp only [ks]
end
theorem z35 {key:List UInt8} {n N i:Nat} (h:N=4*i):kw key n N i=ks key n i:=by unfold kw;rw [h,Nat.sub_self];simp
theorem zl8 {n i:Nat} (hn:0<n) (hi:n≤i) (h:i%n=0):tw (rc ((i-1)/ n))=rc (i/ n):=by
  obtain ⟨c,rfl⟩:=Nat.dvd_of_mod_eq_zero h
  have hc:0<c:=by
    rcases Nat.eq_zero_or_pos c with rfl|h
    ·omega
    ·exact h
  obtain ⟨d,rfl⟩: ∃d,c=d+1:=⟨c-1,by omega⟩
  have e1:(n*(d+1)-1)/ n=d:=by
    rw [Nat.mul_succ,show n*d+n-1=n*d+(n-1) by omega,Nat.mul_add_div hn,Nat.div_eq_of_lt (show n-1<n by omega),Nat.add_zero]
  rw [e1,Nat.mul_div_cancel_left _ hn]
  rfl
theorem zh9 {n i:Nat} (hn:0<n) (h: ¬i%n=0):(i-1)/ n=i/ n:=by
  have h1:=Nat.div_add_mod i n
  have h2:=Nat.mod_lt i hn
  have e:i-1=n*(i/ n)+(i%n-1):=by omega
  rw [e,Nat.mul_add_div hn,Nat.div_eq_of_lt (show i%n-1<n by omega),Nat.add_zero]
theorem zt9 {n i:Nat} (h:i<n):(i-1)/ n=i/ n:=by rw [Nat.div_eq_of_lt h,Nat.div_eq_of_lt (by omega)]
end Go.Sym.Aes
namespace Go.Sym.Aes
open Go.Sym.Lp
def kc (W:List UInt8) (i:Nat):List UInt8:=W.take (4*i)++List.replicate (W.length-4*i) 0
theorem z63 {W:List UInt8} {i:Nat} (h:4*i≤W.length):(kc W i).length=W.length:=by unfold kc;simp;omega
theorem zy1 (W:List UInt8):kc W 0=List.replicate W.length 0:=by unfold kc;simp
theorem z5w {W:List UInt8} {i:Nat} (h:W.length=4*i):kc W i=W:=by unfold kc;rw [h,Nat.sub_self,List.take_of_length_le (by omega)];simp
theorem z88 {W:List UInt8} {i:Nat} (h:4*i+4≤W.length):(kc W i).take (4*i)++(W.drop (4*i)).take 4++(kc W i).drop (4*i+4)=kc W (i+1):=by
  unfold kc
  have hl:(W.take (4*i)).length=4*i:=by rw [List.length_take];omega
  have hd:List.drop (4*i+4) (W.take (4*i))= []:=List.drop_eq_nil_of_le (by omega)
  rw [List.take_left' hl,List.drop_append,hd,List.nil_append,hl,List.drop_replicate,show W.length-4*i-(4*i+4-4*i)=W.length-4*(i+1) by omega]
  congr 1
  rw [Nat.mul_succ,List.take_add]
theorem zbn {n i:Nat} {t:List UInt8} (h:t.length=4):(xz n i t).length=4:=by
  unfold xz;split
  ·rfl
  ·split
   ·simp
   ·exact h
end Go.Sym.Aes
namespace Go.Sym.Aes
theorem zmj:box.length=256:=by decide+kernel
theorem zdb (x:UInt8):x.toNat<box.length:=by rw [zmj];exact x.toNat_lt
end Go.Sym.Aes
namespace Go.Sym.Aes
open Go.Sym.Lp
def zph (ks:List UInt8) (r:Nat) (x:List UInt8):List UInt8:=(List.range 16).map fun j=>x.getD j 0^^^ks.getD (16*r+j) 0
def xg (x:List UInt8):List UInt8:=(List.range 16).map fun i=>box.getD (x.getD ((i+4*(i%4))%16) 0).toNat 0
def zi3 (t:List UInt8) (i:Nat):UInt8:=
  t.getD i 0^^^(t.getD (i/ 4*4) 0^^^t.getD (i/ 4*4+1) 0^^^t.getD (i/ 4*4+2) 0^^^t.getD (i/ 4*4+3) 0^^^tw (t.getD i 0^^^t.getD (i/ 4*4+(i+1)%4) 0))
def zgb (t:List UInt8):List UInt8:=(List.range 16).map (zi3 t)
def rnd (ks:List UInt8) (R r:Nat) (x:List UInt8):List UInt8:=zph ks r (if r<R-1 then zgb (xg x) else xg x)
def zbm (ks:List UInt8) (R:Nat) (x:List UInt8):Nat→List UInt8
  |0=>zph ks 0 x
  |r+1=>rnd ks R (r+1) (zbm ks R x r)
def enc (ks:List UInt8) (R:Nat) (x:List UInt8):List UInt8:=zbm ks R x (R-1)
theorem zvj (ks:List UInt8) (r:Nat) (x:List UInt8):(zph ks r x).length=16:=zz _ _
theorem zj8 (x:List UInt8):(xg x).length=16:=zz _ _
theorem zt7 (x:List UInt8):(zgb x).length=16:=zz _ _
theorem zh3 (ks:List UInt8) (R:Nat) (x:List UInt8): ∀r,(zbm ks R x r).length=16
  |0=>zvj _ _ _
  |_+1=>zvj _ _ _
theorem zib (ks:List UInt8) (R:Nat) (x:List UInt8):(enc ks R x).length=16:=zh3 _ _ _ _
theorem z4p {T:List UInt8} {g:Nat→UInt8} {a:Nat} (h:a+4≤T.length) {u0 u1 u2 u3:UInt8}
    (h0:T.getD a 0^^^u0=g a) (h1:T.getD (a+1) 0^^^u1=g (a+1)) (h2:T.getD (a+2) 0^^^u2=g (a+2)) (h3:T.getD (a+3) 0^^^u3=g (a+3)) {X0 X1 X2 X3:List UInt8}
    (e0:X0=(ovr T 0 g a).set a ((ovr T 0 g a).getD a 0^^^u0)) (e1:X1=X0.set (a+1) (X0.getD (a+1) 0^^^u1)) (e2:X2=X1.set (a+2) (X1.getD (a+2) 0^^^u2)) (e3:X3=X2.set (a+3) (X2.getD (a+3) 0^^^u3)):
    X3=ovr T 0 g (a+4):=by
  have k0:X0=ovr T 0 g (a+1):=by
    rw [e0,yp (by omega) _ (by omega)]
    exact z8 (by omega) h0 (by omega)
  have k1:X1=ovr T 0 g (a+2):=by
    rw [e1,k0,yp (by omega) _ (by omega)]
    exact z8 (by omega) h1 (by omega)
  have k2:X2=ovr T 0 g (a+3):=by
    rw [e2,k1,yp (by omega) _ (by omega)]
    exact z8 (by omega) h2 (by omega)
  rw [e3,k2,yp (by omega) _ (by omega)]
  exact z8 (by omega) h3 (by omega)
end Go.Sym.Aes
namespace Go.Sym.Aes
open Go.Sym.Lp
theorem zhy (T:List UInt8) (c j:Nat) (h:j<4):zi3 T (4*c+j)=T.getD (4*c+j) 0^^^(T.getD (4*c) 0^^^T.getD (4*c+1) 0^^^T.getD (4*c+2) 0^^^T.getD (4*c+3) 0^^^tw (T.getD (4*c+j) 0^^^T.getD (4*c+(j+1)%4) 0)):=by
  unfold zi3
  have e1:(4*c+j)/ 4*4=4*c:=by omega
  have e2:(4*c+j+1)%4=(j+1)%4:=by omega
  rw [e1,e2]
theorem z2d {T:List UInt8} {c:Nat} (h:4*c+4≤T.length) {Y:List UInt8} (hY:Y=ovr T 0 (zi3 T) (4*c)) {al:UInt8} (ha:al=Y.getD (4*c) 0^^^Y.getD (4*c+1) 0^^^Y.getD (4*c+2) 0^^^Y.getD (4*c+3) 0)
    {X0 X1 X2 X3:List UInt8} (e0:X0=Y.set (4*c) (Y.getD (4*c) 0^^^(al^^^tw (Y.getD (4*c) 0^^^Y.getD (4*c+1) 0))))
    (e1:X1=X0.set (4*c+1) (X0.getD (4*c+1) 0^^^(al^^^tw (Y.getD (4*c+1) 0^^^Y.getD (4*c+2) 0))))
    (e2:X2=X1.set (4*c+2) (X1.getD (4*c+2) 0^^^(al^^^tw (Y.getD (4*c+2) 0^^^Y.getD (4*c+3) 0))))
    (e3:X3=X2.set (4*c+3) (X2.getD (4*c+3) 0^^^(al^^^tw (Y.getD (4*c+3) 0^^^Y.getD (4*c) 0)))):X3=ovr T 0 (zi3 T) (4*(c+1)):=by
  have hg: ∀j,4*c≤j→Y.getD j 0=T.getD j 0:=fun j hj=>by rw [hY];exact yp (by omega) _ (by omega) _
  rw [hg _ (by omega),hg _ (by omega),hg _ (by omega),hg _ (by omega)] at ha
  have m0:=zhy T c 0 (by omega)
  have m1:=zhy T c 1 (by omega)
  have m2:=zhy T c 2 (by omega)
  have m3:=zhy T c 3 (by omega)
  rw [←ha] at m0 m1 m2 m3
  rw [Nat.add_zero] at m0
  refine z4p (by omega) m0.symm m1.symm m2.symm m3.symm (X0:=X0) (X1:=X1) (X2:=X2) ?_ ?_ ?_ ?_
  ·rw [e0,←hY,hg (4*c) (by omega),hg (4*c+1) (by omega)]
  ·rw [e1,hg (4*c+1) (by omega),hg (4*c+2) (by omega)]
  ·rw [e2,hg (4*c+2) (by omega),hg (4*c+3) (by omega)]
  ·rw [e3,hg (4*c+3) (by omega),hg (4*c) (by omega)];rfl
end Go.Sym.Aes
namespace Go.Sym.Aes
open Go.Sym.Lp
theorem z5s (x:UInt8):tw x=if 127<x.toNat then x<<<1^^^27 else x<<<1:=by
  have k: ∀n,n<256→tw (UInt8.ofNat n)=if 127<(UInt8.ofNat n).toNat then (UInt8.ofNat n)<<<1^^^27 else (UInt8.ofNat n)<<<1:=by decide+kernel
  have h:=k x.toNat x.toNat_lt
  rwa [UInt8.ofNat_toNat] at h
theorem ygb {x:UInt8} (h:127<x.toNat):tw x=x<<<1^^^27:=by rw [z5s,if_pos h]
theorem ydl {x:UInt8} (h: ¬127<x.toNat):tw x=x<<<1:=by rw [z5s,if_neg h]
end Go.Sym.Aes
namespace Go.Sym.Aes
open Go.Sym.Lp
theorem take4 {l:List UInt8} {a:Nat} (h:a+4≤l.length):(l.drop a).take 4= [l.getD a 0,l.getD (a+1) 0,l.getD (a+2) 0,l.getD (a+3) 0]:=by
  apply List.ext_getElem?
  intro j
  have g: ∀k,k<l.length→some (l.getD k 0)=l[k]?:=fun k hk=>by rw [List.getD_eq_getElem?_getD,List.getElem?_eq_getElem hk];rfl
  by_cases h4:j<4
  ·rw [List.getElem?_take_of_lt h4,List.getElem?_drop]
   have:j=0∨j=1∨j=2∨j=3:=by omega
   rcases this with rfl|rfl|rfl|rfl
   ·rw [Nat.add_zero];exact (g a (by omega)).symm
   ·exact (g (a+1) (by omega)).symm
   ·exact (g (a+2) (by omega)).symm
   ·exact (g (a+3) (by omega)).symm
  ·rw [List.getElem?_eq_none (by rw [List.length_take];omega),List.getElem?_eq_none (by show 4≤j;omega)]
end Go.Sym.Aes
namespace Go.Sym.Aes
theorem z7h:List.append (List.append ([99,124,119,123,242,107,111,197,48,1,103,43,254,215,171,118,202,130,201,125,250,89,71,240,173,212,162,175,156,164,114,192,183,253,147,38,54,63,247,204,52,165,229,241,113,216,49,21,4,199,35,195,24,150,5,154,7,18,128,226,235,39,178,117]:List UInt8) [9,131,44,26,27,110,90,160,82,59,214,179,41,227,47,132,83,209,0,237,32,252,177,91,106,203,190,57,74,76,88,207,208,239,170,251,67,77,51,133,69,249,2,127,80,60,159,168,81,163,64,143,146,157,56,245,188,182,218,33,16,255,243,210]) (List.append [205,12,19,236,95,151,68,23,196,167,126,61,100,93,25,115,96,129,79,220,34,42,144,136,70,238,184,20,222,94,11,219,224,50,58,10,73,6,36,92,194,211,172,98,145,149,228,121,231,200,55,109,141,213,78,169,108,86,244,234,101,122,174,8] [186,120,37,46,28,166,180,198,232,221,116,31,75,189,139,138,112,62,181,102,72,3,246,14,97,53,87,185,134,193,29,158,225,248,152,17,105,217,142,148,155,30,135,233,206,85,40,223,140,161,137,13,191,230,66,104,65,153,45,15,176,84,187,22])=box:=by decide+kernel
end Go.Sym.Aes
namespace Go.Sym.Aes
theorem zyv (key:List UInt8) (n:Nat):ks key n 0= []:=rfl
theorem zdg (key:List UInt8) (n i:Nat):ks key n (i+1)=ks key n i++xi key n i (ks key n i):=rfl
end Go.Sym.Aes

namespace Go.Sym.Z
open Go Go.Proofs.Tryz Go.Sym.Lp Go.Sym.Aes
set_option maxRecDepth 100000
def yg0:List (Nat×List PStep):= []
def ye9:List (Nat×List PStep):= []
def yfa:List (Nat×List PStep):= []
def yf6:List (Nat×TyI):= [(3,ty3),(4,ty4),(5,ty5),(9,ty9),(48,zd3),(51,zd6),(168,zea),(178,zeu),(148,zan),(116,zg2),(214,zew),(212,zej),(216,zeq)]
theorem zc5: ∀t i,y9 yf6 t=some i→yx prog t i:=(zd zda (zd zc8 (zd zc9 (zd zdf (zd zbq (zd zbr (zd zjg (zd zot (zd z29 (zd z4f (zd zna (zd zn4 (zd zoh zau)))))))))))))
def z5r:Spec:=fun args hp K=>match args,hp with
  | [.u8 x,.int k],[]=>Pre (k=1∨k=2∨k=3∨k=4) (K (.u8 (rl8 x k.toNat)) [])
  |_,_=>False
def zw1:Spec:=fun args hp K=>match args,hp with
  | [.u8 x],[]=>K (.u8 (tw x)) []
  |_,_=>False
def zxx:Spec:=fun args hp K=>match args,hp with
  | [],[]=>K (.arr8 256 box) []
  |_,_=>False
theorem ybb:zm prog 175 z5r:=by
  refine zk zc5 zg rfl func175 rfl call175 (D:=yg0) ?_ ?_
  ·intro args hp K h
   unfold z5r at h
   split at h
   ·exact Nat.le_of_ble_eq_true rfl
   ·exact h.elim
  ·intro args hp K h
   unfold z5r at h
   split at h
   ·rename_i x k
    obtain ⟨hk,h⟩:=zl h
    rcases hk with rfl|rfl|rfl|rfl
    all_goals
      refine za ?_
      exact ze [] h
   ·exact h.elim
theorem zru:zm prog 159 zw1:=by
  refine zk zc5 zg rfl func159 rfl call159 (D:=ye9) ?_ ?_
  ·intro args hp K h
   unfold zw1 at h
   split at h
   ·exact Nat.le_of_ble_eq_true rfl
   ·exact h.elim
  ·intro args hp K h
   unfold zw1 at h
   split at h
   ·refine za ?_
    exact ze [] h
   ·exact h.elim
theorem z8d:zm prog 158 zxx:=by
  refine zk zc5 (zc zru (zc ybb zg)) rfl func158 rfl call158 (D:=yfa) ?_ ?_
  ·intro args hp K h
   unfold zxx at h
   split at h
   ·exact Nat.le_of_ble_eq_true rfl
   ·exact h.elim
  ·intro args hp K h
   unfold zxx at h
   split at h
   ·refine za ?_
    refine zp (Ix (254)) (fun q=>⟨[(0,.ptr 0 0 0 []),(1,.ptr 1 0 0 []),(2,.u8 (pq q.i).1),(3,.u8 (pq q.i).2)],[.mk 212 [.arr8 256 (List.replicate 256 0)],.mk 212 [.arr8 256 (zqi q.i)]]⟩) (fun q=>(254)-q.i) ⟨0,Nat.zero_le _⟩ [0,1] ?_ ?_
    ·exact zt
    ·intro q
     have hi:=q.hi
     have hl:=zql q.i
     have he:=ybk q.i (by omega)
     have hu:((pq q.i).1^^^tw (pq q.i).1).toNat<256:=((pq q.i).1^^^tw (pq q.i).1).toNat_lt
     by_cases h4:q.i+1≤254
     ·have hd:decide ((pq (q.i+1)).1=UInt8.ofNat 1)=false:=decide_eq_false (fun e=>by have:=he.1 e;omega)
      repeat ((conv=>whnf);first|refine zu ?_|refine zi ?_|refine zj ?_|refine zb ?_|refine zw (by first|exact hd|(rw [hd];rfl)) ?_|refine zo (by first|exact hd|(rw [hd];rfl)) ?_|refine zn (by first|exact hd|(rw [hd];rfl)) ?_)
      conv=>whnf
      refine ⟨⟨q.i+1,h4⟩,[0,1],by show (254)-(q.i+1)<(254)-q.i;omega,?_⟩
      exact zt
     ·have e4:q.i=254:=by omega
      have hd:decide ((pq (q.i+1)).1=UInt8.ofNat 1)=true:=decide_eq_true (he.2 (by omega))
      repeat ((conv=>whnf);first|refine zu ?_|refine zi ?_|refine zj ?_|refine zb ?_|refine zw (by first|exact hd|(rw [hd];rfl)) ?_|refine zo (by first|exact hd|(rw [hd];rfl)) ?_|refine zn (by first|exact hd|(rw [hd];rfl)) ?_)
      have e5:zqi (q.i+1)=box:=by rw [e4];exact z8b
      conv=>whnf
      refine yv (hp':= []) [] h ?_
      repeat ((conv=>whnf);refine zb ?_)
      conv=>whnf
      exact zh (congrArg (SV.arr8 256) e5)
   ·exact h.elim
end Go.Sym.Z
