/-
  Contracts of functions of the program, each said of symbolic values, and plain laws; no condition beyond each statement's own.
-/
import Derived.Test.YtmmpgjcpielefaaGreatGLRecActs17
import Derived.Test.YtmmpgjcpielefaaGreatRows
set_option linter.unusedSimpArgs false
set_option linter.unusedVariables false
namespace Go.Sym.Z
open Go.Proofs.Tryz
set_option maxRecDepth 100000
def ty2:TyI:=⟨(.int .i64),1,8,(.int 0),false⟩
def ty3:TyI:=⟨(.int .i64),1,8,(.int 0),false⟩
theorem zc1:yx prog 3 ty3:=⟨⟨_,yh Go.Proofs.Tryz.typeInfo3,rfl,rfl,fun _=>rfl⟩,⟨by simp [ty3,SV.ok,okL],by simp [ty3,Ty.agg],by simp [ty3,SV.size,yc]⟩,Go.Proofs.Tryz.underlying3,fun h=>by cases h⟩
def ty4:TyI:=⟨.bool,1,1,(.bool false),false⟩
theorem zcz:yx prog 4 ty4:=⟨⟨_,yh Go.Proofs.Tryz.typeInfo4,rfl,rfl,fun _=>rfl⟩,⟨by simp [ty4,SV.ok,okL],by simp [ty4,Ty.agg],by simp [ty4,SV.size,yc]⟩,Go.Proofs.Tryz.underlying4,fun h=>by cases h⟩
def ty5:TyI:=⟨(.int .u8),1,1,(.u8 0),false⟩
theorem zc2:yx prog 5 ty5:=⟨⟨_,yh Go.Proofs.Tryz.typeInfo5,rfl,rfl,fun _=>rfl⟩,⟨by simp [ty5,SV.ok,okL],by simp [ty5,Ty.agg],by simp [ty5,SV.size,yc]⟩,Go.Proofs.Tryz.underlying5,fun h=>by cases h⟩
def ty9:TyI:=⟨.str,1,16,(.str []),false⟩
theorem zcu:yx prog 9 ty9:=⟨⟨_,yh Go.Proofs.Tryz.typeInfo9,rfl,rfl,fun _=>rfl⟩,⟨by simp [ty9,SV.ok,okL],by simp [ty9,Ty.agg],by simp [ty9,SV.size,yc]⟩,Go.Proofs.Tryz.underlying9,fun h=>by cases h⟩
def zov:TyI:=⟨(.sl 33),1,24,(.nilsl),false⟩
theorem yb1:yx prog 22 zov:=⟨⟨_,yh Go.Proofs.Tryz.typeInfo22,rfl,rfl,fun _=>rfl⟩,⟨by simp [zov,SV.ok,okL],by simp [zov,Ty.agg],by simp [zov,SV.size,yc]⟩,Go.Proofs.Tryz.underlying22,fun h=>by cases h⟩
def zll:TyI:=⟨.ptr,1,8,(.nilptr),false⟩
theorem ztd:yx prog 23 zll:=⟨⟨_,yh Go.Proofs.Tryz.typeInfo23,rfl,rfl,fun _=>rfl⟩,⟨by simp [zll,SV.ok,okL],by simp [zll,Ty.agg],by simp [zll,SV.size,yc]⟩,⟨_,Go.Proofs.Tryz.underlying23⟩,fun h=>by cases h⟩
def z2j:TyI:=⟨(.int .i64),1,8,(.int 0),false⟩
def zmy:TyI:=⟨.ptr,1,8,(.nilptr),false⟩
theorem z1d:yx prog 27 zmy:=⟨⟨_,yh Go.Proofs.Tryz.typeInfo27,rfl,rfl,fun _=>rfl⟩,⟨by simp [zmy,SV.ok,okL],by simp [zmy,Ty.agg],by simp [zmy,SV.size,yc]⟩,⟨_,Go.Proofs.Tryz.underlying27⟩,fun h=>by cases h⟩
def z3u:TyI:=⟨(.struct [(0,3),(1,9),(2,3),(3,9),(4,3),(5,4)]),6,64,(.agg [.int 0,.str [],.int 0,.str [],.int 0,.bool false]),true⟩
def zcs:TyI:=⟨(.struct [(0,3),(1,9),(2,3),(3,9),(4,3),(5,4)]),6,64,(.agg [.int 0,.str [],.int 0,.str [],.int 0,.bool false]),true⟩
theorem ty33_ok:yx prog 33 zcs:=⟨⟨_,yh Go.Proofs.Tryz.typeInfo33,rfl,rfl,fun _=>rfl⟩,⟨by simp [zcs,SV.ok,okL],by simp [zcs,Ty.agg],by simp [zcs,SV.size,yc]⟩,⟨_,Go.Proofs.Tryz.underlying33,rfl,by decide⟩,fun _=>⟨by decide+kernel,Go.Proofs.Tryz.eqGuardType33⟩⟩
def z3l:TyI:=⟨(.struct [(0,3),(1,9)]),2,24,(.agg [.int 0,.str []]),true⟩
def zkn:TyI:=⟨(.struct [(0,3),(1,9)]),2,24,(.agg [.int 0,.str []]),true⟩
theorem zm5:yx prog 43 zkn:=⟨⟨_,yh Go.Proofs.Tryz.typeInfo43,rfl,rfl,fun _=>rfl⟩,⟨by simp [zkn,SV.ok,okL],by simp [zkn,Ty.agg],by simp [zkn,SV.size,yc]⟩,⟨_,Go.Proofs.Tryz.underlying43,rfl,by decide⟩,fun _=>⟨by decide+kernel,Go.Proofs.Tryz.eqGuardType43⟩⟩
def zef:TyI:=⟨(.int .u64),1,8,(.u64 0),false⟩
theorem zbj:yx prog 48 zef:=⟨⟨_,yh Go.Proofs.Tryz.typeInfo48,rfl,rfl,fun _=>rfl⟩,⟨by simp [zef,SV.ok,okL],by simp [zef,Ty.agg],by simp [zef,SV.size,yc]⟩,Go.Proofs.Tryz.underlying48,fun h=>by cases h⟩
def zei:TyI:=⟨(.sl 5),1,24,(.nilsl),false⟩
theorem zbl:yx prog 51 zei:=⟨⟨_,yh Go.Proofs.Tryz.typeInfo51,rfl,rfl,fun _=>rfl⟩,⟨by simp [zei,SV.ok,okL],by simp [zei,Ty.agg],by simp [zei,SV.size,yc]⟩,Go.Proofs.Tryz.underlying51,fun h=>by cases h⟩
def z26:TyI:=⟨.ptr,1,8,(.nilptr),false⟩
def z3k:TyI:=⟨(.sl 3),1,24,(.nilsl),false⟩
def z2i:TyI:=⟨(.sl 63),1,24,(.nilsl),false⟩
def z2e:TyI:=⟨(.struct [(0,3),(1,9),(2,3),(3,9),(4,3),(5,4)]),6,64,(.agg [.int 0,.str [],.int 0,.str [],.int 0,.bool false]),true⟩
def z35:TyI:=⟨(.sl 9),1,24,(.nilsl),false⟩
def zmg:TyI:=⟨.ptr,1,8,(.nilptr),false⟩
theorem zty:yx prog 68 zmg:=⟨⟨_,yh Go.Proofs.Tryz.typeInfo68,rfl,rfl,fun _=>rfl⟩,⟨by simp [zmg,SV.ok,okL],by simp [zmg,Ty.agg],by simp [zmg,SV.size,yc]⟩,⟨_,Go.Proofs.Tryz.underlying68⟩,fun h=>by cases h⟩
def z14:TyI:=⟨(.struct [(0,3),(1,68)]),2,16,(.agg [.int 0,.nilptr]),true⟩
def zlr:TyI:=⟨(.struct [(0,3),(1,68)]),2,16,(.agg [.int 0,.nilptr]),true⟩
theorem zup:yx prog 70 zlr:=⟨⟨_,yh Go.Proofs.Tryz.typeInfo70,rfl,rfl,fun _=>rfl⟩,⟨by simp [zlr,SV.ok,okL],by simp [zlr,Ty.agg],by simp [zlr,SV.size,yc]⟩,⟨_,Go.Proofs.Tryz.underlying70,rfl,by decide⟩,fun _=>⟨by decide+kernel,Go.Proofs.Tryz.eqGuardType70⟩⟩
def z21:TyI:=⟨(.struct [(0,70),(2,68),(3,9),(4,3)]),5,48,(.agg [.int 0,.nilptr,.nilptr,.str [],.int 0]),true⟩
def zlf:TyI:=⟨(.struct [(0,70),(2,68),(3,9),(4,3)]),5,48,(.agg [.int 0,.nilptr,.nilptr,.str [],.int 0]),true⟩
theorem zts:yx prog 74 zlf:=⟨⟨_,yh Go.Proofs.Tryz.typeInfo74,rfl,rfl,fun _=>rfl⟩,⟨by simp [zlf,SV.ok,okL],by simp [zlf,Ty.agg],by simp [zlf,SV.size,yc]⟩,⟨_,Go.Proofs.Tryz.underlying74,rfl,by decide⟩,fun _=>⟨by decide+kernel,Go.Proofs.Tryz.eqGuardType74⟩⟩
def z2m:TyI:=⟨(.struct [(0,3),(1,9),(2,9),(3,3),(4,4)]),5,56,(.agg [.int 0,.str [],.str [],.int 0,.bool false]),true⟩
def zmx:TyI:=⟨(.struct [(0,3),(1,9),(2,9),(3,3),(4,4)]),5,56,(.agg [.int 0,.str [],.str [],.int 0,.bool false]),true⟩
theorem z0f:yx prog 76 zmx:=⟨⟨_,yh Go.Proofs.Tryz.typeInfo76,rfl,rfl,fun _=>rfl⟩,⟨by simp [zmx,SV.ok,okL],by simp [zmx,Ty.agg],by simp [zmx,SV.size,yc]⟩,⟨_,Go.Proofs.Tryz.underlying76,rfl,by decide⟩,fun _=>⟨by decide+kernel,Go.Proofs.Tryz.eqGuardType76⟩⟩
def z3a:TyI:=⟨(.struct [(0,3),(1,3),(2,76),(7,76),(12,9),(13,3)]),14,152,(.agg [.int 0,.int 0,.int 0,.str [],.str [],.int 0,.bool false,.int 0,.str [],.str [],.int 0,.bool false,.str [],.int 0]),true⟩
def zmw:TyI:=⟨(.struct [(0,3),(1,3),(2,76),(7,76),(12,9),(13,3)]),14,152,(.agg [.int 0,.int 0,.int 0,.str [],.str [],.int 0,.bool false,.int 0,.str [],.str [],.int 0,.bool false,.str [],.int 0]),true⟩
theorem z1e:yx prog 78 zmw:=⟨⟨_,yh Go.Proofs.Tryz.typeInfo78,rfl,rfl,fun _=>rfl⟩,⟨by simp [zmw,SV.ok,okL],by simp [zmw,Ty.agg],by simp [zmw,SV.size,yc]⟩,⟨_,Go.Proofs.Tryz.underlying78,rfl,by decide⟩,fun _=>⟨by decide+kernel,Go.Proofs.Tryz.eqGuardType78⟩⟩
def z28:TyI:=⟨.ptr,1,8,(.nilptr),false⟩
def z3q:TyI:=⟨(.struct [(0,70),(2,68),(3,93),(4,3)]),5,40,(.agg [.int 0,.nilptr,.nilptr,.nilptr,.int 0]),true⟩
def z3h:TyI:=⟨(.struct [(0,70),(2,68),(3,93),(4,3)]),5,40,(.agg [.int 0,.nilptr,.nilptr,.nilptr,.int 0]),true⟩
def xl:TyI:=⟨(.int .u64),1,8,(.u64 0),false⟩
theorem zcd:yx prog 99 xl:=⟨⟨_,yh Go.Proofs.Tryz.typeInfo99,rfl,rfl,fun _=>rfl⟩,⟨by simp [xl,SV.ok,okL],by simp [xl,Ty.agg],by simp [xl,SV.size,yc]⟩,Go.Proofs.Tryz.underlying99,fun h=>by cases h⟩
def zr3:TyI:=⟨(.struct [(0,3),(1,9),(2,9),(3,3)]),4,48,(.agg [.int 0,.str [],.str [],.int 0]),true⟩
def zfe:TyI:=⟨(.struct [(0,3),(1,9),(2,9),(3,3)]),4,48,(.agg [.int 0,.str [],.str [],.int 0]),true⟩
theorem zqb:yx prog 103 zfe:=⟨⟨_,yh Go.Proofs.Tryz.typeInfo103,rfl,rfl,fun _=>rfl⟩,⟨by simp [zfe,SV.ok,okL],by simp [zfe,Ty.agg],by simp [zfe,SV.size,yc]⟩,⟨_,Go.Proofs.Tryz.underlying103,rfl,by decide⟩,fun _=>⟨by decide+kernel,Go.Proofs.Tryz.eqGuardType103⟩⟩
def ze8:TyI:=⟨.ptr,1,8,(.nilptr),false⟩
theorem zps:yx prog 104 ze8:=⟨⟨_,yh Go.Proofs.Tryz.typeInfo104,rfl,rfl,fun _=>rfl⟩,⟨by simp [ze8,SV.ok,okL],by simp [ze8,Ty.agg],by simp [ze8,SV.size,yc]⟩,⟨_,Go.Proofs.Tryz.underlying104⟩,fun h=>by cases h⟩
def xw:TyI:=⟨(.int .u32),1,4,(.u32 0),false⟩
theorem zba:yx prog 113 xw:=⟨⟨_,yh Go.Proofs.Tryz.typeInfo113,rfl,rfl,fun _=>rfl⟩,⟨by simp [xw,SV.ok,okL],by simp [xw,Ty.agg],by simp [xw,SV.size,yc]⟩,Go.Proofs.Tryz.underlying113,fun h=>by cases h⟩
def zhe:TyI:=⟨(.sl 148),1,24,(.nilsl),false⟩
theorem z4d:yx prog 116 zhe:=⟨⟨_,yh Go.Proofs.Tryz.typeInfo116,rfl,rfl,fun _=>rfl⟩,⟨by simp [zhe,SV.ok,okL],by simp [zhe,Ty.agg],by simp [zhe,SV.size,yc]⟩,Go.Proofs.Tryz.underlying116,fun h=>by cases h⟩
def zsc:TyI:=⟨(.struct [(0,51),(1,3),(2,3)]),3,40,(.agg [.nilsl,.int 0,.int 0]),false⟩
def zqv:TyI:=⟨(.struct [(0,51),(1,3),(2,3)]),3,40,(.agg [.nilsl,.int 0,.int 0]),false⟩
def zrh:TyI:=⟨(.struct [(0,51),(1,51)]),2,48,(.agg [.nilsl,.nilsl]),false⟩
def zha:TyI:=⟨(.struct [(0,51),(1,51)]),2,48,(.agg [.nilsl,.nilsl]),false⟩
theorem z7e:yx prog 132 zha:=⟨⟨_,yh Go.Proofs.Tryz.typeInfo132,rfl,rfl,fun _=>rfl⟩,⟨by simp [zha,SV.ok,okL],by simp [zha,Ty.agg],by simp [zha,SV.size,yc]⟩,⟨_,Go.Proofs.Tryz.underlying132,rfl,by decide⟩,fun h=>by cases h⟩
def zgp:TyI:=⟨.ptr,1,8,(.nilptr),false⟩
theorem zwd:yx prog 134 zgp:=⟨⟨_,yh Go.Proofs.Tryz.typeInfo134,rfl,rfl,fun _=>rfl⟩,⟨by simp [zgp,SV.ok,okL],by simp [zgp,Ty.agg],by simp [zgp,SV.size,yc]⟩,⟨_,Go.Proofs.Tryz.underlying134⟩,fun h=>by cases h⟩
def zre:TyI:=⟨(.struct [(0,9),(1,9),(2,134)]),3,40,(.agg [.str [],.str [],.nilptr]),true⟩
def zho:TyI:=⟨(.struct [(0,9),(1,9),(2,134)]),3,40,(.agg [.str [],.str [],.nilptr]),true⟩
theorem z7r:yx prog 136 zho:=⟨⟨_,yh Go.Proofs.Tryz.typeInfo136,rfl,rfl,fun _=>rfl⟩,⟨by simp [zho,SV.ok,okL],by simp [zho,Ty.agg],by simp [zho,SV.size,yc]⟩,⟨_,Go.Proofs.Tryz.underlying136,rfl,by decide⟩,fun _=>⟨by decide+kernel,Go.Proofs.Tryz.eqGuardType136⟩⟩
def zhd:TyI:=⟨.func,1,8,(.nilfn),false⟩
theorem z52:yx prog 143 zhd:=⟨⟨_,yh Go.Proofs.Tryz.typeInfo143,rfl,rfl,fun _=>rfl⟩,⟨by simp [zhd,SV.ok,okL],by simp [zhd,Ty.agg],by simp [zhd,SV.size,yc]⟩,⟨_,_,_,Go.Proofs.Tryz.underlying143⟩,fun h=>by cases h⟩
def zay:TyI:=⟨(.arr 4 5),4,4,(.arr8 4 [0,0,0,0]),true⟩
theorem z6b:yx prog 148 zay:=⟨⟨_,yh Go.Proofs.Tryz.typeInfo148,rfl,rfl,fun _=>rfl⟩,⟨by simp [zay,SV.ok,okL],by simp [zay,Ty.agg],by simp [zay,SV.size,yc]⟩,Go.Proofs.Tryz.underlying148,fun _=>⟨by decide+kernel,Go.Proofs.Tryz.eqGuardType148⟩⟩
def zh7:TyI:=⟨(.arr 16 113),16,64,(.arr32 16 (List.replicate 16 0)),true⟩
theorem z8a:yx prog 164 zh7:=⟨⟨_,yh Go.Proofs.Tryz.typeInfo164,rfl,rfl,fun _=>rfl⟩,⟨by simp [zh7,SV.ok,okL],by simp [zh7,Ty.agg],by simp [zh7,SV.size,yc]⟩,Go.Proofs.Tryz.underlying164,fun _=>⟨by decide+kernel,Go.Proofs.Tryz.eqGuardType164⟩⟩
def zhq:TyI:=⟨(.arr 5 99),5,40,(.arr64 5 [0,0,0,0,0]),true⟩
theorem z4s:yx prog 167 zhq:=⟨⟨_,yh Go.Proofs.Tryz.typeInfo167,rfl,rfl,fun _=>rfl⟩,⟨by simp [zhq,SV.ok,okL],by simp [zhq,Ty.agg],by simp [zhq,SV.size,yc]⟩,Go.Proofs.Tryz.underlying167,fun _=>⟨by decide+kernel,Go.Proofs.Tryz.eqGuardType167⟩⟩
def zel:TyI:=⟨(.arr 16 5),16,16,(.arr8 16 (List.replicate 16 0)),true⟩
theorem zk4:yx prog 168 zel:=⟨⟨_,yh Go.Proofs.Tryz.typeInfo168,rfl,rfl,fun _=>rfl⟩,⟨by simp [zel,SV.ok,okL],by simp [zel,Ty.agg],by simp [zel,SV.size,yc]⟩,Go.Proofs.Tryz.underlying168,fun _=>⟨by decide+kernel,Go.Proofs.Tryz.eqGuardType168⟩⟩
def ze2:TyI:=⟨.ptr,1,8,(.nilptr),false⟩
theorem zp1:yx prog 178 ze2:=⟨⟨_,yh Go.Proofs.Tryz.typeInfo178,rfl,rfl,fun _=>rfl⟩,⟨by simp [ze2,SV.ok,okL],by simp [ze2,Ty.agg],by simp [ze2,SV.size,yc]⟩,⟨_,Go.Proofs.Tryz.underlying178⟩,fun h=>by cases h⟩
def zrt:TyI:=⟨(.struct [(0,99),(1,99)]),2,16,(.agg [.u64 0,.u64 0]),true⟩
def zco:TyI:=⟨(.struct [(0,99),(1,99)]),2,16,(.agg [.u64 0,.u64 0]),true⟩
theorem zxg:yx prog 183 zco:=⟨⟨_,yh Go.Proofs.Tryz.typeInfo183,rfl,rfl,fun _=>rfl⟩,⟨by simp [zco,SV.ok,okL],by simp [zco,Ty.agg],by simp [zco,SV.size,yc]⟩,⟨_,Go.Proofs.Tryz.underlying183,rfl,by decide⟩,fun _=>⟨by decide+kernel,Go.Proofs.Tryz.eqGuardType183⟩⟩
def zr0:TyI:=⟨(.struct [(0,178),(1,183)]),3,24,(.agg [.nilptr,.u64 0,.u64 0]),true⟩
def zgm:TyI:=⟨(.struct [(0,178),(1,183)]),3,24,(.agg [.nilptr,.u64 0,.u64 0]),true⟩
theorem zu6:yx prog 186 zgm:=⟨⟨_,yh Go.Proofs.Tryz.typeInfo186,rfl,rfl,fun _=>rfl⟩,⟨by simp [zgm,SV.ok,okL],by simp [zgm,Ty.agg],by simp [zgm,SV.size,yc]⟩,⟨_,Go.Proofs.Tryz.underlying186,rfl,by decide⟩,fun _=>⟨by decide+kernel,Go.Proofs.Tryz.eqGuardType186⟩⟩
def zh1:TyI:=⟨(.arr 64 5),64,64,(.arr8 64 (List.replicate 64 0)),true⟩
theorem z7f:yx prog 187 zh1:=⟨⟨_,yh Go.Proofs.Tryz.typeInfo187,rfl,rfl,fun _=>rfl⟩,⟨by simp [zh1,SV.ok,okL],by simp [zh1,Ty.agg],by simp [zh1,SV.size,yc]⟩,Go.Proofs.Tryz.underlying187,fun _=>⟨by decide+kernel,Go.Proofs.Tryz.eqGuardType187⟩⟩
def zhx:TyI:=⟨(.arr 16 113),16,64,(.arr32 16 (List.replicate 16 0)),true⟩
theorem z4k:yx prog 188 zhx:=⟨⟨_,yh Go.Proofs.Tryz.typeInfo188,rfl,rfl,fun _=>rfl⟩,⟨by simp [zhx,SV.ok,okL],by simp [zhx,Ty.agg],by simp [zhx,SV.size,yc]⟩,Go.Proofs.Tryz.underlying188,fun _=>⟨by decide+kernel,Go.Proofs.Tryz.eqGuardType188⟩⟩
def zg9:TyI:=⟨.ptr,1,8,(.nilptr),false⟩
theorem z4g:yx prog 193 zg9:=⟨⟨_,yh Go.Proofs.Tryz.typeInfo193,rfl,rfl,fun _=>rfl⟩,⟨by simp [zg9,SV.ok,okL],by simp [zg9,Ty.agg],by simp [zg9,SV.size,yc]⟩,⟨_,Go.Proofs.Tryz.underlying193⟩,fun h=>by cases h⟩
def zhn:TyI:=⟨.ptr,1,8,(.nilptr),false⟩
theorem z85:yx prog 195 zhn:=⟨⟨_,yh Go.Proofs.Tryz.typeInfo195,rfl,rfl,fun _=>rfl⟩,⟨by simp [zhn,SV.ok,okL],by simp [zhn,Ty.agg],by simp [zhn,SV.size,yc]⟩,⟨_,Go.Proofs.Tryz.underlying195⟩,fun h=>by cases h⟩
def zg5:TyI:=⟨(.arr 16 183),32,256,(.arr64 32 (List.replicate 32 0)),true⟩
theorem z4i:yx prog 198 zg5:=⟨⟨_,yh Go.Proofs.Tryz.typeInfo198,rfl,rfl,fun _=>rfl⟩,⟨by simp [zg5,SV.ok,okL],by simp [zg5,Ty.agg],by simp [zg5,SV.size,yc]⟩,Go.Proofs.Tryz.underlying198,fun _=>⟨by decide+kernel,Go.Proofs.Tryz.eqGuardType198⟩⟩
def zhi:TyI:=⟨(.arr 16 99),16,128,(.arr64 16 (List.replicate 16 0)),true⟩
theorem z4q:yx prog 199 zhi:=⟨⟨_,yh Go.Proofs.Tryz.typeInfo199,rfl,rfl,fun _=>rfl⟩,⟨by simp [zhi,SV.ok,okL],by simp [zhi,Ty.agg],by simp [zhi,SV.size,yc]⟩,Go.Proofs.Tryz.underlying199,fun _=>⟨by decide+kernel,Go.Proofs.Tryz.eqGuardType199⟩⟩
def zr9:TyI:=⟨(.struct [(0,198),(32,199),(48,183)]),50,400,(.agg [.arr64 32 (List.replicate 32 0),.arr64 16 (List.replicate 16 0),.u64 0,.u64 0]),true⟩
def zg3:TyI:=⟨(.struct [(0,198),(32,199),(48,183)]),50,400,(.agg [.arr64 32 (List.replicate 32 0),.arr64 16 (List.replicate 16 0),.u64 0,.u64 0]),true⟩
theorem z4l:yx prog 201 zg3:=⟨⟨_,yh Go.Proofs.Tryz.typeInfo201,rfl,rfl,fun _=>rfl⟩,⟨by simp [zg3,SV.ok,okL],by simp [zg3,Ty.agg],by simp [zg3,SV.size,yc]⟩,⟨_,Go.Proofs.Tryz.underlying201,rfl,by decide⟩,fun _=>⟨by decide+kernel,Go.Proofs.Tryz.eqGuardType201⟩⟩
def zgl:TyI:=⟨.ptr,1,8,(.nilptr),false⟩
theorem zvu:yx prog 207 zgl:=⟨⟨_,yh Go.Proofs.Tryz.typeInfo207,rfl,rfl,fun _=>rfl⟩,⟨by simp [zgl,SV.ok,okL],by simp [zgl,Ty.agg],by simp [zgl,SV.size,yc]⟩,⟨_,Go.Proofs.Tryz.underlying207⟩,fun h=>by cases h⟩
def zrl:TyI:=⟨(.struct [(0,207),(1,207)]),2,16,(.agg [.nilptr,.nilptr]),true⟩
def zhr:TyI:=⟨(.struct [(0,207),(1,207)]),2,16,(.agg [.nilptr,.nilptr]),true⟩
theorem z40:yx prog 209 zhr:=⟨⟨_,yh Go.Proofs.Tryz.typeInfo209,rfl,rfl,fun _=>rfl⟩,⟨by simp [zhr,SV.ok,okL],by simp [zhr,Ty.agg],by simp [zhr,SV.size,yc]⟩,⟨_,Go.Proofs.Tryz.underlying209,rfl,by decide⟩,fun _=>⟨by decide+kernel,Go.Proofs.Tryz.eqGuardType209⟩⟩
def zfg:TyI:=⟨(.arr 256 5),256,256,(.arr8 256 (List.replicate 256 0)),true⟩
theorem zpk:yx prog 212 zfg:=⟨⟨_,yh Go.Proofs.Tryz.typeInfo212,rfl,rfl,fun _=>rfl⟩,⟨by simp [zfg,SV.ok,okL],by simp [zfg,Ty.agg],by simp [zfg,SV.size,yc]⟩,Go.Proofs.Tryz.underlying212,fun _=>⟨by decide+kernel,Go.Proofs.Tryz.eqGuardType212⟩⟩
def ze4:TyI:=⟨(.sl 168),1,24,(.nilsl),false⟩
theorem zoa:yx prog 214 ze4:=⟨⟨_,yh Go.Proofs.Tryz.typeInfo214,rfl,rfl,fun _=>rfl⟩,⟨by simp [ze4,SV.ok,okL],by simp [ze4,Ty.agg],by simp [ze4,SV.size,yc]⟩,Go.Proofs.Tryz.underlying214,fun h=>by cases h⟩
def zsa:TyI:=⟨(.struct [(0,212),(256,214)]),257,280,(.agg [.arr8 256 (List.replicate 256 0),.nilsl]),false⟩
def zfm:TyI:=⟨(.struct [(0,212),(256,214)]),257,280,(.agg [.arr8 256 (List.replicate 256 0),.nilsl]),false⟩
theorem zn0:yx prog 216 zfm:=⟨⟨_,yh Go.Proofs.Tryz.typeInfo216,rfl,rfl,fun _=>rfl⟩,⟨by simp [zfm,SV.ok,okL],by simp [zfm,Ty.agg],by simp [zfm,SV.size,yc]⟩,⟨_,Go.Proofs.Tryz.underlying216,rfl,by decide⟩,fun h=>by cases h⟩
def zh3:TyI:=⟨(.arr 5 99),5,40,(.arr64 5 [0,0,0,0,0]),true⟩
theorem z5f:yx prog 220 zh3:=⟨⟨_,yh Go.Proofs.Tryz.typeInfo220,rfl,rfl,fun _=>rfl⟩,⟨by simp [zh3,SV.ok,okL],by simp [zh3,Ty.agg],by simp [zh3,SV.size,yc]⟩,Go.Proofs.Tryz.underlying220,fun _=>⟨by decide+kernel,Go.Proofs.Tryz.eqGuardType220⟩⟩
def zq4:TyI:=⟨(.struct [(0,220),(5,220)]),10,80,(.agg [.arr64 5 [0,0,0,0,0],.arr64 5 [0,0,0,0,0]]),true⟩
def zh2:TyI:=⟨(.struct [(0,220),(5,220)]),10,80,(.agg [.arr64 5 [0,0,0,0,0],.arr64 5 [0,0,0,0,0]]),true⟩
theorem z6u:yx prog 223 zh2:=⟨⟨_,yh Go.Proofs.Tryz.typeInfo223,rfl,rfl,fun _=>rfl⟩,⟨by simp [zh2,SV.ok,okL],by simp [zh2,Ty.agg],by simp [zh2,SV.size,yc]⟩,⟨_,Go.Proofs.Tryz.underlying223,rfl,by decide⟩,fun _=>⟨by decide+kernel,Go.Proofs.Tryz.eqGuardType223⟩⟩
def zgu:TyI:=⟨.ptr,1,8,(.nilptr),false⟩
theorem z9b:yx prog 235 zgu:=⟨⟨_,yh Go.Proofs.Tryz.typeInfo235,rfl,rfl,fun _=>rfl⟩,⟨by simp [zgu,SV.ok,okL],by simp [zgu,Ty.agg],by simp [zgu,SV.size,yc]⟩,⟨_,Go.Proofs.Tryz.underlying235⟩,fun h=>by cases h⟩
def zgw:TyI:=⟨(.arr 3 99),3,24,(.arr64 3 [0,0,0]),true⟩
theorem z7u:yx prog 236 zgw:=⟨⟨_,yh Go.Proofs.Tryz.typeInfo236,rfl,rfl,fun _=>rfl⟩,⟨by simp [zgw,SV.ok,okL],by simp [zgw,Ty.agg],by simp [zgw,SV.size,yc]⟩,Go.Proofs.Tryz.underlying236,fun _=>⟨by decide+kernel,Go.Proofs.Tryz.eqGuardType236⟩⟩
def zg2:TyI:=⟨.ptr,1,8,(.nilptr),false⟩
theorem z5p:yx prog 238 zg2:=⟨⟨_,yh Go.Proofs.Tryz.typeInfo238,rfl,rfl,fun _=>rfl⟩,⟨by simp [zg2,SV.ok,okL],by simp [zg2,Ty.agg],by simp [zg2,SV.size,yc]⟩,⟨_,Go.Proofs.Tryz.underlying238⟩,fun h=>by cases h⟩
def zgk:TyI:=⟨(.arr 8 113),8,32,(.arr32 8 [0,0,0,0,0,0,0,0]),true⟩
theorem zvy:yx prog 239 zgk:=⟨⟨_,yh Go.Proofs.Tryz.typeInfo239,rfl,rfl,fun _=>rfl⟩,⟨by simp [zgk,SV.ok,okL],by simp [zgk,Ty.agg],by simp [zgk,SV.size,yc]⟩,Go.Proofs.Tryz.underlying239,fun _=>⟨by decide+kernel,Go.Proofs.Tryz.eqGuardType239⟩⟩
def zgo:TyI:=⟨(.arr 8 99),8,64,(.arr64 8 [0,0,0,0,0,0,0,0]),true⟩
theorem zu9:yx prog 242 zgo:=⟨⟨_,yh Go.Proofs.Tryz.typeInfo242,rfl,rfl,fun _=>rfl⟩,⟨by simp [zgo,SV.ok,okL],by simp [zgo,Ty.agg],by simp [zgo,SV.size,yc]⟩,Go.Proofs.Tryz.underlying242,fun _=>⟨by decide+kernel,Go.Proofs.Tryz.eqGuardType242⟩⟩
def zf8:TyI:=⟨(.arr 80 99),80,640,(.arr64 80 (List.replicate 80 0)),true⟩
theorem zwe:yx prog 245 zf8:=⟨⟨_,yh Go.Proofs.Tryz.typeInfo245,rfl,rfl,fun _=>rfl⟩,⟨by simp [zf8,SV.ok,okL],by simp [zf8,Ty.agg],by simp [zf8,SV.size,yc]⟩,Go.Proofs.Tryz.underlying245,fun _=>⟨by decide+kernel,Go.Proofs.Tryz.eqGuardType245⟩⟩
def zqw:TyI:=⟨(.struct [(0,3),(1,242),(9,245),(89,51),(90,99)]),91,744,(.agg [.int 0,.arr64 8 [0,0,0,0,0,0,0,0],.arr64 80 (List.replicate 80 0),.nilsl,.u64 0]),false⟩
def zgh:TyI:=⟨(.struct [(0,3),(1,242),(9,245),(89,51),(90,99)]),91,744,(.agg [.int 0,.arr64 8 [0,0,0,0,0,0,0,0],.arr64 80 (List.replicate 80 0),.nilsl,.u64 0]),false⟩
theorem zwz:yx prog 248 zgh:=⟨⟨_,yh Go.Proofs.Tryz.typeInfo248,rfl,rfl,fun _=>rfl⟩,⟨by simp [zgh,SV.ok,okL],by simp [zgh,Ty.agg],by simp [zgh,SV.size,yc]⟩,⟨_,Go.Proofs.Tryz.underlying248,rfl,by decide⟩,fun h=>by cases h⟩
def zge:TyI:=⟨(.arr 64 113),64,256,(.arr32 64 (List.replicate 64 0)),true⟩
theorem zxd:yx prog 249 zge:=⟨⟨_,yh Go.Proofs.Tryz.typeInfo249,rfl,rfl,fun _=>rfl⟩,⟨by simp [zge,SV.ok,okL],by simp [zge,Ty.agg],by simp [zge,SV.size,yc]⟩,Go.Proofs.Tryz.underlying249,fun _=>⟨by decide+kernel,Go.Proofs.Tryz.eqGuardType249⟩⟩
def zqy:TyI:=⟨.ptr,1,8,(.nilptr),false⟩
theorem yku:ty2.sz=1∧ty2.bytes=8∧ty3.sz=1∧ty3.bytes=8∧ty4.sz=1∧ty4.bytes=1∧ty5.sz=1∧ty5.bytes=1∧ty9.sz=1∧ty9.bytes=16∧zov.sz=1∧zov.bytes=24∧zll.sz=1∧zll.bytes=8∧z2j.sz=1∧z2j.bytes=8∧zmy.sz=1∧zmy.bytes=8∧z3u.sz=6∧z3u.bytes=64∧zcs.sz=6∧zcs.bytes=64∧z3l.sz=2∧z3l.bytes=24∧zkn.sz=2∧zkn.bytes=24∧zef.sz=1∧zef.bytes=8∧zei.sz=1∧zei.bytes=24∧z26.sz=1∧z26.bytes=8∧z3k.sz=1∧z3k.bytes=24∧z2i.sz=1∧z2i.bytes=24∧z2e.sz=6∧z2e.bytes=64∧z35.sz=1∧z35.bytes=24∧zmg.sz=1∧zmg.bytes=8∧z14.sz=2∧z14.bytes=16∧zlr.sz=2∧zlr.bytes=16∧z21.sz=5∧z21.bytes=48∧zlf.sz=5∧zlf.bytes=48∧z2m.sz=5∧z2m.bytes=56∧zmx.sz=5∧zmx.bytes=56∧z3a.sz=14∧z3a.bytes=152∧zmw.sz=14∧zmw.bytes=152∧z28.sz=1∧z28.bytes=8∧z3q.sz=5∧z3q.bytes=40∧z3h.sz=5∧z3h.bytes=40∧xl.sz=1∧xl.bytes=8∧zr3.sz=4∧zr3.bytes=48∧zfe.sz=4∧zfe.bytes=48∧ze8.sz=1∧ze8.bytes=8∧xw.sz=1∧xw.bytes=4∧zhe.sz=1∧zhe.bytes=24∧zsc.sz=3∧zsc.bytes=40∧zqv.sz=3∧zqv.bytes=40∧zrh.sz=2∧zrh.bytes=48∧zha.sz=2∧zha.bytes=48∧zgp.sz=1∧zgp.bytes=8∧zre.sz=3∧zre.bytes=40∧zho.sz=3∧zho.bytes=40∧zhd.sz=1∧zhd.bytes=8∧zay.sz=4∧zay.bytes=4∧zh7.sz=16∧zh7.bytes=64∧zhq.sz=5∧zhq.bytes=40∧zel.sz=16∧zel.bytes=16∧ze2.sz=1∧ze2.bytes=8∧zrt.sz=2∧zrt.bytes=16∧zco.sz=2∧zco.bytes=16∧zr0.sz=3∧zr0.bytes=24∧zgm.sz=3∧zgm.bytes=24∧zh1.sz=64∧zh1.bytes=64∧zhx.sz=16∧zhx.bytes=64∧zg9.sz=1∧zg9.bytes=8∧zhn.sz=1∧zhn.bytes=8∧zg5.sz=32∧zg5.bytes=256∧zhi.sz=16∧zhi.bytes=128∧zr9.sz=50∧zr9.bytes=400∧zg3.sz=50∧zg3.bytes=400∧zgl.sz=1∧zgl.bytes=8∧zrl.sz=2∧zrl.bytes=16∧zhr.sz=2∧zhr.bytes=16∧zfg.sz=256∧zfg.bytes=256∧ze4.sz=1∧ze4.bytes=24∧zsa.sz=257∧zsa.bytes=280∧zfm.sz=257∧zfm.bytes=280∧zh3.sz=5∧zh3.bytes=40∧zq4.sz=10∧zq4.bytes=80∧zh2.sz=10∧zh2.bytes=80∧zgu.sz=1∧zgu.bytes=8∧zgw.sz=3∧zgw.bytes=24∧zg2.sz=1∧zg2.bytes=8∧zgk.sz=8∧zgk.bytes=32∧zgo.sz=8∧zgo.bytes=64∧zf8.sz=80∧zf8.bytes=640∧zqw.sz=91∧zqw.bytes=744∧zgh.sz=91∧zgh.bytes=744∧zge.sz=64∧zge.bytes=256∧zqy.sz=1∧zqy.bytes=8:=by
  refine ⟨rfl,rfl,rfl,rfl,rfl,rfl,rfl,rfl,rfl,rfl,rfl,rfl,rfl,rfl,rfl,rfl,rfl,rfl,rfl,rfl,rfl,rfl,rfl,rfl,rfl,rfl,rfl,rfl,rfl,rfl,rfl,rfl,rfl,rfl,rfl,rfl,rfl,rfl,rfl,rfl,rfl,rfl,rfl,rfl,rfl,rfl,rfl,rfl,rfl,rfl,rfl,rfl,rfl,rfl,rfl,rfl,rfl,rfl,rfl,rfl,rfl,rfl,rfl,rfl,rfl,rfl,rfl,rfl,rfl,rfl,rfl,rfl,rfl,rfl,rfl,rfl,rfl,rfl,rfl,rfl,rfl,rfl,rfl,rfl,rfl,rfl,rfl,rfl,rfl,rfl,rfl,rfl,rfl,rfl,rfl,rfl,rfl,rfl,rfl,rfl,rfl,rfl,rfl,rfl,rfl,rfl,rfl,rfl,rfl,rfl,rfl,rfl,rfl,rfl,rfl,rfl,rfl,rfl,rfl,rfl,rfl,rfl,rfl,rfl,rfl,rfl,rfl,rfl,rfl,rfl,rfl,rfl,rfl,rfl,rfl,rfl,rfl,rfl,rfl,rfl,rfl,rfl,rfl,rfl,rfl,rfl,rfl,rfl,rfl,rfl,rfl,rfl,rfl,rfl,rfl,rfl,rfl,rfl,rfl,rfl,rfl,rfl,rfl,rfl,rfl,rfl⟩
theorem yk2:(∀{α:Type} {x y:List α},(x++y).length=x.length+y.length)∧(∀{α:Type} {i:Nat} {l:List α},(List.take i l).length=min i l.length)∧(∀{α:Type} {i:Nat} {l:List α},(List.drop i l).length=l.length-i)∧(∀{α:Type},([]:List α).length=0)∧(∀{α:Type} {a:α} {l:List α},(a ::l).length=l.length+1)∧(∀{α:Type} {n:Nat} {a:α},(List.replicate n a).length=n)∧(∀{α:Type} {l:List α} {i:Nat} {a:α},(l.set i a).length=l.length):=
  ⟨List.length_append,List.length_take,List.length_drop,List.length_nil,List.length_cons,List.length_replicate,List.length_set⟩
theorem sz:(∀(o:List (Nat×Nat)) (i e:Nat),off (yd o i e)=off o+i*e)∧(ty2.sz=1∧ty2.bytes=8∧ty3.sz=1∧ty3.bytes=8∧ty4.sz=1∧ty4.bytes=1∧ty5.sz=1∧ty5.bytes=1∧ty9.sz=1∧ty9.bytes=16∧zov.sz=1∧zov.bytes=24∧zll.sz=1∧zll.bytes=8∧z2j.sz=1∧z2j.bytes=8∧zmy.sz=1∧zmy.bytes=8∧z3u.sz=6∧z3u.bytes=64∧zcs.sz=6∧zcs.bytes=64∧z3l.sz=2∧z3l.bytes=24∧zkn.sz=2∧zkn.bytes=24∧zef.sz=1∧zef.bytes=8∧zei.sz=1∧zei.bytes=24∧z26.sz=1∧z26.bytes=8∧z3k.sz=1∧z3k.bytes=24∧z2i.sz=1∧z2i.bytes=24∧z2e.sz=6∧z2e.bytes=64∧z35.sz=1∧z35.bytes=24∧zmg.sz=1∧zmg.bytes=8∧z14.sz=2∧z14.bytes=16∧zlr.sz=2∧zlr.bytes=16∧z21.sz=5∧z21.bytes=48∧zlf.sz=5∧zlf.bytes=48∧z2m.sz=5∧z2m.bytes=56∧zmx.sz=5∧zmx.bytes=56∧z3a.sz=14∧z3a.bytes=152∧zmw.sz=14∧zmw.bytes=152∧z28.sz=1∧z28.bytes=8∧z3q.sz=5∧z3q.bytes=40∧z3h.sz=5∧z3h.bytes=40∧xl.sz=1∧xl.bytes=8∧zr3.sz=4∧zr3.bytes=48∧zfe.sz=4∧zfe.bytes=48∧ze8.sz=1∧ze8.bytes=8∧xw.sz=1∧xw.bytes=4∧zhe.sz=1∧zhe.bytes=24∧zsc.sz=3∧zsc.bytes=40∧zqv.sz=3∧zqv.bytes=40∧zrh.sz=2∧zrh.bytes=48∧zha.sz=2∧zha.bytes=48∧zgp.sz=1∧zgp.bytes=8∧zre.sz=3∧zre.bytes=40∧zho.sz=3∧zho.bytes=40∧zhd.sz=1∧zhd.bytes=8∧zay.sz=4∧zay.bytes=4∧zh7.sz=16∧zh7.bytes=64∧zhq.sz=5∧zhq.bytes=40∧zel.sz=16∧zel.bytes=16∧ze2.sz=1∧ze2.bytes=8∧zrt.sz=2∧zrt.bytes=16∧zco.sz=2∧zco.bytes=16∧zr0.sz=3∧zr0.bytes=24∧zgm.sz=3∧zgm.bytes=24∧zh1.sz=64∧zh1.bytes=64∧zhx.sz=16∧zhx.bytes=64∧zg9.sz=1∧zg9.bytes=8∧zhn.sz=1∧zhn.bytes=8∧zg5.sz=32∧zg5.bytes=256∧zhi.sz=16∧zhi.bytes=128∧zr9.sz=50∧zr9.bytes=400∧zg3.sz=50∧zg3.bytes=400∧zgl.sz=1∧zgl.bytes=8∧zrl.sz=2∧zrl.bytes=16∧zhr.sz=2∧zhr.bytes=16∧zfg.sz=256∧zfg.bytes=256∧ze4.sz=1∧ze4.bytes=24∧zsa.sz=257∧zsa.bytes=280∧zfm.sz=257∧zfm.bytes=280∧zh3.sz=5∧zh3.bytes=40∧zq4.sz=10∧zq4.bytes=80∧zh2.sz=10∧zh2.bytes=80∧zgu.sz=1∧zgu.bytes=8∧zgw.sz=3∧zgw.bytes=24∧zg2.sz=1∧zg2.bytes=8∧zgk.sz=8∧zgk.bytes=32∧zgo.sz=8∧zgo.bytes=64∧zf8.sz=80∧zf8.bytes=640∧zqw.sz=91∧zqw.bytes=744∧zgh.sz=91∧zgh.bytes=744∧zge.sz=64∧zge.bytes=256∧zqy.sz=1∧zqy.bytes=8):=⟨fun o i e=>zy o i e,yku⟩
theorem szl:((∀(o:List (Nat×Nat)) (i e:Nat),off (yd o i e)=off o+i*e)∧(ty2.sz=1∧ty2.bytes=8∧ty3.sz=1∧ty3.bytes=8∧ty4.sz=1∧ty4.bytes=1∧ty5.sz=1∧ty5.bytes=1∧ty9.sz=1∧ty9.bytes=16∧zov.sz=1∧zov.bytes=24∧zll.sz=1∧zll.bytes=8∧z2j.sz=1∧z2j.bytes=8∧zmy.sz=1∧zmy.bytes=8∧z3u.sz=6∧z3u.bytes=64∧zcs.sz=6∧zcs.bytes=64∧z3l.sz=2∧z3l.bytes=24∧zkn.sz=2∧zkn.bytes=24∧zef.sz=1∧zef.bytes=8∧zei.sz=1∧zei.bytes=24∧z26.sz=1∧z26.bytes=8∧z3k.sz=1∧z3k.bytes=24∧z2i.sz=1∧z2i.bytes=24∧z2e.sz=6∧z2e.bytes=64∧z35.sz=1∧z35.bytes=24∧zmg.sz=1∧zmg.bytes=8∧z14.sz=2∧z14.bytes=16∧zlr.sz=2∧zlr.bytes=16∧z21.sz=5∧z21.bytes=48∧zlf.sz=5∧zlf.bytes=48∧z2m.sz=5∧z2m.bytes=56∧zmx.sz=5∧zmx.bytes=56∧z3a.sz=14∧z3a.bytes=152∧zmw.sz=14∧zmw.bytes=152∧z28.sz=1∧z28.bytes=8∧z3q.sz=5∧z3q.bytes=40∧z3h.sz=5∧z3h.bytes=40∧xl.sz=1∧xl.bytes=8∧zr3.sz=4∧zr3.bytes=48∧zfe.sz=4∧zfe.bytes=48∧ze8.sz=1∧ze8.bytes=8∧xw.sz=1∧xw.bytes=4∧zhe.sz=1∧zhe.bytes=24∧zsc.sz=3∧zsc.bytes=40∧zqv.sz=3∧zqv.bytes=40∧zrh.sz=2∧zrh.bytes=48∧zha.sz=2∧zha.bytes=48∧zgp.sz=1∧zgp.bytes=8∧zre.sz=3∧zre.bytes=40∧zho.sz=3∧zho.bytes=40∧zhd.sz=1∧zhd.bytes=8∧zay.sz=4∧zay.bytes=4∧zh7.sz=16∧zh7.bytes=64∧zhq.sz=5∧zhq.bytes=40∧zel.sz=16∧zel.bytes=16∧ze2.sz=1∧ze2.bytes=8∧zrt.sz=2∧zrt.bytes=16∧zco.sz=2∧zco.bytes=16∧zr0.sz=3∧zr0.bytes=24∧zgm.sz=3∧zgm.bytes=24∧zh1.sz=64∧zh1.bytes=64∧zhx.sz=16∧zhx.bytes=64∧zg9.sz=1∧zg9.bytes=8∧zhn.sz=1∧zhn.bytes=8∧zg5.sz=32∧zg5.bytes=256∧zhi.sz=16∧zhi.bytes=128∧zr9.sz=50∧zr9.bytes=400∧zg3.sz=50∧zg3.bytes=400∧zgl.sz=1∧zgl.bytes=8∧zrl.sz=2∧zrl.bytes=16∧zhr.sz=2∧zhr.bytes=16∧zfg.sz=256∧zfg.bytes=256∧ze4.sz=1∧ze4.bytes=24∧zsa.sz=257∧zsa.bytes=280∧zfm.sz=257∧zfm.bytes=280∧zh3.sz=5∧zh3.bytes=40∧zq4.sz=10∧zq4.bytes=80∧zh2.sz=10∧zh2.bytes=80∧zgu.sz=1∧zgu.bytes=8∧zgw.sz=3∧zgw.bytes=24∧zg2.sz=1∧zg2.bytes=8∧zgk.sz=8∧zgk.bytes=32∧zgo.sz=8∧zgo.bytes=64∧zf8.sz=80∧zf8.bytes=640∧zqw.sz=91∧zqw.bytes=744∧zgh.sz=91∧zgh.bytes=744∧zge.sz=64∧zge.bytes=256∧zqy.sz=1∧zqy.bytes=8))∧(∀{α:Type} {x y:List α},(x++y).length=x.length+y.length)∧(∀{α:Type} {i:Nat} {l:List α},(List.take i l).length=min i l.length)∧(∀{α:Type} {i:Nat} {l:List α},(List.drop i l).length=l.length-i)∧(∀{α:Type},([]:List α).length=0)∧(∀{α:Type} {a:α} {l:List α},(a ::l).length=l.length+1)∧(∀{α:Type} {n:Nat} {a:α},(List.replicate n a).length=n)∧(∀{α:Type} {l:List α} {i:Nat} {a:α},(l.set i a).length=l.length):=⟨sz,yk2⟩
theorem pk {a:Array Oper} {b:Ctx} {c:List PStep} (h:zmi a b c=true):zmi a b c=true:=h
theorem zq {p k:Prop} (h:k) (hp:p:=by first|assumption|omega|exact pk (by kernel_rfl)|(unfold ya;omega)|exact UInt8.toNat_lt _|decide+kernel|(constructor<;>first|assumption|omega)|(simp only [sz,off,zsw]<;>omega)|(simp only [szl,off,zsw]<;>omega)|(constructor<;>first|assumption|(simp only [szl,off,zsw]<;>omega))):Pre p k:=zr hp h
theorem zf {t:Bool} {a b:Prop} (h:a) (e:t=true:=by first|rfl|assumption|(rw [decide_eq_true_eq];omega)|(simp<;>omega)):zx t a b:=zj e h
theorem zg {t:Bool} {a b:Prop} (h:b) (e:t=false:=by first|rfl|assumption|(rw [decide_eq_false_iff_not];omega)|(simp<;>omega)):zx t a b:=zk e h
structure Hid (Q:Prop):Prop where
  out:Q
theorem za {P Q:Prop} (h:Q) (w:Hid Q→P:=by
    intro h
    repeat ((conv=>whnf);first|refine zq ?_|refine zb ?_|refine zf ?_|refine zg ?_)
    conv=>whnf
    exact h.out):P:=w ⟨h⟩
theorem zo {p:Prop} (h:p:=by
    repeat ((conv=>whnf);refine zb ?_)
    exact trivial):p:=h
theorem zl {v u:SV} {p:Prop} (e:v=u) (h:p:=by
    repeat ((conv=>whnf);refine zb ?_)
    exact trivial):zqt v u p:=by subst e;exact zb h
theorem zd {n0:Nat} {r r':SV} {hp hp':List Blk} {K:SV→List Blk→Prop} (gl:List Nat) (hk:K r' hp') (h:xt n0 gl [(0,r)] hp [(0,r')] hp' True:=by
    repeat ((conv=>whnf);refine zb ?_)
    exact trivial):zcc n0 r hp K:=y5 gl hk h
end Go.Sym.Z

namespace Go.Sym.Aes
open Go.Sym.Lp
def tw (x:UInt8):UInt8:=(x<<<(1:UInt8))^^^((27:UInt8)&&&((0:UInt8)-(x>>>(7:UInt8))))
def rl8 (x:UInt8) (n:Nat):UInt8:=x<<<UInt8.ofNat n|||x>>>UInt8.ofNat (8-n)
def q1 (q:UInt8):UInt8:=q^^^q<<<1
def q2 (q:UInt8):UInt8:=q1 q^^^q1 q<<<2
def q3 (q:UInt8):UInt8:=q2 q^^^q2 q<<<4
def q4 (q:UInt8):UInt8:=q3 q^^^((9:UInt8)&&&((0:UInt8)-(q3 q>>>(7:UInt8))))
def pq:Nat→UInt8×UInt8
  |0=>(1,1)
  |i+1=>((pq i).1^^^tw (pq i).1,q4 (pq i).2)
def sb (q:UInt8):UInt8:=99^^^q^^^rl8 q 1^^^rl8 q 2^^^rl8 q 3^^^rl8 q 4
def zsg:Nat→List UInt8
  |0=>99 ::List.replicate 255 0
  |i+1=>(zsg i).set (pq (i+1)).1.toNat (sb (pq (i+1)).2)
set_option maxRecDepth 100000
theorem zqz: ∀i,(zsg i).length=256
  |0=>rfl
  |i+1=>by simp only [zsg,List.length_set];exact zqz i
def box:List UInt8:= [99,124,119,123,242,107,111,197,48,1,103,43,254,215,171,118,202,130,201,125,250,89,71,240,173,212,162,175,156,164,114,192,183,253,147,38,54,63,247,204,52,165,229,241,113,216,49,21,4,199,35,195,24,150,5,154,7,18,128,226,235,39,178,117,9,131,44,26,27,110,90,160,82,59,214,179,41,227,47,132,83,209,0,237,32,252,177,91,106,203,190,57,74,76,88,207,208,239,170,251,67,77,51,133,69,249,2,127,80,60,159,168,81,163,64,143,146,157,56,245,188,182,218,33,16,255,243,210,205,12,19,236,95,151,68,23,196,167,126,61,100,93,25,115,96,129,79,220,34,42,144,136,70,238,184,20,222,94,11,219,224,50,58,10,73,6,36,92,194,211,172,98,145,149,228,121,231,200,55,109,141,213,78,169,108,86,244,234,101,122,174,8,186,120,37,46,28,166,180,198,232,221,116,31,75,189,139,138,112,62,181,102,72,3,246,14,97,53,87,185,134,193,29,158,225,248,152,17,105,217,142,148,155,30,135,233,206,85,40,223,140,161,137,13,191,230,66,104,65,153,45,15,176,84,187,22]
theorem yfp: ∀i,i<255→((pq (i+1)).1=1↔i+1=255):=by decide+kernel
theorem yal:zsg 255=box:=by decide+kernel
end Go.Sym.Aes
namespace Go.Sym.Aes
open Go.Sym.Lp
def rc:Nat→UInt8
  |0=>1
  |k+1=>tw (rc k)
def x2 (n i:Nat) (t:List UInt8):List UInt8:=
  if i%n=0 then [box.getD (t.getD 1 0).toNat 0^^^rc ((i-1)/ n),box.getD (t.getD 2 0).toNat 0,box.getD (t.getD 3 0).toNat 0,box.getD (t.getD 0 0).toNat 0]
  else if n=8∧i%n=4 then (List.range 4).map fun k=>box.getD (t.getD k 0).toNat 0 else t
def xm (key:List UInt8) (n i:Nat) (W:List UInt8):List UInt8:=
  if i<n then (key.drop (4*i)).take 4
  else (List.range 4).map fun k=>W.getD (4*(i-n)+k) 0^^^(x2 n i ((W.drop (4*(i-1))).take 4)).getD k 0
def ks (key:List UInt8) (n:Nat):Nat→List UInt8
  |0=> []
  |i+1=>ks key n i++xm key n i (ks key n i)
theorem zc3 {key:List UInt8} {n i:Nat} (hk:key.length=4*n) (W:List UInt8):(xm key n i W).length=4:=by
  unfold xm
  split
  ·rw [List.length_take,List.length_drop];omega
  ·simp
theorem zbe {key:List UInt8} {n:Nat} (hk:key.length=4*n): ∀i,(ks key n i).length=4*i
  |0=>rfl
  |i+1=>by simp only [ks,List.length_append,zbe hk i,zc3 hk];omega
end Go.Sym.Aes
namespace Go.Sym.Aes
open Go.Sym.Lp
def kw (key:List UInt8) (n N i:Nat):List UInt8:=ks key n i++List.replicate (N-4*i) 0
section
variable {key:List UInt8} {n N i:Nat} (hk:key.length=4*n)
include hk
theorem z4h (h:4*i≤N):(kw key n N i).length=N:=by
  unfold kw;rw [List.length_append,zbe hk,List.length_replicate];omega
theorem zpq {j:Nat} (hj:j<4*i):(kw key n N i).getD j 0=(ks key n i).getD j 0:=by
  unfold kw
  rw [List.getD_eq_getElem?_getD,List.getElem?_append_left (by rw [zbe hk];exact hj),List.getD_eq_getElem?_getD]
theorem z9m {j:Nat} (hj:j+4≤4*i):((kw key n N i).drop j).take 4=((ks key n i).drop j).take 4:=by
  unfold kw
  rw [List.drop_append_of_le_length (by rw [zbe hk];omega),List.take_append_of_le_length (by rw [List.length_drop,zbe hk];omega)]
theorem z1q (h:4*i+4≤N) {v:List UInt8} (hv:v=xm key n i (ks key n i)):(kw key n N i).take (4*i)++v++(kw key n N i).drop (4*i+4)=kw key n N (i+1):=by
  have hl:=zbe hk i
  unfold kw
  subst hv
  rw [List.take_left' hl,List.drop_append,List.drop_eq_nil_of_le (by omega),List.nil_append,hl,List.drop_replicate,show N-4*i-(4*i+4-4*i)=N-4*(i+1) by omega]
  simp only [ks]
end
theorem z77 {key:List UInt8} {n N i:Nat} (h:N=4*i):kw key n N i=ks key n i:=by unfold kw;rw [h,Nat.sub_self];simp
theorem zni {n i:Nat} (hn:0<n) (hi:n≤i) (h:i%n=0):tw (rc ((i-1)/ n))=rc (i/ n):=by
  obtain ⟨c,rfl⟩:=Nat.dvd_of_mod_eq_zero h
  have hc:0<c:=by
    rcases Nat.eq_zero_or_pos c with rfl|h
    ·omega
    ·exact h
  obtain ⟨d,rfl⟩: ∃d,c=d+1:=⟨c-1,by omega⟩
  have e1:(n*(d+1)-1)/ n=d:=by
    rw [Nat.mul_succ,show n*d+n-1=n*d+(n-1) by omega,Nat.mul_add_div hn,Nat.div_eq_of_lt (show n-1<n by omega),Nat.add_zero]
  rw [e1,Nat.mul_div_cancel_left _ hn]
  rfl
theorem zir {n i:Nat} (hn:0<n) (h: ¬i%n=0):(i-1)/ n=i/ n:=by
  have h1:=Nat.div_add_mod i n
  have h2:=Nat.mod_lt i hn
  have e:i-1=n*(i/ n)+(i%n-1):=by omega
  rw [e,Nat.mul_add_div hn,Nat.div_eq_of_lt (show i%n-1<n by omega),Nat.add_zero]
theorem zu4 {n i:Nat} (h:i<n):(i-1)/ n=i/ n:=by rw [Nat.div_eq_of_lt h,Nat.div_eq_of_lt (by omega)]
end Go.Sym.Aes
namespace Go.Sym.Aes
open Go.Sym.Lp
def kc (W:List UInt8) (i:Nat):List UInt8:=W.take (4*i)++List.replicate (W.length-4*i) 0
theorem z4p {W:List UInt8} {i:Nat} (h:4*i≤W.length):(kc W i).length=W.length:=by unfold kc;simp;omega
theorem z0c (W:List UInt8):kc W 0=List.replicate W.length 0:=by unfold kc;simp
theorem z7h {W:List UInt8} {i:Nat} (h:W.length=4*i):kc W i=W:=by unfold kc;rw [h,Nat.sub_self,List.take_of_length_le (by omega)];simp
theorem ya9 {W:List UInt8} {i:Nat} (h:4*i+4≤W.length):(kc W i).take (4*i)++(W.drop (4*i)).take 4++(kc W i).drop (4*i+4)=kc W (i+1):=by
  unfold kc
  have hl:(W.take (4*i)).length=4*i:=by rw [List.length_take];omega
  have hd:List.drop (4*i+4) (W.take (4*i))= []:=List.drop_eq_nil_of_le (by omega)
  rw [List.take_left' hl,List.drop_append,hd,List.nil_append,hl,List.drop_replicate,show W.length-4*i-(4*i+4-4*i)=W.length-4*(i+1) by omega]
  congr 1
  rw [Nat.mul_succ,List.take_add]
theorem zby {n i:Nat} {t:List UInt8} (h:t.length=4):(x2 n i t).length=4:=by
  unfold x2;split
  ·rfl
  ·split
   ·simp
   ·exact h
end Go.Sym.Aes
namespace Go.Sym.Aes
theorem zna:box.length=256:=by decide+kernel
theorem zdn (x:UInt8):x.toNat<box.length:=by rw [zna];exact x.toNat_lt
end Go.Sym.Aes
namespace Go.Sym.Aes
open Go.Sym.Lp
def zqn (ks:List UInt8) (r:Nat) (x:List UInt8):List UInt8:=(List.range 16).map fun j=>x.getD j 0^^^ks.getD (16*r+j) 0
def xk (x:List UInt8):List UInt8:=(List.range 16).map fun i=>box.getD (x.getD ((i+4*(i%4))%16) 0).toNat 0
def zjl (t:List UInt8) (i:Nat):UInt8:=
  t.getD i 0^^^(t.getD (i/ 4*4) 0^^^t.getD (i/ 4*4+1) 0^^^t.getD (i/ 4*4+2) 0^^^t.getD (i/ 4*4+3) 0^^^tw (t.getD i 0^^^t.getD (i/ 4*4+(i+1)%4) 0))
def zgq (t:List UInt8):List UInt8:=(List.range 16).map (zjl t)
def rnd (ks:List UInt8) (R r:Nat) (x:List UInt8):List UInt8:=zqn ks r (if r<R-1 then zgq (xk x) else xk x)
def zbs (ks:List UInt8) (R:Nat) (x:List UInt8):Nat→List UInt8
  |0=>zqn ks 0 x
  |r+1=>rnd ks R (r+1) (zbs ks R x r)
def enc (ks:List UInt8) (R:Nat) (x:List UInt8):List UInt8:=zbs ks R x (R-1)
theorem zu1 (ks:List UInt8) (r:Nat) (x:List UInt8):(zqn ks r x).length=16:=zz _ _
theorem zkb (x:List UInt8):(xk x).length=16:=zz _ _
theorem zv0 (x:List UInt8):(zgq x).length=16:=zz _ _
theorem zib (ks:List UInt8) (R:Nat) (x:List UInt8): ∀r,(zbs ks R x r).length=16
  |0=>zu1 _ _ _
  |_+1=>zu1 _ _ _
theorem zis (ks:List UInt8) (R:Nat) (x:List UInt8):(enc ks R x).length=16:=zib _ _ _ _
theorem z4m {T:List UInt8} {g:Nat→UInt8} {a:Nat} (h:a+4≤T.length) {u0 u1 u2 u3:UInt8}
    (h0:T.getD a 0^^^u0=g a) (h1:T.getD (a+1) 0^^^u1=g (a+1)) (h2:T.getD (a+2) 0^^^u2=g (a+2)) (h3:T.getD (a+3) 0^^^u3=g (a+3)) {X0 X1 X2 X3:List UInt8}
    (e0:X0=(ovr T 0 g a).set a ((ovr T 0 g a).getD a 0^^^u0)) (e1:X1=X0.set (a+1) (X0.getD (a+1) 0^^^u1)) (e2:X2=X1.set (a+2) (X1.getD (a+2) 0^^^u2)) (e3:X3=X2.set (a+3) (X2.getD (a+3) 0^^^u3)):
    X3=ovr T 0 g (a+4):=by
  have k0:X0=ovr T 0 g (a+1):=by
    rw [e0,yr (by omega) _ (by omega)]
    exact z8 (by omega) h0 (by omega)
  have k1:X1=ovr T 0 g (a+2):=by
    rw [e1,k0,yr (by omega) _ (by omega)]
    exact z8 (by omega) h1 (by omega)
  have k2:X2=ovr T 0 g (a+3):=by
    rw [e2,k1,yr (by omega) _ (by omega)]
    exact z8 (by omega) h2 (by omega)
  rw [e3,k2,yr (by omega) _ (by omega)]
  exact z8 (by omega) h3 (by omega)
end Go.Sym.Aes
namespace Go.Sym.Aes
open Go.Sym.Lp
theorem zii (T:List UInt8) (c j:Nat) (h:j<4):zjl T (4*c+j)=T.getD (4*c+j) 0^^^(T.getD (4*c) 0^^^T.getD (4*c+1) 0^^^T.getD (4*c+2) 0^^^T.getD (4*c+3) 0^^^tw (T.getD (4*c+j) 0^^^T.getD (4*c+(j+1)%4) 0)):=by
  unfold zjl
  have e1:(4*c+j)/ 4*4=4*c:=by omega
  have e2:(4*c+j+1)%4=(j+1)%4:=by omega
  rw [e1,e2]
theorem z4j {T:List UInt8} {c:Nat} (h:4*c+4≤T.length) {Y:List UInt8} (hY:Y=ovr T 0 (zjl T) (4*c)) {al:UInt8} (ha:al=Y.getD (4*c) 0^^^Y.getD (4*c+1) 0^^^Y.getD (4*c+2) 0^^^Y.getD (4*c+3) 0)
    {X0 X1 X2 X3:List UInt8} (e0:X0=Y.set (4*c) (Y.getD (4*c) 0^^^(al^^^tw (Y.getD (4*c) 0^^^Y.getD (4*c+1) 0))))
    (e1:X1=X0.set (4*c+1) (X0.getD (4*c+1) 0^^^(al^^^tw (Y.getD (4*c+1) 0^^^Y.getD (4*c+2) 0))))
    (e2:X2=X1.set (4*c+2) (X1.getD (4*c+2) 0^^^(al^^^tw (Y.getD (4*c+2) 0^^^Y.getD (4*c+3) 0))))
    (e3:X3=X2.set (4*c+3) (X2.getD (4*c+3) 0^^^(al^^^tw (Y.getD (4*c+3) 0^^^Y.getD (4*c) 0)))):X3=ovr T 0 (zjl T) (4*(c+1)):=by
  have hg: ∀j,4*c≤j→Y.getD j 0=T.getD j 0:=fun j hj=>by rw [hY];exact yr (by omega) _ (by omega) _
  rw [hg _ (by omega),hg _ (by omega),hg _ (by omega),hg _ (by omega)] at ha
  have m0:=zii T c 0 (by omega)
  have m1:=zii T c 1 (by omega)
  have m2:=zii T c 2 (by omega)
  have m3:=zii T c 3 (by omega)
  rw [←ha] at m0 m1 m2 m3
  rw [Nat.add_zero] at m0
  refine z4m (by omega) m0.symm m1.symm m2.symm m3.symm (X0:=X0) (X1:=X1) (X2:=X2) ?_ ?_ ?_ ?_
  ·rw [e0,←hY,hg (4*c) (by omega),hg (4*c+1) (by omega)]
  ·rw [e1,hg (4*c+1) (by omega),hg (4*c+2) (by omega)]
  ·rw [e2,hg (4*c+2) (by omega),hg (4*c+3) (by omega)]
  ·rw [e3,hg (4*c+3) (by omega),hg (4*c) (by omega)];rfl
end Go.Sym.Aes
namespace Go.Sym.Aes
open Go.Sym.Lp
theorem z7m (x:UInt8):tw x=if 127<x.toNat then x<<<1^^^27 else x<<<1:=by
  have k: ∀n,n<256→tw (UInt8.ofNat n)=if 127<(UInt8.ofNat n).toNat then (UInt8.ofNat n)<<<1^^^27 else (UInt8.ofNat n)<<<1:=by decide+kernel
  have h:=k x.toNat x.toNat_lt
  rwa [UInt8.ofNat_toNat] at h
theorem yhv {x:UInt8} (h:127<x.toNat):tw x=x<<<1^^^27:=by rw [z7m,if_pos h]
theorem yhb {x:UInt8} (h: ¬127<x.toNat):tw x=x<<<1:=by rw [z7m,if_neg h]
end Go.Sym.Aes
namespace Go.Sym.Aes
open Go.Sym.Lp
theorem take4 {l:List UInt8} {a:Nat} (h:a+4≤l.length):(l.drop a).take 4= [l.getD a 0,l.getD (a+1) 0,l.getD (a+2) 0,l.getD (a+3) 0]:=by
  apply List.ext_getElem?
  intro j
  have g: ∀k,k<l.length→some (l.getD k 0)=l[k]?:=fun k hk=>by rw [List.getD_eq_getElem?_getD,List.getElem?_eq_getElem hk];rfl
  by_cases h4:j<4
  ·rw [List.getElem?_take_of_lt h4,List.getElem?_drop]
   have:j=0∨j=1∨j=2∨j=3:=by omega
   rcases this with rfl|rfl|rfl|rfl
   ·rw [Nat.add_zero];exact (g a (by omega)).symm
   ·exact (g (a+1) (by omega)).symm
   ·exact (g (a+2) (by omega)).symm
   ·exact (g (a+3) (by omega)).symm
  ·rw [List.getElem?_eq_none (by rw [List.length_take];omega),List.getElem?_eq_none (by show 4≤j;omega)]
end Go.Sym.Aes
namespace Go.Sym.Aes
theorem yaq:List.append (List.append ([99,124,119,123,242,107,111,197,48,1,103,43,254,215,171,118,202,130,201,125,250,89,71,240,173,212,162,175,156,164,114,192,183,253,147,38,54,63,247,204,52,165,229,241,113,216,49,21,4,199,35,195,24,150,5,154,7,18,128,226,235,39,178,117]:List UInt8) [9,131,44,26,27,110,90,160,82,59,214,179,41,227,47,132,83,209,0,237,32,252,177,91,106,203,190,57,74,76,88,207,208,239,170,251,67,77,51,133,69,249,2,127,80,60,159,168,81,163,64,143,146,157,56,245,188,182,218,33,16,255,243,210]) (List.append [205,12,19,236,95,151,68,23,196,167,126,61,100,93,25,115,96,129,79,220,34,42,144,136,70,238,184,20,222,94,11,219,224,50,58,10,73,6,36,92,194,211,172,98,145,149,228,121,231,200,55,109,141,213,78,169,108,86,244,234,101,122,174,8] [186,120,37,46,28,166,180,198,232,221,116,31,75,189,139,138,112,62,181,102,72,3,246,14,97,53,87,185,134,193,29,158,225,248,152,17,105,217,142,148,155,30,135,233,206,85,40,223,140,161,137,13,191,230,66,104,65,153,45,15,176,84,187,22])=box:=by decide+kernel
end Go.Sym.Aes
namespace Go.Sym.Aes
theorem z1v (key:List UInt8) (n:Nat):ks key n 0= []:=rfl
theorem zdu (key:List UInt8) (n i:Nat):ks key n (i+1)=ks key n i++xm key n i (ks key n i):=rfl
end Go.Sym.Aes
