/-
  Contracts of functions of the program, each said of symbolic values, and plain laws; no condition beyond each statement's own.
-/
import Derived.Test.YtmmpgjcpielefaaGreatGLRecActs17
import Derived.Test.YtmmpgjcpielefaaGreatRows
set_option linter.unusedSimpArgs false
set_option linter.unusedVariables false
namespace Go.Sym.Z
open Go.Proofs.Tryz
set_option maxRecDepth 100000
def ty2:TyI:=⟨(.int .i64),1,8,(.int 0),false⟩
def ty3:TyI:=⟨(.int .i64),1,8,(.int 0),false⟩
theorem zcs:yx prog 3 ty3:=⟨⟨_,yh Go.Proofs.Tryz.typeInfo3,rfl,rfl,fun _=>rfl⟩,⟨by simp [ty3,SV.ok,okL],by simp [ty3,Ty.agg],by simp [ty3,SV.size,yc]⟩,Go.Proofs.Tryz.underlying3,fun h=>by cases h⟩
def ty4:TyI:=⟨.bool,1,1,(.bool false),false⟩
theorem zc1:yx prog 4 ty4:=⟨⟨_,yh Go.Proofs.Tryz.typeInfo4,rfl,rfl,fun _=>rfl⟩,⟨by simp [ty4,SV.ok,okL],by simp [ty4,Ty.agg],by simp [ty4,SV.size,yc]⟩,Go.Proofs.Tryz.underlying4,fun h=>by cases h⟩
def ty5:TyI:=⟨(.int .u8),1,1,(.u8 0),false⟩
theorem zct:yx prog 5 ty5:=⟨⟨_,yh Go.Proofs.Tryz.typeInfo5,rfl,rfl,fun _=>rfl⟩,⟨by simp [ty5,SV.ok,okL],by simp [ty5,Ty.agg],by simp [ty5,SV.size,yc]⟩,Go.Proofs.Tryz.underlying5,fun h=>by cases h⟩
def ty9:TyI:=⟨.str,1,16,(.str []),false⟩
theorem zcw:yx prog 9 ty9:=⟨⟨_,yh Go.Proofs.Tryz.typeInfo9,rfl,rfl,fun _=>rfl⟩,⟨by simp [ty9,SV.ok,okL],by simp [ty9,Ty.agg],by simp [ty9,SV.size,yc]⟩,Go.Proofs.Tryz.underlying9,fun h=>by cases h⟩
def zpr:TyI:=⟨(.sl 33),1,24,(.nilsl),false⟩
theorem ycb:yx prog 22 zpr:=⟨⟨_,yh Go.Proofs.Tryz.typeInfo22,rfl,rfl,fun _=>rfl⟩,⟨by simp [zpr,SV.ok,okL],by simp [zpr,Ty.agg],by simp [zpr,SV.size,yc]⟩,Go.Proofs.Tryz.underlying22,fun h=>by cases h⟩
def zl8:TyI:=⟨.ptr,1,8,(.nilptr),false⟩
theorem ztb:yx prog 23 zl8:=⟨⟨_,yh Go.Proofs.Tryz.typeInfo23,rfl,rfl,fun _=>rfl⟩,⟨by simp [zl8,SV.ok,okL],by simp [zl8,Ty.agg],by simp [zl8,SV.size,yc]⟩,⟨_,Go.Proofs.Tryz.underlying23⟩,fun h=>by cases h⟩
def z28:TyI:=⟨(.int .i64),1,8,(.int 0),false⟩
def zmu:TyI:=⟨.ptr,1,8,(.nilptr),false⟩
theorem z06:yx prog 27 zmu:=⟨⟨_,yh Go.Proofs.Tryz.typeInfo27,rfl,rfl,fun _=>rfl⟩,⟨by simp [zmu,SV.ok,okL],by simp [zmu,Ty.agg],by simp [zmu,SV.size,yc]⟩,⟨_,Go.Proofs.Tryz.underlying27⟩,fun h=>by cases h⟩
def z20:TyI:=⟨(.struct [(0,3),(1,9),(2,3),(3,9),(4,3),(5,4)]),6,64,(.agg [.int 0,.str [],.int 0,.str [],.int 0,.bool false]),true⟩
def zc3:TyI:=⟨(.struct [(0,3),(1,9),(2,3),(3,9),(4,3),(5,4)]),6,64,(.agg [.int 0,.str [],.int 0,.str [],.int 0,.bool false]),true⟩
theorem ty33_ok:yx prog 33 zc3:=⟨⟨_,yh Go.Proofs.Tryz.typeInfo33,rfl,rfl,fun _=>rfl⟩,⟨by simp [zc3,SV.ok,okL],by simp [zc3,Ty.agg],by simp [zc3,SV.size,yc]⟩,⟨_,Go.Proofs.Tryz.underlying33,rfl,by decide⟩,fun _=>⟨by decide+kernel,Go.Proofs.Tryz.eqGuardType33⟩⟩
def z14:TyI:=⟨(.struct [(0,3),(1,9)]),2,24,(.agg [.int 0,.str []]),true⟩
def zjw:TyI:=⟨(.struct [(0,3),(1,9)]),2,24,(.agg [.int 0,.str []]),true⟩
theorem zm9:yx prog 43 zjw:=⟨⟨_,yh Go.Proofs.Tryz.typeInfo43,rfl,rfl,fun _=>rfl⟩,⟨by simp [zjw,SV.ok,okL],by simp [zjw,Ty.agg],by simp [zjw,SV.size,yc]⟩,⟨_,Go.Proofs.Tryz.underlying43,rfl,by decide⟩,fun _=>⟨by decide+kernel,Go.Proofs.Tryz.eqGuardType43⟩⟩
def zd5:TyI:=⟨(.int .u64),1,8,(.u64 0),false⟩
theorem zbj:yx prog 48 zd5:=⟨⟨_,yh Go.Proofs.Tryz.typeInfo48,rfl,rfl,fun _=>rfl⟩,⟨by simp [zd5,SV.ok,okL],by simp [zd5,Ty.agg],by simp [zd5,SV.size,yc]⟩,Go.Proofs.Tryz.underlying48,fun h=>by cases h⟩
def zee:TyI:=⟨(.sl 5),1,24,(.nilsl),false⟩
theorem zbi:yx prog 51 zee:=⟨⟨_,yh Go.Proofs.Tryz.typeInfo51,rfl,rfl,fun _=>rfl⟩,⟨by simp [zee,SV.ok,okL],by simp [zee,Ty.agg],by simp [zee,SV.size,yc]⟩,Go.Proofs.Tryz.underlying51,fun h=>by cases h⟩
def z3z:TyI:=⟨.ptr,1,8,(.nilptr),false⟩
def z2p:TyI:=⟨(.sl 3),1,24,(.nilsl),false⟩
def z37:TyI:=⟨(.sl 63),1,24,(.nilsl),false⟩
def z2o:TyI:=⟨(.struct [(0,3),(1,9),(2,3),(3,9),(4,3),(5,4)]),6,64,(.agg [.int 0,.str [],.int 0,.str [],.int 0,.bool false]),true⟩
def z19:TyI:=⟨(.sl 9),1,24,(.nilsl),false⟩
def zll:TyI:=⟨.ptr,1,8,(.nilptr),false⟩
theorem zsw:yx prog 68 zll:=⟨⟨_,yh Go.Proofs.Tryz.typeInfo68,rfl,rfl,fun _=>rfl⟩,⟨by simp [zll,SV.ok,okL],by simp [zll,Ty.agg],by simp [zll,SV.size,yc]⟩,⟨_,Go.Proofs.Tryz.underlying68⟩,fun h=>by cases h⟩
def z3u:TyI:=⟨(.struct [(0,3),(1,68)]),2,16,(.agg [.int 0,.nilptr]),true⟩
def zld:TyI:=⟨(.struct [(0,3),(1,68)]),2,16,(.agg [.int 0,.nilptr]),true⟩
theorem zus:yx prog 70 zld:=⟨⟨_,yh Go.Proofs.Tryz.typeInfo70,rfl,rfl,fun _=>rfl⟩,⟨by simp [zld,SV.ok,okL],by simp [zld,Ty.agg],by simp [zld,SV.size,yc]⟩,⟨_,Go.Proofs.Tryz.underlying70,rfl,by decide⟩,fun _=>⟨by decide+kernel,Go.Proofs.Tryz.eqGuardType70⟩⟩
def z30:TyI:=⟨(.struct [(0,70),(2,68),(3,9),(4,3)]),5,48,(.agg [.int 0,.nilptr,.nilptr,.str [],.int 0]),true⟩
def zl6:TyI:=⟨(.struct [(0,70),(2,68),(3,9),(4,3)]),5,48,(.agg [.int 0,.nilptr,.nilptr,.str [],.int 0]),true⟩
theorem zst:yx prog 74 zl6:=⟨⟨_,yh Go.Proofs.Tryz.typeInfo74,rfl,rfl,fun _=>rfl⟩,⟨by simp [zl6,SV.ok,okL],by simp [zl6,Ty.agg],by simp [zl6,SV.size,yc]⟩,⟨_,Go.Proofs.Tryz.underlying74,rfl,by decide⟩,fun _=>⟨by decide+kernel,Go.Proofs.Tryz.eqGuardType74⟩⟩
def z3i:TyI:=⟨(.struct [(0,3),(1,9),(2,9),(3,3),(4,4)]),5,56,(.agg [.int 0,.str [],.str [],.int 0,.bool false]),true⟩
def zmx:TyI:=⟨(.struct [(0,3),(1,9),(2,9),(3,3),(4,4)]),5,56,(.agg [.int 0,.str [],.str [],.int 0,.bool false]),true⟩
theorem z1d:yx prog 76 zmx:=⟨⟨_,yh Go.Proofs.Tryz.typeInfo76,rfl,rfl,fun _=>rfl⟩,⟨by simp [zmx,SV.ok,okL],by simp [zmx,Ty.agg],by simp [zmx,SV.size,yc]⟩,⟨_,Go.Proofs.Tryz.underlying76,rfl,by decide⟩,fun _=>⟨by decide+kernel,Go.Proofs.Tryz.eqGuardType76⟩⟩
def z2y:TyI:=⟨(.struct [(0,3),(1,3),(2,76),(7,76),(12,9),(13,3)]),14,152,(.agg [.int 0,.int 0,.int 0,.str [],.str [],.int 0,.bool false,.int 0,.str [],.str [],.int 0,.bool false,.str [],.int 0]),true⟩
def zmy:TyI:=⟨(.struct [(0,3),(1,3),(2,76),(7,76),(12,9),(13,3)]),14,152,(.agg [.int 0,.int 0,.int 0,.str [],.str [],.int 0,.bool false,.int 0,.str [],.str [],.int 0,.bool false,.str [],.int 0]),true⟩
theorem z1p:yx prog 78 zmy:=⟨⟨_,yh Go.Proofs.Tryz.typeInfo78,rfl,rfl,fun _=>rfl⟩,⟨by simp [zmy,SV.ok,okL],by simp [zmy,Ty.agg],by simp [zmy,SV.size,yc]⟩,⟨_,Go.Proofs.Tryz.underlying78,rfl,by decide⟩,fun _=>⟨by decide+kernel,Go.Proofs.Tryz.eqGuardType78⟩⟩
def z2t:TyI:=⟨.ptr,1,8,(.nilptr),false⟩
def z3j:TyI:=⟨(.struct [(0,70),(2,68),(3,93),(4,3)]),5,40,(.agg [.int 0,.nilptr,.nilptr,.nilptr,.int 0]),true⟩
def z2j:TyI:=⟨(.struct [(0,70),(2,68),(3,93),(4,3)]),5,40,(.agg [.int 0,.nilptr,.nilptr,.nilptr,.int 0]),true⟩
def xo:TyI:=⟨(.int .u64),1,8,(.u64 0),false⟩
theorem zca:yx prog 99 xo:=⟨⟨_,yh Go.Proofs.Tryz.typeInfo99,rfl,rfl,fun _=>rfl⟩,⟨by simp [xo,SV.ok,okL],by simp [xo,Ty.agg],by simp [xo,SV.size,yc]⟩,Go.Proofs.Tryz.underlying99,fun h=>by cases h⟩
def zsj:TyI:=⟨(.struct [(0,3),(1,9),(2,9),(3,3)]),4,48,(.agg [.int 0,.str [],.str [],.int 0]),true⟩
def zfk:TyI:=⟨(.struct [(0,3),(1,9),(2,9),(3,3)]),4,48,(.agg [.int 0,.str [],.str [],.int 0]),true⟩
theorem zol:yx prog 103 zfk:=⟨⟨_,yh Go.Proofs.Tryz.typeInfo103,rfl,rfl,fun _=>rfl⟩,⟨by simp [zfk,SV.ok,okL],by simp [zfk,Ty.agg],by simp [zfk,SV.size,yc]⟩,⟨_,Go.Proofs.Tryz.underlying103,rfl,by decide⟩,fun _=>⟨by decide+kernel,Go.Proofs.Tryz.eqGuardType103⟩⟩
def ze4:TyI:=⟨.ptr,1,8,(.nilptr),false⟩
theorem zo2:yx prog 104 ze4:=⟨⟨_,yh Go.Proofs.Tryz.typeInfo104,rfl,rfl,fun _=>rfl⟩,⟨by simp [ze4,SV.ok,okL],by simp [ze4,Ty.agg],by simp [ze4,SV.size,yc]⟩,⟨_,Go.Proofs.Tryz.underlying104⟩,fun h=>by cases h⟩
def xv:TyI:=⟨(.int .u32),1,4,(.u32 0),false⟩
theorem zbg:yx prog 113 xv:=⟨⟨_,yh Go.Proofs.Tryz.typeInfo113,rfl,rfl,fun _=>rfl⟩,⟨by simp [xv,SV.ok,okL],by simp [xv,Ty.agg],by simp [xv,SV.size,yc]⟩,Go.Proofs.Tryz.underlying113,fun h=>by cases h⟩
def zh7:TyI:=⟨(.sl 148),1,24,(.nilsl),false⟩
theorem z5r:yx prog 116 zh7:=⟨⟨_,yh Go.Proofs.Tryz.typeInfo116,rfl,rfl,fun _=>rfl⟩,⟨by simp [zh7,SV.ok,okL],by simp [zh7,Ty.agg],by simp [zh7,SV.size,yc]⟩,Go.Proofs.Tryz.underlying116,fun h=>by cases h⟩
def zrx:TyI:=⟨(.struct [(0,51),(1,3),(2,3)]),3,40,(.agg [.nilsl,.int 0,.int 0]),false⟩
def zrz:TyI:=⟨(.struct [(0,51),(1,3),(2,3)]),3,40,(.agg [.nilsl,.int 0,.int 0]),false⟩
def zsg:TyI:=⟨(.struct [(0,51),(1,51)]),2,48,(.agg [.nilsl,.nilsl]),false⟩
def zhe:TyI:=⟨(.struct [(0,51),(1,51)]),2,48,(.agg [.nilsl,.nilsl]),false⟩
theorem z63:yx prog 132 zhe:=⟨⟨_,yh Go.Proofs.Tryz.typeInfo132,rfl,rfl,fun _=>rfl⟩,⟨by simp [zhe,SV.ok,okL],by simp [zhe,Ty.agg],by simp [zhe,SV.size,yc]⟩,⟨_,Go.Proofs.Tryz.underlying132,rfl,by decide⟩,fun h=>by cases h⟩
def zgb:TyI:=⟨.ptr,1,8,(.nilptr),false⟩
theorem zvl:yx prog 134 zgb:=⟨⟨_,yh Go.Proofs.Tryz.typeInfo134,rfl,rfl,fun _=>rfl⟩,⟨by simp [zgb,SV.ok,okL],by simp [zgb,Ty.agg],by simp [zgb,SV.size,yc]⟩,⟨_,Go.Proofs.Tryz.underlying134⟩,fun h=>by cases h⟩
def zrb:TyI:=⟨(.struct [(0,9),(1,9),(2,134)]),3,40,(.agg [.str [],.str [],.nilptr]),true⟩
def zgw:TyI:=⟨(.struct [(0,9),(1,9),(2,134)]),3,40,(.agg [.str [],.str [],.nilptr]),true⟩
theorem z7s:yx prog 136 zgw:=⟨⟨_,yh Go.Proofs.Tryz.typeInfo136,rfl,rfl,fun _=>rfl⟩,⟨by simp [zgw,SV.ok,okL],by simp [zgw,Ty.agg],by simp [zgw,SV.size,yc]⟩,⟨_,Go.Proofs.Tryz.underlying136,rfl,by decide⟩,fun _=>⟨by decide+kernel,Go.Proofs.Tryz.eqGuardType136⟩⟩
def zha:TyI:=⟨.func,1,8,(.nilfn),false⟩
theorem z9d:yx prog 143 zha:=⟨⟨_,yh Go.Proofs.Tryz.typeInfo143,rfl,rfl,fun _=>rfl⟩,⟨by simp [zha,SV.ok,okL],by simp [zha,Ty.agg],by simp [zha,SV.size,yc]⟩,⟨_,_,_,Go.Proofs.Tryz.underlying143⟩,fun h=>by cases h⟩
def zax:TyI:=⟨(.arr 4 5),4,4,(.arr8 4 [0,0,0,0]),true⟩
theorem z59:yx prog 148 zax:=⟨⟨_,yh Go.Proofs.Tryz.typeInfo148,rfl,rfl,fun _=>rfl⟩,⟨by simp [zax,SV.ok,okL],by simp [zax,Ty.agg],by simp [zax,SV.size,yc]⟩,Go.Proofs.Tryz.underlying148,fun _=>⟨by decide+kernel,Go.Proofs.Tryz.eqGuardType148⟩⟩
def zgx:TyI:=⟨(.arr 16 113),16,64,(.arr32 16 (List.replicate 16 0)),true⟩
theorem z6m:yx prog 164 zgx:=⟨⟨_,yh Go.Proofs.Tryz.typeInfo164,rfl,rfl,fun _=>rfl⟩,⟨by simp [zgx,SV.ok,okL],by simp [zgx,Ty.agg],by simp [zgx,SV.size,yc]⟩,Go.Proofs.Tryz.underlying164,fun _=>⟨by decide+kernel,Go.Proofs.Tryz.eqGuardType164⟩⟩
def zh8:TyI:=⟨(.arr 5 99),5,40,(.arr64 5 [0,0,0,0,0]),true⟩
theorem z51:yx prog 167 zh8:=⟨⟨_,yh Go.Proofs.Tryz.typeInfo167,rfl,rfl,fun _=>rfl⟩,⟨by simp [zh8,SV.ok,okL],by simp [zh8,Ty.agg],by simp [zh8,SV.size,yc]⟩,Go.Proofs.Tryz.underlying167,fun _=>⟨by decide+kernel,Go.Proofs.Tryz.eqGuardType167⟩⟩
def zet:TyI:=⟨(.arr 16 5),16,16,(.arr8 16 (List.replicate 16 0)),true⟩
theorem zj7:yx prog 168 zet:=⟨⟨_,yh Go.Proofs.Tryz.typeInfo168,rfl,rfl,fun _=>rfl⟩,⟨by simp [zet,SV.ok,okL],by simp [zet,Ty.agg],by simp [zet,SV.size,yc]⟩,Go.Proofs.Tryz.underlying168,fun _=>⟨by decide+kernel,Go.Proofs.Tryz.eqGuardType168⟩⟩
def zfc:TyI:=⟨.ptr,1,8,(.nilptr),false⟩
theorem zoz:yx prog 178 zfc:=⟨⟨_,yh Go.Proofs.Tryz.typeInfo178,rfl,rfl,fun _=>rfl⟩,⟨by simp [zfc,SV.ok,okL],by simp [zfc,Ty.agg],by simp [zfc,SV.size,yc]⟩,⟨_,Go.Proofs.Tryz.underlying178⟩,fun h=>by cases h⟩
def zr4:TyI:=⟨(.struct [(0,99),(1,99)]),2,16,(.agg [.u64 0,.u64 0]),true⟩
def zco:TyI:=⟨(.struct [(0,99),(1,99)]),2,16,(.agg [.u64 0,.u64 0]),true⟩
theorem zw0:yx prog 183 zco:=⟨⟨_,yh Go.Proofs.Tryz.typeInfo183,rfl,rfl,fun _=>rfl⟩,⟨by simp [zco,SV.ok,okL],by simp [zco,Ty.agg],by simp [zco,SV.size,yc]⟩,⟨_,Go.Proofs.Tryz.underlying183,rfl,by decide⟩,fun _=>⟨by decide+kernel,Go.Proofs.Tryz.eqGuardType183⟩⟩
def zro:TyI:=⟨(.struct [(0,178),(1,183)]),3,24,(.agg [.nilptr,.u64 0,.u64 0]),true⟩
def zgd:TyI:=⟨(.struct [(0,178),(1,183)]),3,24,(.agg [.nilptr,.u64 0,.u64 0]),true⟩
theorem zv4:yx prog 186 zgd:=⟨⟨_,yh Go.Proofs.Tryz.typeInfo186,rfl,rfl,fun _=>rfl⟩,⟨by simp [zgd,SV.ok,okL],by simp [zgd,Ty.agg],by simp [zgd,SV.size,yc]⟩,⟨_,Go.Proofs.Tryz.underlying186,rfl,by decide⟩,fun _=>⟨by decide+kernel,Go.Proofs.Tryz.eqGuardType186⟩⟩
def zh5:TyI:=⟨(.arr 64 5),64,64,(.arr8 64 (List.replicate 64 0)),true⟩
theorem z4z:yx prog 187 zh5:=⟨⟨_,yh Go.Proofs.Tryz.typeInfo187,rfl,rfl,fun _=>rfl⟩,⟨by simp [zh5,SV.ok,okL],by simp [zh5,Ty.agg],by simp [zh5,SV.size,yc]⟩,Go.Proofs.Tryz.underlying187,fun _=>⟨by decide+kernel,Go.Proofs.Tryz.eqGuardType187⟩⟩
def zhs:TyI:=⟨(.arr 16 113),16,64,(.arr32 16 (List.replicate 16 0)),true⟩
theorem z7u:yx prog 188 zhs:=⟨⟨_,yh Go.Proofs.Tryz.typeInfo188,rfl,rfl,fun _=>rfl⟩,⟨by simp [zhs,SV.ok,okL],by simp [zhs,Ty.agg],by simp [zhs,SV.size,yc]⟩,Go.Proofs.Tryz.underlying188,fun _=>⟨by decide+kernel,Go.Proofs.Tryz.eqGuardType188⟩⟩
def zhg:TyI:=⟨.ptr,1,8,(.nilptr),false⟩
theorem z71:yx prog 193 zhg:=⟨⟨_,yh Go.Proofs.Tryz.typeInfo193,rfl,rfl,fun _=>rfl⟩,⟨by simp [zhg,SV.ok,okL],by simp [zhg,Ty.agg],by simp [zhg,SV.size,yc]⟩,⟨_,Go.Proofs.Tryz.underlying193⟩,fun h=>by cases h⟩
def zh2:TyI:=⟨.ptr,1,8,(.nilptr),false⟩
theorem z6k:yx prog 195 zh2:=⟨⟨_,yh Go.Proofs.Tryz.typeInfo195,rfl,rfl,fun _=>rfl⟩,⟨by simp [zh2,SV.ok,okL],by simp [zh2,Ty.agg],by simp [zh2,SV.size,yc]⟩,⟨_,Go.Proofs.Tryz.underlying195⟩,fun h=>by cases h⟩
def zhz:TyI:=⟨(.arr 16 183),32,256,(.arr64 32 (List.replicate 32 0)),true⟩
theorem z50:yx prog 198 zhz:=⟨⟨_,yh Go.Proofs.Tryz.typeInfo198,rfl,rfl,fun _=>rfl⟩,⟨by simp [zhz,SV.ok,okL],by simp [zhz,Ty.agg],by simp [zhz,SV.size,yc]⟩,Go.Proofs.Tryz.underlying198,fun _=>⟨by decide+kernel,Go.Proofs.Tryz.eqGuardType198⟩⟩
def zhj:TyI:=⟨(.arr 16 99),16,128,(.arr64 16 (List.replicate 16 0)),true⟩
theorem z44:yx prog 199 zhj:=⟨⟨_,yh Go.Proofs.Tryz.typeInfo199,rfl,rfl,fun _=>rfl⟩,⟨by simp [zhj,SV.ok,okL],by simp [zhj,Ty.agg],by simp [zhj,SV.size,yc]⟩,Go.Proofs.Tryz.underlying199,fun _=>⟨by decide+kernel,Go.Proofs.Tryz.eqGuardType199⟩⟩
def zrg:TyI:=⟨(.struct [(0,198),(32,199),(48,183)]),50,400,(.agg [.arr64 32 (List.replicate 32 0),.arr64 16 (List.replicate 16 0),.u64 0,.u64 0]),true⟩
def zg2:TyI:=⟨(.struct [(0,198),(32,199),(48,183)]),50,400,(.agg [.arr64 32 (List.replicate 32 0),.arr64 16 (List.replicate 16 0),.u64 0,.u64 0]),true⟩
theorem z47:yx prog 201 zg2:=⟨⟨_,yh Go.Proofs.Tryz.typeInfo201,rfl,rfl,fun _=>rfl⟩,⟨by simp [zg2,SV.ok,okL],by simp [zg2,Ty.agg],by simp [zg2,SV.size,yc]⟩,⟨_,Go.Proofs.Tryz.underlying201,rfl,by decide⟩,fun _=>⟨by decide+kernel,Go.Proofs.Tryz.eqGuardType201⟩⟩
def zgo:TyI:=⟨.ptr,1,8,(.nilptr),false⟩
theorem zww:yx prog 207 zgo:=⟨⟨_,yh Go.Proofs.Tryz.typeInfo207,rfl,rfl,fun _=>rfl⟩,⟨by simp [zgo,SV.ok,okL],by simp [zgo,Ty.agg],by simp [zgo,SV.size,yc]⟩,⟨_,Go.Proofs.Tryz.underlying207⟩,fun h=>by cases h⟩
def zrh:TyI:=⟨(.struct [(0,207),(1,207)]),2,16,(.agg [.nilptr,.nilptr]),true⟩
def zhh:TyI:=⟨(.struct [(0,207),(1,207)]),2,16,(.agg [.nilptr,.nilptr]),true⟩
theorem z8i:yx prog 209 zhh:=⟨⟨_,yh Go.Proofs.Tryz.typeInfo209,rfl,rfl,fun _=>rfl⟩,⟨by simp [zhh,SV.ok,okL],by simp [zhh,Ty.agg],by simp [zhh,SV.size,yc]⟩,⟨_,Go.Proofs.Tryz.underlying209,rfl,by decide⟩,fun _=>⟨by decide+kernel,Go.Proofs.Tryz.eqGuardType209⟩⟩
def zfh:TyI:=⟨(.arr 256 5),256,256,(.arr8 256 (List.replicate 256 0)),true⟩
theorem zpl:yx prog 212 zfh:=⟨⟨_,yh Go.Proofs.Tryz.typeInfo212,rfl,rfl,fun _=>rfl⟩,⟨by simp [zfh,SV.ok,okL],by simp [zfh,Ty.agg],by simp [zfh,SV.size,yc]⟩,Go.Proofs.Tryz.underlying212,fun _=>⟨by decide+kernel,Go.Proofs.Tryz.eqGuardType212⟩⟩
def zfl:TyI:=⟨(.sl 168),1,24,(.nilsl),false⟩
theorem zov:yx prog 214 zfl:=⟨⟨_,yh Go.Proofs.Tryz.typeInfo214,rfl,rfl,fun _=>rfl⟩,⟨by simp [zfl,SV.ok,okL],by simp [zfl,Ty.agg],by simp [zfl,SV.size,yc]⟩,Go.Proofs.Tryz.underlying214,fun h=>by cases h⟩
def zqv:TyI:=⟨(.struct [(0,212),(256,214)]),257,280,(.agg [.arr8 256 (List.replicate 256 0),.nilsl]),false⟩
def ze6:TyI:=⟨(.struct [(0,212),(256,214)]),257,280,(.agg [.arr8 256 (List.replicate 256 0),.nilsl]),false⟩
theorem zns:yx prog 216 ze6:=⟨⟨_,yh Go.Proofs.Tryz.typeInfo216,rfl,rfl,fun _=>rfl⟩,⟨by simp [ze6,SV.ok,okL],by simp [ze6,Ty.agg],by simp [ze6,SV.size,yc]⟩,⟨_,Go.Proofs.Tryz.underlying216,rfl,by decide⟩,fun h=>by cases h⟩
def zhn:TyI:=⟨(.arr 5 99),5,40,(.arr64 5 [0,0,0,0,0]),true⟩
theorem z86:yx prog 220 zhn:=⟨⟨_,yh Go.Proofs.Tryz.typeInfo220,rfl,rfl,fun _=>rfl⟩,⟨by simp [zhn,SV.ok,okL],by simp [zhn,Ty.agg],by simp [zhn,SV.size,yc]⟩,Go.Proofs.Tryz.underlying220,fun _=>⟨by decide+kernel,Go.Proofs.Tryz.eqGuardType220⟩⟩
def zsc:TyI:=⟨(.struct [(0,220),(5,220)]),10,80,(.agg [.arr64 5 [0,0,0,0,0],.arr64 5 [0,0,0,0,0]]),true⟩
def zhw:TyI:=⟨(.struct [(0,220),(5,220)]),10,80,(.agg [.arr64 5 [0,0,0,0,0],.arr64 5 [0,0,0,0,0]]),true⟩
theorem z6x:yx prog 223 zhw:=⟨⟨_,yh Go.Proofs.Tryz.typeInfo223,rfl,rfl,fun _=>rfl⟩,⟨by simp [zhw,SV.ok,okL],by simp [zhw,Ty.agg],by simp [zhw,SV.size,yc]⟩,⟨_,Go.Proofs.Tryz.underlying223,rfl,by decide⟩,fun _=>⟨by decide+kernel,Go.Proofs.Tryz.eqGuardType223⟩⟩
def zhq:TyI:=⟨.ptr,1,8,(.nilptr),false⟩
theorem z77:yx prog 235 zhq:=⟨⟨_,yh Go.Proofs.Tryz.typeInfo235,rfl,rfl,fun _=>rfl⟩,⟨by simp [zhq,SV.ok,okL],by simp [zhq,Ty.agg],by simp [zhq,SV.size,yc]⟩,⟨_,Go.Proofs.Tryz.underlying235⟩,fun h=>by cases h⟩
def zhr:TyI:=⟨(.arr 3 99),3,24,(.arr64 3 [0,0,0]),true⟩
theorem z6d:yx prog 236 zhr:=⟨⟨_,yh Go.Proofs.Tryz.typeInfo236,rfl,rfl,fun _=>rfl⟩,⟨by simp [zhr,SV.ok,okL],by simp [zhr,Ty.agg],by simp [zhr,SV.size,yc]⟩,Go.Proofs.Tryz.underlying236,fun _=>⟨by decide+kernel,Go.Proofs.Tryz.eqGuardType236⟩⟩
def zh0:TyI:=⟨.ptr,1,8,(.nilptr),false⟩
theorem z4p:yx prog 238 zh0:=⟨⟨_,yh Go.Proofs.Tryz.typeInfo238,rfl,rfl,fun _=>rfl⟩,⟨by simp [zh0,SV.ok,okL],by simp [zh0,Ty.agg],by simp [zh0,SV.size,yc]⟩,⟨_,Go.Proofs.Tryz.underlying238⟩,fun h=>by cases h⟩
def zgi:TyI:=⟨(.arr 8 113),8,32,(.arr32 8 [0,0,0,0,0,0,0,0]),true⟩
theorem zxg:yx prog 239 zgi:=⟨⟨_,yh Go.Proofs.Tryz.typeInfo239,rfl,rfl,fun _=>rfl⟩,⟨by simp [zgi,SV.ok,okL],by simp [zgi,Ty.agg],by simp [zgi,SV.size,yc]⟩,Go.Proofs.Tryz.underlying239,fun _=>⟨by decide+kernel,Go.Proofs.Tryz.eqGuardType239⟩⟩
def zgm:TyI:=⟨(.arr 8 99),8,64,(.arr64 8 [0,0,0,0,0,0,0,0]),true⟩
theorem zws:yx prog 242 zgm:=⟨⟨_,yh Go.Proofs.Tryz.typeInfo242,rfl,rfl,fun _=>rfl⟩,⟨by simp [zgm,SV.ok,okL],by simp [zgm,Ty.agg],by simp [zgm,SV.size,yc]⟩,Go.Proofs.Tryz.underlying242,fun _=>⟨by decide+kernel,Go.Proofs.Tryz.eqGuardType242⟩⟩
def zgn:TyI:=⟨(.arr 80 99),80,640,(.arr64 80 (List.replicate 80 0)),true⟩
theorem zvb:yx prog 245 zgn:=⟨⟨_,yh Go.Proofs.Tryz.typeInfo245,rfl,rfl,fun _=>rfl⟩,⟨by simp [zgn,SV.ok,okL],by simp [zgn,Ty.agg],by simp [zgn,SV.size,yc]⟩,Go.Proofs.Tryz.underlying245,fun _=>⟨by decide+kernel,Go.Proofs.Tryz.eqGuardType245⟩⟩
def zr0:TyI:=⟨(.struct [(0,3),(1,242),(9,245),(89,51),(90,99)]),91,744,(.agg [.int 0,.arr64 8 [0,0,0,0,0,0,0,0],.arr64 80 (List.replicate 80 0),.nilsl,.u64 0]),false⟩
def zf9:TyI:=⟨(.struct [(0,3),(1,242),(9,245),(89,51),(90,99)]),91,744,(.agg [.int 0,.arr64 8 [0,0,0,0,0,0,0,0],.arr64 80 (List.replicate 80 0),.nilsl,.u64 0]),false⟩
theorem zxc:yx prog 248 zf9:=⟨⟨_,yh Go.Proofs.Tryz.typeInfo248,rfl,rfl,fun _=>rfl⟩,⟨by simp [zf9,SV.ok,okL],by simp [zf9,Ty.agg],by simp [zf9,SV.size,yc]⟩,⟨_,Go.Proofs.Tryz.underlying248,rfl,by decide⟩,fun h=>by cases h⟩
def zgk:TyI:=⟨(.arr 64 113),64,256,(.arr32 64 (List.replicate 64 0)),true⟩
theorem zvv:yx prog 249 zgk:=⟨⟨_,yh Go.Proofs.Tryz.typeInfo249,rfl,rfl,fun _=>rfl⟩,⟨by simp [zgk,SV.ok,okL],by simp [zgk,Ty.agg],by simp [zgk,SV.size,yc]⟩,Go.Proofs.Tryz.underlying249,fun _=>⟨by decide+kernel,Go.Proofs.Tryz.eqGuardType249⟩⟩
def zq5:TyI:=⟨.ptr,1,8,(.nilptr),false⟩
theorem ylq:ty2.sz=1∧ty2.bytes=8∧ty3.sz=1∧ty3.bytes=8∧ty4.sz=1∧ty4.bytes=1∧ty5.sz=1∧ty5.bytes=1∧ty9.sz=1∧ty9.bytes=16∧zpr.sz=1∧zpr.bytes=24∧zl8.sz=1∧zl8.bytes=8∧z28.sz=1∧z28.bytes=8∧zmu.sz=1∧zmu.bytes=8∧z20.sz=6∧z20.bytes=64∧zc3.sz=6∧zc3.bytes=64∧z14.sz=2∧z14.bytes=24∧zjw.sz=2∧zjw.bytes=24∧zd5.sz=1∧zd5.bytes=8∧zee.sz=1∧zee.bytes=24∧z3z.sz=1∧z3z.bytes=8∧z2p.sz=1∧z2p.bytes=24∧z37.sz=1∧z37.bytes=24∧z2o.sz=6∧z2o.bytes=64∧z19.sz=1∧z19.bytes=24∧zll.sz=1∧zll.bytes=8∧z3u.sz=2∧z3u.bytes=16∧zld.sz=2∧zld.bytes=16∧z30.sz=5∧z30.bytes=48∧zl6.sz=5∧zl6.bytes=48∧z3i.sz=5∧z3i.bytes=56∧zmx.sz=5∧zmx.bytes=56∧z2y.sz=14∧z2y.bytes=152∧zmy.sz=14∧zmy.bytes=152∧z2t.sz=1∧z2t.bytes=8∧z3j.sz=5∧z3j.bytes=40∧z2j.sz=5∧z2j.bytes=40∧xo.sz=1∧xo.bytes=8∧zsj.sz=4∧zsj.bytes=48∧zfk.sz=4∧zfk.bytes=48∧ze4.sz=1∧ze4.bytes=8∧xv.sz=1∧xv.bytes=4∧zh7.sz=1∧zh7.bytes=24∧zrx.sz=3∧zrx.bytes=40∧zrz.sz=3∧zrz.bytes=40∧zsg.sz=2∧zsg.bytes=48∧zhe.sz=2∧zhe.bytes=48∧zgb.sz=1∧zgb.bytes=8∧zrb.sz=3∧zrb.bytes=40∧zgw.sz=3∧zgw.bytes=40∧zha.sz=1∧zha.bytes=8∧zax.sz=4∧zax.bytes=4∧zgx.sz=16∧zgx.bytes=64∧zh8.sz=5∧zh8.bytes=40∧zet.sz=16∧zet.bytes=16∧zfc.sz=1∧zfc.bytes=8∧zr4.sz=2∧zr4.bytes=16∧zco.sz=2∧zco.bytes=16∧zro.sz=3∧zro.bytes=24∧zgd.sz=3∧zgd.bytes=24∧zh5.sz=64∧zh5.bytes=64∧zhs.sz=16∧zhs.bytes=64∧zhg.sz=1∧zhg.bytes=8∧zh2.sz=1∧zh2.bytes=8∧zhz.sz=32∧zhz.bytes=256∧zhj.sz=16∧zhj.bytes=128∧zrg.sz=50∧zrg.bytes=400∧zg2.sz=50∧zg2.bytes=400∧zgo.sz=1∧zgo.bytes=8∧zrh.sz=2∧zrh.bytes=16∧zhh.sz=2∧zhh.bytes=16∧zfh.sz=256∧zfh.bytes=256∧zfl.sz=1∧zfl.bytes=24∧zqv.sz=257∧zqv.bytes=280∧ze6.sz=257∧ze6.bytes=280∧zhn.sz=5∧zhn.bytes=40∧zsc.sz=10∧zsc.bytes=80∧zhw.sz=10∧zhw.bytes=80∧zhq.sz=1∧zhq.bytes=8∧zhr.sz=3∧zhr.bytes=24∧zh0.sz=1∧zh0.bytes=8∧zgi.sz=8∧zgi.bytes=32∧zgm.sz=8∧zgm.bytes=64∧zgn.sz=80∧zgn.bytes=640∧zr0.sz=91∧zr0.bytes=744∧zf9.sz=91∧zf9.bytes=744∧zgk.sz=64∧zgk.bytes=256∧zq5.sz=1∧zq5.bytes=8:=by
  refine ⟨rfl,rfl,rfl,rfl,rfl,rfl,rfl,rfl,rfl,rfl,rfl,rfl,rfl,rfl,rfl,rfl,rfl,rfl,rfl,rfl,rfl,rfl,rfl,rfl,rfl,rfl,rfl,rfl,rfl,rfl,rfl,rfl,rfl,rfl,rfl,rfl,rfl,rfl,rfl,rfl,rfl,rfl,rfl,rfl,rfl,rfl,rfl,rfl,rfl,rfl,rfl,rfl,rfl,rfl,rfl,rfl,rfl,rfl,rfl,rfl,rfl,rfl,rfl,rfl,rfl,rfl,rfl,rfl,rfl,rfl,rfl,rfl,rfl,rfl,rfl,rfl,rfl,rfl,rfl,rfl,rfl,rfl,rfl,rfl,rfl,rfl,rfl,rfl,rfl,rfl,rfl,rfl,rfl,rfl,rfl,rfl,rfl,rfl,rfl,rfl,rfl,rfl,rfl,rfl,rfl,rfl,rfl,rfl,rfl,rfl,rfl,rfl,rfl,rfl,rfl,rfl,rfl,rfl,rfl,rfl,rfl,rfl,rfl,rfl,rfl,rfl,rfl,rfl,rfl,rfl,rfl,rfl,rfl,rfl,rfl,rfl,rfl,rfl,rfl,rfl,rfl,rfl,rfl,rfl,rfl,rfl,rfl,rfl,rfl,rfl,rfl,rfl,rfl,rfl,rfl,rfl,rfl,rfl,rfl,rfl,rfl,rfl,rfl,rfl,rfl,rfl⟩
theorem ykr:(∀{α:Type} {x y:List α},(x++y).length=x.length+y.length)∧(∀{α:Type} {i:Nat} {l:List α},(List.take i l).length=min i l.length)∧(∀{α:Type} {i:Nat} {l:List α},(List.drop i l).length=l.length-i)∧(∀{α:Type},([]:List α).length=0)∧(∀{α:Type} {a:α} {l:List α},(a ::l).length=l.length+1)∧(∀{α:Type} {n:Nat} {a:α},(List.replicate n a).length=n)∧(∀{α:Type} {l:List α} {i:Nat} {a:α},(l.set i a).length=l.length):=
  ⟨List.length_append,List.length_take,List.length_drop,List.length_nil,List.length_cons,List.length_replicate,List.length_set⟩
theorem sz:(∀(o:List (Nat×Nat)) (i e:Nat),off (yd o i e)=off o+i*e)∧(ty2.sz=1∧ty2.bytes=8∧ty3.sz=1∧ty3.bytes=8∧ty4.sz=1∧ty4.bytes=1∧ty5.sz=1∧ty5.bytes=1∧ty9.sz=1∧ty9.bytes=16∧zpr.sz=1∧zpr.bytes=24∧zl8.sz=1∧zl8.bytes=8∧z28.sz=1∧z28.bytes=8∧zmu.sz=1∧zmu.bytes=8∧z20.sz=6∧z20.bytes=64∧zc3.sz=6∧zc3.bytes=64∧z14.sz=2∧z14.bytes=24∧zjw.sz=2∧zjw.bytes=24∧zd5.sz=1∧zd5.bytes=8∧zee.sz=1∧zee.bytes=24∧z3z.sz=1∧z3z.bytes=8∧z2p.sz=1∧z2p.bytes=24∧z37.sz=1∧z37.bytes=24∧z2o.sz=6∧z2o.bytes=64∧z19.sz=1∧z19.bytes=24∧zll.sz=1∧zll.bytes=8∧z3u.sz=2∧z3u.bytes=16∧zld.sz=2∧zld.bytes=16∧z30.sz=5∧z30.bytes=48∧zl6.sz=5∧zl6.bytes=48∧z3i.sz=5∧z3i.bytes=56∧zmx.sz=5∧zmx.bytes=56∧z2y.sz=14∧z2y.bytes=152∧zmy.sz=14∧zmy.bytes=152∧z2t.sz=1∧z2t.bytes=8∧z3j.sz=5∧z3j.bytes=40∧z2j.sz=5∧z2j.bytes=40∧xo.sz=1∧xo.bytes=8∧zsj.sz=4∧zsj.bytes=48∧zfk.sz=4∧zfk.bytes=48∧ze4.sz=1∧ze4.bytes=8∧xv.sz=1∧xv.bytes=4∧zh7.sz=1∧zh7.bytes=24∧zrx.sz=3∧zrx.bytes=40∧zrz.sz=3∧zrz.bytes=40∧zsg.sz=2∧zsg.bytes=48∧zhe.sz=2∧zhe.bytes=48∧zgb.sz=1∧zgb.bytes=8∧zrb.sz=3∧zrb.bytes=40∧zgw.sz=3∧zgw.bytes=40∧zha.sz=1∧zha.bytes=8∧zax.sz=4∧zax.bytes=4∧zgx.sz=16∧zgx.bytes=64∧zh8.sz=5∧zh8.bytes=40∧zet.sz=16∧zet.bytes=16∧zfc.sz=1∧zfc.bytes=8∧zr4.sz=2∧zr4.bytes=16∧zco.sz=2∧zco.bytes=16∧zro.sz=3∧zro.bytes=24∧zgd.sz=3∧zgd.bytes=24∧zh5.sz=64∧zh5.bytes=64∧zhs.sz=16∧zhs.bytes=64∧zhg.sz=1∧zhg.bytes=8∧zh2.sz=1∧zh2.bytes=8∧zhz.sz=32∧zhz.bytes=256∧zhj.sz=16∧zhj.bytes=128∧zrg.sz=50∧zrg.bytes=400∧zg2.sz=50∧zg2.bytes=400∧zgo.sz=1∧zgo.bytes=8∧zrh.sz=2∧zrh.bytes=16∧zhh.sz=2∧zhh.bytes=16∧zfh.sz=256∧zfh.bytes=256∧zfl.sz=1∧zfl.bytes=24∧zqv.sz=257∧zqv.bytes=280∧ze6.sz=257∧ze6.bytes=280∧zhn.sz=5∧zhn.bytes=40∧zsc.sz=10∧zsc.bytes=80∧zhw.sz=10∧zhw.bytes=80∧zhq.sz=1∧zhq.bytes=8∧zhr.sz=3∧zhr.bytes=24∧zh0.sz=1∧zh0.bytes=8∧zgi.sz=8∧zgi.bytes=32∧zgm.sz=8∧zgm.bytes=64∧zgn.sz=80∧zgn.bytes=640∧zr0.sz=91∧zr0.bytes=744∧zf9.sz=91∧zf9.bytes=744∧zgk.sz=64∧zgk.bytes=256∧zq5.sz=1∧zq5.bytes=8):=⟨fun o i e=>zy o i e,ylq⟩
theorem szl:((∀(o:List (Nat×Nat)) (i e:Nat),off (yd o i e)=off o+i*e)∧(ty2.sz=1∧ty2.bytes=8∧ty3.sz=1∧ty3.bytes=8∧ty4.sz=1∧ty4.bytes=1∧ty5.sz=1∧ty5.bytes=1∧ty9.sz=1∧ty9.bytes=16∧zpr.sz=1∧zpr.bytes=24∧zl8.sz=1∧zl8.bytes=8∧z28.sz=1∧z28.bytes=8∧zmu.sz=1∧zmu.bytes=8∧z20.sz=6∧z20.bytes=64∧zc3.sz=6∧zc3.bytes=64∧z14.sz=2∧z14.bytes=24∧zjw.sz=2∧zjw.bytes=24∧zd5.sz=1∧zd5.bytes=8∧zee.sz=1∧zee.bytes=24∧z3z.sz=1∧z3z.bytes=8∧z2p.sz=1∧z2p.bytes=24∧z37.sz=1∧z37.bytes=24∧z2o.sz=6∧z2o.bytes=64∧z19.sz=1∧z19.bytes=24∧zll.sz=1∧zll.bytes=8∧z3u.sz=2∧z3u.bytes=16∧zld.sz=2∧zld.bytes=16∧z30.sz=5∧z30.bytes=48∧zl6.sz=5∧zl6.bytes=48∧z3i.sz=5∧z3i.bytes=56∧zmx.sz=5∧zmx.bytes=56∧z2y.sz=14∧z2y.bytes=152∧zmy.sz=14∧zmy.bytes=152∧z2t.sz=1∧z2t.bytes=8∧z3j.sz=5∧z3j.bytes=40∧z2j.sz=5∧z2j.bytes=40∧xo.sz=1∧xo.bytes=8∧zsj.sz=4∧zsj.bytes=48∧zfk.sz=4∧zfk.bytes=48∧ze4.sz=1∧ze4.bytes=8∧xv.sz=1∧xv.bytes=4∧zh7.sz=1∧zh7.bytes=24∧zrx.sz=3∧zrx.bytes=40∧zrz.sz=3∧zrz.bytes=40∧zsg.sz=2∧zsg.bytes=48∧zhe.sz=2∧zhe.bytes=48∧zgb.sz=1∧zgb.bytes=8∧zrb.sz=3∧zrb.bytes=40∧zgw.sz=3∧zgw.bytes=40∧zha.sz=1∧zha.bytes=8∧zax.sz=4∧zax.bytes=4∧zgx.sz=16∧zgx.bytes=64∧zh8.sz=5∧zh8.bytes=40∧zet.sz=16∧zet.bytes=16∧zfc.sz=1∧zfc.bytes=8∧zr4.sz=2∧zr4.bytes=16∧zco.sz=2∧zco.bytes=16∧zro.sz=3∧zro.bytes=24∧zgd.sz=3∧zgd.bytes=24∧zh5.sz=64∧zh5.bytes=64∧zhs.sz=16∧zhs.bytes=64∧zhg.sz=1∧zhg.bytes=8∧zh2.sz=1∧zh2.bytes=8∧zhz.sz=32∧zhz.bytes=256∧zhj.sz=16∧zhj.bytes=128∧zrg.sz=50∧zrg.bytes=400∧zg2.sz=50∧zg2.bytes=400∧zgo.sz=1∧zgo.bytes=8∧zrh.sz=2∧zrh.bytes=16∧zhh.sz=2∧zhh.bytes=16∧zfh.sz=256∧zfh.bytes=256∧zfl.sz=1∧zfl.bytes=24∧zqv.sz=257∧zqv.bytes=280∧ze6.sz=257∧ze6.bytes=280∧zhn.sz=5∧zhn.bytes=40∧zsc.sz=10∧zsc.bytes=80∧zhw.sz=10∧zhw.bytes=80∧zhq.sz=1∧zhq.bytes=8∧zhr.sz=3∧zhr.bytes=24∧zh0.sz=1∧zh0.bytes=8∧zgi.sz=8∧zgi.bytes=32∧zgm.sz=8∧zgm.bytes=64∧zgn.sz=80∧zgn.bytes=640∧zr0.sz=91∧zr0.bytes=744∧zf9.sz=91∧zf9.bytes=744∧zgk.sz=64∧zgk.bytes=256∧zq5.sz=1∧zq5.bytes=8))∧(∀{α:Type} {x y:List α},(x++y).length=x.length+y.length)∧(∀{α:Type} {i:Nat} {l:List α},(List.take i l).length=min i l.length)∧(∀{α:Type} {i:Nat} {l:List α},(List.drop i l).length=l.length-i)∧(∀{α:Type},([]:List α).length=0)∧(∀{α:Type} {a:α} {l:List α},(a ::l).length=l.length+1)∧(∀{α:Type} {n:Nat} {a:α},(List.replicate n a).length=n)∧(∀{α:Type} {l:List α} {i:Nat} {a:α},(l.set i a).length=l.length):=⟨sz,ykr⟩
theorem pk {a:Array Oper} {b:Ctx} {c:List PStep} (h:zly a b c=true):zly a b c=true:=h
theorem zq {p k:Prop} (h:k) (hp:p:=by first|assumption|omega|exact pk (by kernel_rfl)|(unfold ya;omega)|exact UInt8.toNat_lt _|decide+kernel|(constructor<;>first|assumption|omega)|(simp only [sz,off,zsk]<;>omega)|(simp only [szl,off,zsk]<;>omega)|(constructor<;>first|assumption|(simp only [szl,off,zsk]<;>omega))):Pre p k:=zr hp h
theorem zg {t:Bool} {a b:Prop} (h:a) (e:t=true:=by first|rfl|assumption|(rw [decide_eq_true_eq];omega)|(simp<;>omega)):zx t a b:=zj e h
theorem zf {t:Bool} {a b:Prop} (h:b) (e:t=false:=by first|rfl|assumption|(rw [decide_eq_false_iff_not];omega)|(simp<;>omega)):zx t a b:=zk e h
structure Hid (Q:Prop):Prop where
  out:Q
theorem za {P Q:Prop} (h:Q) (w:Hid Q→P:=by
    intro h
    repeat ((conv=>whnf);first|refine zq ?_|refine zb ?_|refine zg ?_|refine zf ?_)
    conv=>whnf
    exact h.out):P:=w ⟨h⟩
theorem zo {p:Prop} (h:p:=by
    repeat ((conv=>whnf);refine zb ?_)
    exact trivial):p:=h
theorem zl {v u:SV} {p:Prop} (e:v=u) (h:p:=by
    repeat ((conv=>whnf);refine zb ?_)
    exact trivial):zqu v u p:=by subst e;exact zb h
theorem zd {n0:Nat} {r r':SV} {hp hp':List Blk} {K:SV→List Blk→Prop} (gl:List Nat) (hk:K r' hp') (h:xt n0 gl [(0,r)] hp [(0,r')] hp' True:=by
    repeat ((conv=>whnf);refine zb ?_)
    exact trivial):zci n0 r hp K:=y5 gl hk h
end Go.Sym.Z

namespace Go.Sym.Aes
open Go.Sym.Lp
def tw (x:UInt8):UInt8:=(x<<<(1:UInt8))^^^((27:UInt8)&&&((0:UInt8)-(x>>>(7:UInt8))))
def rl8 (x:UInt8) (n:Nat):UInt8:=x<<<UInt8.ofNat n|||x>>>UInt8.ofNat (8-n)
def q1 (q:UInt8):UInt8:=q^^^q<<<1
def q2 (q:UInt8):UInt8:=q1 q^^^q1 q<<<2
def q3 (q:UInt8):UInt8:=q2 q^^^q2 q<<<4
def q4 (q:UInt8):UInt8:=q3 q^^^((9:UInt8)&&&((0:UInt8)-(q3 q>>>(7:UInt8))))
def pq:Nat→UInt8×UInt8
  |0=>(1,1)
  |i+1=>((pq i).1^^^tw (pq i).1,q4 (pq i).2)
def sb (q:UInt8):UInt8:=99^^^q^^^rl8 q 1^^^rl8 q 2^^^rl8 q 3^^^rl8 q 4
def zri:Nat→List UInt8
  |0=>99 ::List.replicate 255 0
  |i+1=>(zri i).set (pq (i+1)).1.toNat (sb (pq (i+1)).2)
set_option maxRecDepth 100000
theorem zsf: ∀i,(zri i).length=256
  |0=>rfl
  |i+1=>by simp only [zri,List.length_set];exact zsf i
def box:List UInt8:= [99,124,119,123,242,107,111,197,48,1,103,43,254,215,171,118,202,130,201,125,250,89,71,240,173,212,162,175,156,164,114,192,183,253,147,38,54,63,247,204,52,165,229,241,113,216,49,21,4,199,35,195,24,150,5,154,7,18,128,226,235,39,178,117,9,131,44,26,27,110,90,160,82,59,214,179,41,227,47,132,83,209,0,237,32,252,177,91,106,203,190,57,74,76,88,207,208,239,170,251,67,77,51,133,69,249,2,127,80,60,159,168,81,163,64,143,146,157,56,245,188,182,218,33,16,255,243,210,205,12,19,236,95,151,68,23,196,167,126,61,100,93,25,115,96,129,79,220,34,42,144,136,70,238,184,20,222,94,11,219,224,50,58,10,73,6,36,92,194,211,172,98,145,149,228,121,231,200,55,109,141,213,78,169,108,86,244,234,101,122,174,8,186,120,37,46,28,166,180,198,232,221,116,31,75,189,139,138,112,62,181,102,72,3,246,14,97,53,87,185,134,193,29,158,225,248,152,17,105,217,142,148,155,30,135,233,206,85,40,223,140,161,137,13,191,230,66,104,65,153,45,15,176,84,187,22]
theorem yer: ∀i,i<255→((pq (i+1)).1=1↔i+1=255):=by decide+kernel
theorem yad:zri 255=box:=by decide+kernel
end Go.Sym.Aes
namespace Go.Sym.Aes
open Go.Sym.Lp
def rc:Nat→UInt8
  |0=>1
  |k+1=>tw (rc k)
def x2 (n i:Nat) (t:List UInt8):List UInt8:=
  if i%n=0 then [box.getD (t.getD 1 0).toNat 0^^^rc ((i-1)/ n),box.getD (t.getD 2 0).toNat 0,box.getD (t.getD 3 0).toNat 0,box.getD (t.getD 0 0).toNat 0]
  else if n=8∧i%n=4 then (List.range 4).map fun k=>box.getD (t.getD k 0).toNat 0 else t
def xn (key:List UInt8) (n i:Nat) (W:List UInt8):List UInt8:=
  if i<n then (key.drop (4*i)).take 4
  else (List.range 4).map fun k=>W.getD (4*(i-n)+k) 0^^^(x2 n i ((W.drop (4*(i-1))).take 4)).getD k 0
def ks (key:List UInt8) (n:Nat):Nat→List UInt8
  |0=> []
  |i+1=>ks key n i++xn key n i (ks key n i)
theorem zc0 {key:List UInt8} {n i:Nat} (hk:key.length=4*n) (W:List UInt8):(xn key n i W).length=4:=by
  unfold xn
  split
  ·rw [List.length_take,List.length_drop];omega
  ·simp
theorem zbc {key:List UInt8} {n:Nat} (hk:key.length=4*n): ∀i,(ks key n i).length=4*i
  |0=>rfl
  |i+1=>by simp only [ks,List.length_append,zbc hk i,zc0 hk];omega
end Go.Sym.Aes
namespace Go.Sym.Aes
open Go.Sym.Lp
def kw (key:List UInt8) (n N i:Nat):List UInt8:=ks key n i++List.replicate (N-4*i) 0
section
variable {key:List UInt8} {n N i:Nat} (hk:key.length=4*n)
include hk
theorem z7t (h:4*i≤N):(kw key n N i).length=N:=by
  unfold kw;rw [List.length_append,zbc hk,List.length_replicate];omega
theorem zph {j:Nat} (hj:j<4*i):(kw key n N i).getD j 0=(ks key n i).getD j 0:=by
  unfold kw
  rw [List.getD_eq_getElem?_getD,List.getElem?_append_left (by rw [zbc hk];exact hj),List.getD_eq_getElem?_getD]
theorem z8a {j:Nat} (hj:j+4≤4*i):((kw key n N i).drop j).take 4=((ks key n i).drop j).take 4:=by
  unfold kw
  rw [List.drop_append_of_le_length (by rw [zbc hk];omega),List.take_append_of_le_length (by rw [List.length_drop,zbc hk];omega)]
theorem z08 (h:4*i+4≤N) {v:List UInt8} (hv:v=xn key n i (ks key n i)):(kw key n N i).take (4*i)++v++(kw key n N i).drop (4*i+4)=kw key n N (i+1):=by
  have hl:=zbc hk i
  unfold kw
  subst hv
  rw [List.take_left' hl,List.drop_append,List.drop_eq_nil_of_le (by omega),List.nil_append,hl,List.drop_replicate,show N-4*i-(4*i+4-4*i)=N-4*(i+1) by omega]
  simp only [ks]
end
theorem z8g {key:List UInt8} {n N i:Nat} (h:N=4*i):kw key n N i=ks key n i:=by unfold kw;rw [h,Nat.sub_self];simp
theorem znp {n i:Nat} (hn:0<n) (hi:n≤i) (h:i%n=0):tw (rc ((i-1)/ n))=rc (i/ n):=by
  obtain ⟨c,rfl⟩:=Nat.dvd_of_mod_eq_zero h
  have hc:0<c:=by
    rcases Nat.eq_zero_or_pos c with rfl|h
    ·omega
    ·exact h
  obtain ⟨d,rfl⟩: ∃d,c=d+1:=⟨c-1,by omega⟩
  have e1:(n*(d+1)-1)/ n=d:=by
    rw [Nat.mul_succ,show n*d+n-1=n*d+(n-1) by omega,Nat.mul_add_div hn,Nat.div_eq_of_lt (show n-1<n by omega),Nat.add_zero]
  rw [e1,Nat.mul_div_cancel_left _ hn]
  rfl
theorem zin {n i:Nat} (hn:0<n) (h: ¬i%n=0):(i-1)/ n=i/ n:=by
  have h1:=Nat.div_add_mod i n
  have h2:=Nat.mod_lt i hn
  have e:i-1=n*(i/ n)+(i%n-1):=by omega
  rw [e,Nat.mul_add_div hn,Nat.div_eq_of_lt (show i%n-1<n by omega),Nat.add_zero]
theorem zvj {n i:Nat} (h:i<n):(i-1)/ n=i/ n:=by rw [Nat.div_eq_of_lt h,Nat.div_eq_of_lt (by omega)]
end Go.Sym.Aes
namespace Go.Sym.Aes
open Go.Sym.Lp
def kc (W:List UInt8) (i:Nat):List UInt8:=W.take (4*i)++List.replicate (W.length-4*i) 0
theorem z6c {W:List UInt8} {i:Nat} (h:4*i≤W.length):(kc W i).length=W.length:=by unfold kc;simp;omega
theorem z0y (W:List UInt8):kc W 0=List.replicate W.length 0:=by unfold kc;simp
theorem z53 {W:List UInt8} {i:Nat} (h:W.length=4*i):kc W i=W:=by unfold kc;rw [h,Nat.sub_self,List.take_of_length_le (by omega)];simp
theorem ycc {W:List UInt8} {i:Nat} (h:4*i+4≤W.length):(kc W i).take (4*i)++(W.drop (4*i)).take 4++(kc W i).drop (4*i+4)=kc W (i+1):=by
  unfold kc
  have hl:(W.take (4*i)).length=4*i:=by rw [List.length_take];omega
  have hd:List.drop (4*i+4) (W.take (4*i))= []:=List.drop_eq_nil_of_le (by omega)
  rw [List.take_left' hl,List.drop_append,hd,List.nil_append,hl,List.drop_replicate,show W.length-4*i-(4*i+4-4*i)=W.length-4*(i+1) by omega]
  congr 1
  rw [Nat.mul_succ,List.take_add]
theorem zbv {n i:Nat} {t:List UInt8} (h:t.length=4):(x2 n i t).length=4:=by
  unfold x2;split
  ·rfl
  ·split
   ·simp
   ·exact h
end Go.Sym.Aes
namespace Go.Sym.Aes
theorem zna:box.length=256:=by decide+kernel
theorem zdq (x:UInt8):x.toNat<box.length:=by rw [zna];exact x.toNat_lt
end Go.Sym.Aes
namespace Go.Sym.Aes
open Go.Sym.Lp
def zql (ks:List UInt8) (r:Nat) (x:List UInt8):List UInt8:=(List.range 16).map fun j=>x.getD j 0^^^ks.getD (16*r+j) 0
def xk (x:List UInt8):List UInt8:=(List.range 16).map fun i=>box.getD (x.getD ((i+4*(i%4))%16) 0).toNat 0
def zjl (t:List UInt8) (i:Nat):UInt8:=
  t.getD i 0^^^(t.getD (i/ 4*4) 0^^^t.getD (i/ 4*4+1) 0^^^t.getD (i/ 4*4+2) 0^^^t.getD (i/ 4*4+3) 0^^^tw (t.getD i 0^^^t.getD (i/ 4*4+(i+1)%4) 0))
def zgt (t:List UInt8):List UInt8:=(List.range 16).map (zjl t)
def rnd (ks:List UInt8) (R r:Nat) (x:List UInt8):List UInt8:=zql ks r (if r<R-1 then zgt (xk x) else xk x)
def zbu (ks:List UInt8) (R:Nat) (x:List UInt8):Nat→List UInt8
  |0=>zql ks 0 x
  |r+1=>rnd ks R (r+1) (zbu ks R x r)
def enc (ks:List UInt8) (R:Nat) (x:List UInt8):List UInt8:=zbu ks R x (R-1)
theorem zxa (ks:List UInt8) (r:Nat) (x:List UInt8):(zql ks r x).length=16:=zz _ _
theorem zka (x:List UInt8):(xk x).length=16:=zz _ _
theorem zvw (x:List UInt8):(zgt x).length=16:=zz _ _
theorem zit (ks:List UInt8) (R:Nat) (x:List UInt8): ∀r,(zbu ks R x r).length=16
  |0=>zxa _ _ _
  |_+1=>zxa _ _ _
theorem zio (ks:List UInt8) (R:Nat) (x:List UInt8):(enc ks R x).length=16:=zit _ _ _ _
theorem z43 {T:List UInt8} {g:Nat→UInt8} {a:Nat} (h:a+4≤T.length) {u0 u1 u2 u3:UInt8}
    (h0:T.getD a 0^^^u0=g a) (h1:T.getD (a+1) 0^^^u1=g (a+1)) (h2:T.getD (a+2) 0^^^u2=g (a+2)) (h3:T.getD (a+3) 0^^^u3=g (a+3)) {X0 X1 X2 X3:List UInt8}
    (e0:X0=(ovr T 0 g a).set a ((ovr T 0 g a).getD a 0^^^u0)) (e1:X1=X0.set (a+1) (X0.getD (a+1) 0^^^u1)) (e2:X2=X1.set (a+2) (X1.getD (a+2) 0^^^u2)) (e3:X3=X2.set (a+3) (X2.getD (a+3) 0^^^u3)):
    X3=ovr T 0 g (a+4):=by
  have k0:X0=ovr T 0 g (a+1):=by
    rw [e0,yr (by omega) _ (by omega)]
    exact z8 (by omega) h0 (by omega)
  have k1:X1=ovr T 0 g (a+2):=by
    rw [e1,k0,yr (by omega) _ (by omega)]
    exact z8 (by omega) h1 (by omega)
  have k2:X2=ovr T 0 g (a+3):=by
    rw [e2,k1,yr (by omega) _ (by omega)]
    exact z8 (by omega) h2 (by omega)
  rw [e3,k2,yr (by omega) _ (by omega)]
  exact z8 (by omega) h3 (by omega)
end Go.Sym.Aes
namespace Go.Sym.Aes
open Go.Sym.Lp
theorem ziu (T:List UInt8) (c j:Nat) (h:j<4):zjl T (4*c+j)=T.getD (4*c+j) 0^^^(T.getD (4*c) 0^^^T.getD (4*c+1) 0^^^T.getD (4*c+2) 0^^^T.getD (4*c+3) 0^^^tw (T.getD (4*c+j) 0^^^T.getD (4*c+(j+1)%4) 0)):=by
  unfold zjl
  have e1:(4*c+j)/ 4*4=4*c:=by omega
  have e2:(4*c+j+1)%4=(j+1)%4:=by omega
  rw [e1,e2]
theorem z7n {T:List UInt8} {c:Nat} (h:4*c+4≤T.length) {Y:List UInt8} (hY:Y=ovr T 0 (zjl T) (4*c)) {al:UInt8} (ha:al=Y.getD (4*c) 0^^^Y.getD (4*c+1) 0^^^Y.getD (4*c+2) 0^^^Y.getD (4*c+3) 0)
    {X0 X1 X2 X3:List UInt8} (e0:X0=Y.set (4*c) (Y.getD (4*c) 0^^^(al^^^tw (Y.getD (4*c) 0^^^Y.getD (4*c+1) 0))))
    (e1:X1=X0.set (4*c+1) (X0.getD (4*c+1) 0^^^(al^^^tw (Y.getD (4*c+1) 0^^^Y.getD (4*c+2) 0))))
    (e2:X2=X1.set (4*c+2) (X1.getD (4*c+2) 0^^^(al^^^tw (Y.getD (4*c+2) 0^^^Y.getD (4*c+3) 0))))
    (e3:X3=X2.set (4*c+3) (X2.getD (4*c+3) 0^^^(al^^^tw (Y.getD (4*c+3) 0^^^Y.getD (4*c) 0)))):X3=ovr T 0 (zjl T) (4*(c+1)):=by
  have hg: ∀j,4*c≤j→Y.getD j 0=T.getD j 0:=fun j hj=>by rw [hY];exact yr (by omega) _ (by omega) _
  rw [hg _ (by omega),hg _ (by omega),hg _ (by omega),hg _ (by omega)] at ha
  have m0:=ziu T c 0 (by omega)
  have m1:=ziu T c 1 (by omega)
  have m2:=ziu T c 2 (by omega)
  have m3:=ziu T c 3 (by omega)
  rw [←ha] at m0 m1 m2 m3
  rw [Nat.add_zero] at m0
  refine z43 (by omega) m0.symm m1.symm m2.symm m3.symm (X0:=X0) (X1:=X1) (X2:=X2) ?_ ?_ ?_ ?_
  ·rw [e0,←hY,hg (4*c) (by omega),hg (4*c+1) (by omega)]
  ·rw [e1,hg (4*c+1) (by omega),hg (4*c+2) (by omega)]
  ·rw [e2,hg (4*c+2) (by omega),hg (4*c+3) (by omega)]
  ·rw [e3,hg (4*c+3) (by omega),hg (4*c) (by omega)];rfl
end Go.Sym.Aes
namespace Go.Sym.Aes
open Go.Sym.Lp
theorem z8l (x:UInt8):tw x=if 127<x.toNat then x<<<1^^^27 else x<<<1:=by
  have k: ∀n,n<256→tw (UInt8.ofNat n)=if 127<(UInt8.ofNat n).toNat then (UInt8.ofNat n)<<<1^^^27 else (UInt8.ofNat n)<<<1:=by decide+kernel
  have h:=k x.toNat x.toNat_lt
  rwa [UInt8.ofNat_toNat] at h
theorem ygg {x:UInt8} (h:127<x.toNat):tw x=x<<<1^^^27:=by rw [z8l,if_pos h]
theorem yhy {x:UInt8} (h: ¬127<x.toNat):tw x=x<<<1:=by rw [z8l,if_neg h]
end Go.Sym.Aes
namespace Go.Sym.Aes
open Go.Sym.Lp
theorem take4 {l:List UInt8} {a:Nat} (h:a+4≤l.length):(l.drop a).take 4= [l.getD a 0,l.getD (a+1) 0,l.getD (a+2) 0,l.getD (a+3) 0]:=by
  apply List.ext_getElem?
  intro j
  have g: ∀k,k<l.length→some (l.getD k 0)=l[k]?:=fun k hk=>by rw [List.getD_eq_getElem?_getD,List.getElem?_eq_getElem hk];rfl
  by_cases h4:j<4
  ·rw [List.getElem?_take_of_lt h4,List.getElem?_drop]
   have:j=0∨j=1∨j=2∨j=3:=by omega
   rcases this with rfl|rfl|rfl|rfl
   ·rw [Nat.add_zero];exact (g a (by omega)).symm
   ·exact (g (a+1) (by omega)).symm
   ·exact (g (a+2) (by omega)).symm
   ·exact (g (a+3) (by omega)).symm
  ·rw [List.getElem?_eq_none (by rw [List.length_take];omega),List.getElem?_eq_none (by show 4≤j;omega)]
end Go.Sym.Aes
namespace Go.Sym.Aes
theorem z90:List.append (List.append ([99,124,119,123,242,107,111,197,48,1,103,43,254,215,171,118,202,130,201,125,250,89,71,240,173,212,162,175,156,164,114,192,183,253,147,38,54,63,247,204,52,165,229,241,113,216,49,21,4,199,35,195,24,150,5,154,7,18,128,226,235,39,178,117]:List UInt8) [9,131,44,26,27,110,90,160,82,59,214,179,41,227,47,132,83,209,0,237,32,252,177,91,106,203,190,57,74,76,88,207,208,239,170,251,67,77,51,133,69,249,2,127,80,60,159,168,81,163,64,143,146,157,56,245,188,182,218,33,16,255,243,210]) (List.append [205,12,19,236,95,151,68,23,196,167,126,61,100,93,25,115,96,129,79,220,34,42,144,136,70,238,184,20,222,94,11,219,224,50,58,10,73,6,36,92,194,211,172,98,145,149,228,121,231,200,55,109,141,213,78,169,108,86,244,234,101,122,174,8] [186,120,37,46,28,166,180,198,232,221,116,31,75,189,139,138,112,62,181,102,72,3,246,14,97,53,87,185,134,193,29,158,225,248,152,17,105,217,142,148,155,30,135,233,206,85,40,223,140,161,137,13,191,230,66,104,65,153,45,15,176,84,187,22])=box:=by decide+kernel
end Go.Sym.Aes
namespace Go.Sym.Aes
theorem z1y (key:List UInt8) (n:Nat):ks key n 0= []:=rfl
theorem zdt (key:List UInt8) (n i:Nat):ks key n (i+1)=ks key n i++xn key n i (ks key n i):=rfl
end Go.Sym.Aes
