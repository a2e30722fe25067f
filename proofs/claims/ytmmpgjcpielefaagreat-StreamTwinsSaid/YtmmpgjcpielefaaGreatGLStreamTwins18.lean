/-
  Contracts of functions of the program, each said of symbolic values, and plain laws; no condition beyond each statement's own.
-/
import Derived.Test.YtmmpgjcpielefaaGreatGLStreamTwins17
import Derived.Test.YtmmpgjcpielefaaGreatRows
set_option linter.unusedSimpArgs false
set_option linter.unusedVariables false
namespace Go.Sym.Z
open Go.Proofs.Tryz
set_option maxRecDepth 100000
def ty2:TyI:=⟨(.int .i64),1,8,(.int 0),false⟩
def ty3:TyI:=⟨(.int .i64),1,8,(.int 0),false⟩
theorem ty3_ok:yp prog 3 ty3:=⟨⟨_,z9 Go.Proofs.Tryz.typeInfo3,rfl,rfl,fun _=>rfl⟩,⟨by simp [ty3,SV.ok,okL],by simp [ty3,Ty.agg],by simp [ty3,SV.size,z8]⟩,Go.Proofs.Tryz.underlying3,fun h=>by cases h⟩
def ty4:TyI:=⟨.bool,1,1,(.bool false),false⟩
theorem zbm:yp prog 4 ty4:=⟨⟨_,z9 Go.Proofs.Tryz.typeInfo4,rfl,rfl,fun _=>rfl⟩,⟨by simp [ty4,SV.ok,okL],by simp [ty4,Ty.agg],by simp [ty4,SV.size,z8]⟩,Go.Proofs.Tryz.underlying4,fun h=>by cases h⟩
def ty5:TyI:=⟨(.int .u8),1,1,(.u8 0),false⟩
theorem zbe:yp prog 5 ty5:=⟨⟨_,z9 Go.Proofs.Tryz.typeInfo5,rfl,rfl,fun _=>rfl⟩,⟨by simp [ty5,SV.ok,okL],by simp [ty5,Ty.agg],by simp [ty5,SV.size,z8]⟩,Go.Proofs.Tryz.underlying5,fun h=>by cases h⟩
def ty9:TyI:=⟨.str,1,16,(.str []),false⟩
theorem ty9_ok:yp prog 9 ty9:=⟨⟨_,z9 Go.Proofs.Tryz.typeInfo9,rfl,rfl,fun _=>rfl⟩,⟨by simp [ty9,SV.ok,okL],by simp [ty9,Ty.agg],by simp [ty9,SV.size,z8]⟩,Go.Proofs.Tryz.underlying9,fun h=>by cases h⟩
def zxz:TyI:=⟨(.sl 33),1,24,(.nilsl),false⟩
def zjr:TyI:=⟨.ptr,1,8,(.nilptr),false⟩
theorem zp5:yp prog 23 zjr:=⟨⟨_,z9 Go.Proofs.Tryz.typeInfo23,rfl,rfl,fun _=>rfl⟩,⟨by simp [zjr,SV.ok,okL],by simp [zjr,Ty.agg],by simp [zjr,SV.size,z8]⟩,⟨_,Go.Proofs.Tryz.underlying23⟩,fun h=>by cases h⟩
def zxg:TyI:=⟨(.int .i64),1,8,(.int 0),false⟩
def zya:TyI:=⟨.ptr,1,8,(.nilptr),false⟩
def zxo:TyI:=⟨(.struct [(0,3),(1,9),(2,3),(3,9),(4,3),(5,4)]),6,64,(.agg [.int 0,.str [],.int 0,.str [],.int 0,.bool false]),true⟩
def zx6:TyI:=⟨(.struct [(0,3),(1,9),(2,3),(3,9),(4,3),(5,4)]),6,64,(.agg [.int 0,.str [],.int 0,.str [],.int 0,.bool false]),true⟩
def zw6:TyI:=⟨(.struct [(0,3),(1,9)]),2,24,(.agg [.int 0,.str []]),true⟩
def zgz:TyI:=⟨(.struct [(0,3),(1,9)]),2,24,(.agg [.int 0,.str []]),true⟩
theorem zgo:yp prog 43 zgz:=⟨⟨_,z9 Go.Proofs.Tryz.typeInfo43,rfl,rfl,fun _=>rfl⟩,⟨by simp [zgz,SV.ok,okL],by simp [zgz,Ty.agg],by simp [zgz,SV.size,z8]⟩,⟨_,Go.Proofs.Tryz.underlying43,rfl,by decide⟩,fun _=>⟨by decide+kernel,Go.Proofs.Tryz.eqGuardType43⟩⟩
def zcp:TyI:=⟨(.int .u64),1,8,(.u64 0),false⟩
theorem zak:yp prog 48 zcp:=⟨⟨_,z9 Go.Proofs.Tryz.typeInfo48,rfl,rfl,fun _=>rfl⟩,⟨by simp [zcp,SV.ok,okL],by simp [zcp,Ty.agg],by simp [zcp,SV.size,z8]⟩,Go.Proofs.Tryz.underlying48,fun h=>by cases h⟩
def zco:TyI:=⟨(.sl 5),1,24,(.nilsl),false⟩
theorem zam:yp prog 51 zco:=⟨⟨_,z9 Go.Proofs.Tryz.typeInfo51,rfl,rfl,fun _=>rfl⟩,⟨by simp [zco,SV.ok,okL],by simp [zco,Ty.agg],by simp [zco,SV.size,z8]⟩,Go.Proofs.Tryz.underlying51,fun h=>by cases h⟩
def zit:TyI:=⟨.ptr,1,8,(.nilptr),false⟩
theorem zky:yp prog 56 zit:=⟨⟨_,z9 Go.Proofs.Tryz.typeInfo56,rfl,rfl,fun _=>rfl⟩,⟨by simp [zit,SV.ok,okL],by simp [zit,Ty.agg],by simp [zit,SV.size,z8]⟩,⟨_,Go.Proofs.Tryz.underlying56⟩,fun h=>by cases h⟩
def zlr:TyI:=⟨(.sl 3),1,24,(.nilsl),false⟩
theorem z4w:yp prog 59 zlr:=⟨⟨_,z9 Go.Proofs.Tryz.typeInfo59,rfl,rfl,fun _=>rfl⟩,⟨by simp [zlr,SV.ok,okL],by simp [zlr,Ty.agg],by simp [zlr,SV.size,z8]⟩,Go.Proofs.Tryz.underlying59,fun h=>by cases h⟩
def zx1:TyI:=⟨(.sl 63),1,24,(.nilsl),false⟩
def zyr:TyI:=⟨(.struct [(0,3),(1,9),(2,3),(3,9),(4,3),(5,4)]),6,64,(.agg [.int 0,.str [],.int 0,.str [],.int 0,.bool false]),true⟩
def zmw:TyI:=⟨(.sl 9),1,24,(.nilsl),false⟩
theorem z4l:yp prog 66 zmw:=⟨⟨_,z9 Go.Proofs.Tryz.typeInfo66,rfl,rfl,fun _=>rfl⟩,⟨by simp [zmw,SV.ok,okL],by simp [zmw,Ty.agg],by simp [zmw,SV.size,z8]⟩,Go.Proofs.Tryz.underlying66,fun h=>by cases h⟩
def zgw:TyI:=⟨.ptr,1,8,(.nilptr),false⟩
theorem zgq:yp prog 68 zgw:=⟨⟨_,z9 Go.Proofs.Tryz.typeInfo68,rfl,rfl,fun _=>rfl⟩,⟨by simp [zgw,SV.ok,okL],by simp [zgw,Ty.agg],by simp [zgw,SV.size,z8]⟩,⟨_,Go.Proofs.Tryz.underlying68⟩,fun h=>by cases h⟩
def zxt:TyI:=⟨(.struct [(0,3),(1,68)]),2,16,(.agg [.int 0,.nilptr]),true⟩
def zg0:TyI:=⟨(.struct [(0,3),(1,68)]),2,16,(.agg [.int 0,.nilptr]),true⟩
theorem zgn:yp prog 70 zg0:=⟨⟨_,z9 Go.Proofs.Tryz.typeInfo70,rfl,rfl,fun _=>rfl⟩,⟨by simp [zg0,SV.ok,okL],by simp [zg0,Ty.agg],by simp [zg0,SV.size,z8]⟩,⟨_,Go.Proofs.Tryz.underlying70,rfl,by decide⟩,fun _=>⟨by decide+kernel,Go.Proofs.Tryz.eqGuardType70⟩⟩
def zxe:TyI:=⟨(.struct [(0,70),(2,68),(3,9),(4,3)]),5,48,(.agg [.int 0,.nilptr,.nilptr,.str [],.int 0]),true⟩
def zi4:TyI:=⟨(.struct [(0,70),(2,68),(3,9),(4,3)]),5,48,(.agg [.int 0,.nilptr,.nilptr,.str [],.int 0]),true⟩
theorem zqy:yp prog 74 zi4:=⟨⟨_,z9 Go.Proofs.Tryz.typeInfo74,rfl,rfl,fun _=>rfl⟩,⟨by simp [zi4,SV.ok,okL],by simp [zi4,Ty.agg],by simp [zi4,SV.size,z8]⟩,⟨_,Go.Proofs.Tryz.underlying74,rfl,by decide⟩,fun _=>⟨by decide+kernel,Go.Proofs.Tryz.eqGuardType74⟩⟩
def zxs:TyI:=⟨(.struct [(0,3),(1,9),(2,9),(3,3),(4,4)]),5,56,(.agg [.int 0,.str [],.str [],.int 0,.bool false]),true⟩
def zyj:TyI:=⟨(.struct [(0,3),(1,9),(2,9),(3,3),(4,4)]),5,56,(.agg [.int 0,.str [],.str [],.int 0,.bool false]),true⟩
def zyg:TyI:=⟨(.struct [(0,3),(1,3),(2,76),(7,76),(12,9),(13,3)]),14,152,(.agg [.int 0,.int 0,.int 0,.str [],.str [],.int 0,.bool false,.int 0,.str [],.str [],.int 0,.bool false,.str [],.int 0]),true⟩
def zyk:TyI:=⟨(.struct [(0,3),(1,3),(2,76),(7,76),(12,9),(13,3)]),14,152,(.agg [.int 0,.int 0,.int 0,.str [],.str [],.int 0,.bool false,.int 0,.str [],.str [],.int 0,.bool false,.str [],.int 0]),true⟩
def zhk:TyI:=⟨.ptr,1,8,(.nilptr),false⟩
theorem zim:yp prog 93 zhk:=⟨⟨_,z9 Go.Proofs.Tryz.typeInfo93,rfl,rfl,fun _=>rfl⟩,⟨by simp [zhk,SV.ok,okL],by simp [zhk,Ty.agg],by simp [zhk,SV.size,z8]⟩,⟨_,Go.Proofs.Tryz.underlying93⟩,fun h=>by cases h⟩
def zx2:TyI:=⟨(.struct [(0,70),(2,68),(3,93),(4,3)]),5,40,(.agg [.int 0,.nilptr,.nilptr,.nilptr,.int 0]),true⟩
def zin:TyI:=⟨(.struct [(0,70),(2,68),(3,93),(4,3)]),5,40,(.agg [.int 0,.nilptr,.nilptr,.nilptr,.int 0]),true⟩
theorem zkm:yp prog 97 zin:=⟨⟨_,z9 Go.Proofs.Tryz.typeInfo97,rfl,rfl,fun _=>rfl⟩,⟨by simp [zin,SV.ok,okL],by simp [zin,Ty.agg],by simp [zin,SV.size,z8]⟩,⟨_,Go.Proofs.Tryz.underlying97,rfl,by decide⟩,fun _=>⟨by decide+kernel,Go.Proofs.Tryz.eqGuardType97⟩⟩
def x3:TyI:=⟨(.int .u64),1,8,(.u64 0),false⟩
theorem za7:yp prog 99 x3:=⟨⟨_,z9 Go.Proofs.Tryz.typeInfo99,rfl,rfl,fun _=>rfl⟩,⟨by simp [x3,SV.ok,okL],by simp [x3,Ty.agg],by simp [x3,SV.size,z8]⟩,Go.Proofs.Tryz.underlying99,fun h=>by cases h⟩
def znx:TyI:=⟨(.struct [(0,3),(1,9),(2,9),(3,3)]),4,48,(.agg [.int 0,.str [],.str [],.int 0]),true⟩
def zck:TyI:=⟨(.struct [(0,3),(1,9),(2,9),(3,3)]),4,48,(.agg [.int 0,.str [],.str [],.int 0]),true⟩
theorem zdq:yp prog 103 zck:=⟨⟨_,z9 Go.Proofs.Tryz.typeInfo103,rfl,rfl,fun _=>rfl⟩,⟨by simp [zck,SV.ok,okL],by simp [zck,Ty.agg],by simp [zck,SV.size,z8]⟩,⟨_,Go.Proofs.Tryz.underlying103,rfl,by decide⟩,fun _=>⟨by decide+kernel,Go.Proofs.Tryz.eqGuardType103⟩⟩
def zcj:TyI:=⟨.ptr,1,8,(.nilptr),false⟩
theorem zds:yp prog 104 zcj:=⟨⟨_,z9 Go.Proofs.Tryz.typeInfo104,rfl,rfl,fun _=>rfl⟩,⟨by simp [zcj,SV.ok,okL],by simp [zcj,Ty.agg],by simp [zcj,SV.size,z8]⟩,⟨_,Go.Proofs.Tryz.underlying104⟩,fun h=>by cases h⟩
def x4:TyI:=⟨(.int .u32),1,4,(.u32 0),false⟩
theorem zai:yp prog 113 x4:=⟨⟨_,z9 Go.Proofs.Tryz.typeInfo113,rfl,rfl,fun _=>rfl⟩,⟨by simp [x4,SV.ok,okL],by simp [x4,Ty.agg],by simp [x4,SV.size,z8]⟩,Go.Proofs.Tryz.underlying113,fun h=>by cases h⟩
def zgc:TyI:=⟨(.sl 148),1,24,(.nilsl),false⟩
theorem z3e:yp prog 116 zgc:=⟨⟨_,z9 Go.Proofs.Tryz.typeInfo116,rfl,rfl,fun _=>rfl⟩,⟨by simp [zgc,SV.ok,okL],by simp [zgc,Ty.agg],by simp [zgc,SV.size,z8]⟩,Go.Proofs.Tryz.underlying116,fun h=>by cases h⟩
def zn8:TyI:=⟨(.struct [(0,51),(1,3),(2,3)]),3,40,(.agg [.nilsl,.int 0,.int 0]),false⟩
def zc3:TyI:=⟨(.struct [(0,51),(1,3),(2,3)]),3,40,(.agg [.nilsl,.int 0,.int 0]),false⟩
theorem zfj:yp prog 121 zc3:=⟨⟨_,z9 Go.Proofs.Tryz.typeInfo121,rfl,rfl,fun _=>rfl⟩,⟨by simp [zc3,SV.ok,okL],by simp [zc3,Ty.agg],by simp [zc3,SV.size,z8]⟩,⟨_,Go.Proofs.Tryz.underlying121,rfl,by decide⟩,fun h=>by cases h⟩
def zn0:TyI:=⟨(.struct [(0,51),(1,51)]),2,48,(.agg [.nilsl,.nilsl]),false⟩
def ze7:TyI:=⟨(.struct [(0,51),(1,51)]),2,48,(.agg [.nilsl,.nilsl]),false⟩
theorem z1h:yp prog 132 ze7:=⟨⟨_,z9 Go.Proofs.Tryz.typeInfo132,rfl,rfl,fun _=>rfl⟩,⟨by simp [ze7,SV.ok,okL],by simp [ze7,Ty.agg],by simp [ze7,SV.size,z8]⟩,⟨_,Go.Proofs.Tryz.underlying132,rfl,by decide⟩,fun h=>by cases h⟩
def zeq:TyI:=⟨.ptr,1,8,(.nilptr),false⟩
theorem zrn:yp prog 134 zeq:=⟨⟨_,z9 Go.Proofs.Tryz.typeInfo134,rfl,rfl,fun _=>rfl⟩,⟨by simp [zeq,SV.ok,okL],by simp [zeq,Ty.agg],by simp [zeq,SV.size,z8]⟩,⟨_,Go.Proofs.Tryz.underlying134⟩,fun h=>by cases h⟩
def zoi:TyI:=⟨(.struct [(0,9),(1,9),(2,134)]),3,40,(.agg [.str [],.str [],.nilptr]),true⟩
def zfn:TyI:=⟨(.struct [(0,9),(1,9),(2,134)]),3,40,(.agg [.str [],.str [],.nilptr]),true⟩
theorem z0n:yp prog 136 zfn:=⟨⟨_,z9 Go.Proofs.Tryz.typeInfo136,rfl,rfl,fun _=>rfl⟩,⟨by simp [zfn,SV.ok,okL],by simp [zfn,Ty.agg],by simp [zfn,SV.size,z8]⟩,⟨_,Go.Proofs.Tryz.underlying136,rfl,by decide⟩,fun _=>⟨by decide+kernel,Go.Proofs.Tryz.eqGuardType136⟩⟩
def zet:TyI:=⟨.func,1,8,(.nilfn),false⟩
theorem zrm:yp prog 143 zet:=⟨⟨_,z9 Go.Proofs.Tryz.typeInfo143,rfl,rfl,fun _=>rfl⟩,⟨by simp [zet,SV.ok,okL],by simp [zet,Ty.agg],by simp [zet,SV.size,z8]⟩,⟨_,_,_,Go.Proofs.Tryz.underlying143⟩,fun h=>by cases h⟩
def zcb:TyI:=⟨(.arr 4 5),4,4,(.arr8 4 [0,0,0,0]),true⟩
theorem zzv:yp prog 148 zcb:=⟨⟨_,z9 Go.Proofs.Tryz.typeInfo148,rfl,rfl,fun _=>rfl⟩,⟨by simp [zcb,SV.ok,okL],by simp [zcb,Ty.agg],by simp [zcb,SV.size,z8]⟩,Go.Proofs.Tryz.underlying148,fun _=>⟨by decide+kernel,Go.Proofs.Tryz.eqGuardType148⟩⟩
def zga:TyI:=⟨(.arr 16 113),16,64,(.arr32 16 (List.replicate 16 0)),true⟩
theorem z2h:yp prog 164 zga:=⟨⟨_,z9 Go.Proofs.Tryz.typeInfo164,rfl,rfl,fun _=>rfl⟩,⟨by simp [zga,SV.ok,okL],by simp [zga,Ty.agg],by simp [zga,SV.size,z8]⟩,Go.Proofs.Tryz.underlying164,fun _=>⟨by decide+kernel,Go.Proofs.Tryz.eqGuardType164⟩⟩
def ze5:TyI:=⟨(.arr 5 99),5,40,(.arr64 5 [0,0,0,0,0]),true⟩
theorem zzw:yp prog 167 ze5:=⟨⟨_,z9 Go.Proofs.Tryz.typeInfo167,rfl,rfl,fun _=>rfl⟩,⟨by simp [ze5,SV.ok,okL],by simp [ze5,Ty.agg],by simp [ze5,SV.size,z8]⟩,Go.Proofs.Tryz.underlying167,fun _=>⟨by decide+kernel,Go.Proofs.Tryz.eqGuardType167⟩⟩
def zc9:TyI:=⟨(.arr 16 5),16,16,(.arr8 16 (List.replicate 16 0)),true⟩
theorem zh9:yp prog 168 zc9:=⟨⟨_,z9 Go.Proofs.Tryz.typeInfo168,rfl,rfl,fun _=>rfl⟩,⟨by simp [zc9,SV.ok,okL],by simp [zc9,Ty.agg],by simp [zc9,SV.size,z8]⟩,Go.Proofs.Tryz.underlying168,fun _=>⟨by decide+kernel,Go.Proofs.Tryz.eqGuardType168⟩⟩
def zd4:TyI:=⟨.ptr,1,8,(.nilptr),false⟩
theorem zll:yp prog 178 zd4:=⟨⟨_,z9 Go.Proofs.Tryz.typeInfo178,rfl,rfl,fun _=>rfl⟩,⟨by simp [zd4,SV.ok,okL],by simp [zd4,Ty.agg],by simp [zd4,SV.size,z8]⟩,⟨_,Go.Proofs.Tryz.underlying178⟩,fun h=>by cases h⟩
def zoj:TyI:=⟨(.struct [(0,99),(1,99)]),2,16,(.agg [.u64 0,.u64 0]),true⟩
def zbo:TyI:=⟨(.struct [(0,99),(1,99)]),2,16,(.agg [.u64 0,.u64 0]),true⟩
theorem zsk:yp prog 183 zbo:=⟨⟨_,z9 Go.Proofs.Tryz.typeInfo183,rfl,rfl,fun _=>rfl⟩,⟨by simp [zbo,SV.ok,okL],by simp [zbo,Ty.agg],by simp [zbo,SV.size,z8]⟩,⟨_,Go.Proofs.Tryz.underlying183,rfl,by decide⟩,fun _=>⟨by decide+kernel,Go.Proofs.Tryz.eqGuardType183⟩⟩
def znp:TyI:=⟨(.struct [(0,178),(1,183)]),3,24,(.agg [.nilptr,.u64 0,.u64 0]),true⟩
def zez:TyI:=⟨(.struct [(0,178),(1,183)]),3,24,(.agg [.nilptr,.u64 0,.u64 0]),true⟩
theorem zro:yp prog 186 zez:=⟨⟨_,z9 Go.Proofs.Tryz.typeInfo186,rfl,rfl,fun _=>rfl⟩,⟨by simp [zez,SV.ok,okL],by simp [zez,Ty.agg],by simp [zez,SV.size,z8]⟩,⟨_,Go.Proofs.Tryz.underlying186,rfl,by decide⟩,fun _=>⟨by decide+kernel,Go.Proofs.Tryz.eqGuardType186⟩⟩
def zgj:TyI:=⟨(.arr 64 5),64,64,(.arr8 64 (List.replicate 64 0)),true⟩
theorem z0e:yp prog 187 zgj:=⟨⟨_,z9 Go.Proofs.Tryz.typeInfo187,rfl,rfl,fun _=>rfl⟩,⟨by simp [zgj,SV.ok,okL],by simp [zgj,Ty.agg],by simp [zgj,SV.size,z8]⟩,Go.Proofs.Tryz.underlying187,fun _=>⟨by decide+kernel,Go.Proofs.Tryz.eqGuardType187⟩⟩
def zfx:TyI:=⟨(.arr 16 113),16,64,(.arr32 16 (List.replicate 16 0)),true⟩
theorem z23:yp prog 188 zfx:=⟨⟨_,z9 Go.Proofs.Tryz.typeInfo188,rfl,rfl,fun _=>rfl⟩,⟨by simp [zfx,SV.ok,okL],by simp [zfx,Ty.agg],by simp [zfx,SV.size,z8]⟩,Go.Proofs.Tryz.underlying188,fun _=>⟨by decide+kernel,Go.Proofs.Tryz.eqGuardType188⟩⟩
def zfb:TyI:=⟨.ptr,1,8,(.nilptr),false⟩
theorem z3h:yp prog 193 zfb:=⟨⟨_,z9 Go.Proofs.Tryz.typeInfo193,rfl,rfl,fun _=>rfl⟩,⟨by simp [zfb,SV.ok,okL],by simp [zfb,Ty.agg],by simp [zfb,SV.size,z8]⟩,⟨_,Go.Proofs.Tryz.underlying193⟩,fun h=>by cases h⟩
def zfo:TyI:=⟨.ptr,1,8,(.nilptr),false⟩
theorem z08:yp prog 195 zfo:=⟨⟨_,z9 Go.Proofs.Tryz.typeInfo195,rfl,rfl,fun _=>rfl⟩,⟨by simp [zfo,SV.ok,okL],by simp [zfo,Ty.agg],by simp [zfo,SV.size,z8]⟩,⟨_,Go.Proofs.Tryz.underlying195⟩,fun h=>by cases h⟩
def zge:TyI:=⟨(.arr 16 183),32,256,(.arr64 32 (List.replicate 32 0)),true⟩
theorem zy3:yp prog 198 zge:=⟨⟨_,z9 Go.Proofs.Tryz.typeInfo198,rfl,rfl,fun _=>rfl⟩,⟨by simp [zge,SV.ok,okL],by simp [zge,Ty.agg],by simp [zge,SV.size,z8]⟩,Go.Proofs.Tryz.underlying198,fun _=>⟨by decide+kernel,Go.Proofs.Tryz.eqGuardType198⟩⟩
def zgh:TyI:=⟨(.arr 16 99),16,128,(.arr64 16 (List.replicate 16 0)),true⟩
theorem z3p:yp prog 199 zgh:=⟨⟨_,z9 Go.Proofs.Tryz.typeInfo199,rfl,rfl,fun _=>rfl⟩,⟨by simp [zgh,SV.ok,okL],by simp [zgh,Ty.agg],by simp [zgh,SV.size,z8]⟩,Go.Proofs.Tryz.underlying199,fun _=>⟨by decide+kernel,Go.Proofs.Tryz.eqGuardType199⟩⟩
def znn:TyI:=⟨(.struct [(0,198),(32,199),(48,183)]),50,400,(.agg [.arr64 32 (List.replicate 32 0),.arr64 16 (List.replicate 16 0),.u64 0,.u64 0]),true⟩
def zfk:TyI:=⟨(.struct [(0,198),(32,199),(48,183)]),50,400,(.agg [.arr64 32 (List.replicate 32 0),.arr64 16 (List.replicate 16 0),.u64 0,.u64 0]),true⟩
theorem z2l:yp prog 201 zfk:=⟨⟨_,z9 Go.Proofs.Tryz.typeInfo201,rfl,rfl,fun _=>rfl⟩,⟨by simp [zfk,SV.ok,okL],by simp [zfk,Ty.agg],by simp [zfk,SV.size,z8]⟩,⟨_,Go.Proofs.Tryz.underlying201,rfl,by decide⟩,fun _=>⟨by decide+kernel,Go.Proofs.Tryz.eqGuardType201⟩⟩
def zex:TyI:=⟨.ptr,1,8,(.nilptr),false⟩
theorem zre:yp prog 207 zex:=⟨⟨_,z9 Go.Proofs.Tryz.typeInfo207,rfl,rfl,fun _=>rfl⟩,⟨by simp [zex,SV.ok,okL],by simp [zex,Ty.agg],by simp [zex,SV.size,z8]⟩,⟨_,Go.Proofs.Tryz.underlying207⟩,fun h=>by cases h⟩
def zoe:TyI:=⟨(.struct [(0,207),(1,207)]),2,16,(.agg [.nilptr,.nilptr]),true⟩
def zf8:TyI:=⟨(.struct [(0,207),(1,207)]),2,16,(.agg [.nilptr,.nilptr]),true⟩
theorem zz9:yp prog 209 zf8:=⟨⟨_,z9 Go.Proofs.Tryz.typeInfo209,rfl,rfl,fun _=>rfl⟩,⟨by simp [zf8,SV.ok,okL],by simp [zf8,Ty.agg],by simp [zf8,SV.size,z8]⟩,⟨_,Go.Proofs.Tryz.underlying209,rfl,by decide⟩,fun _=>⟨by decide+kernel,Go.Proofs.Tryz.eqGuardType209⟩⟩
def zdn:TyI:=⟨(.arr 256 5),256,256,(.arr8 256 (List.replicate 256 0)),true⟩
theorem zmp:yp prog 212 zdn:=⟨⟨_,z9 Go.Proofs.Tryz.typeInfo212,rfl,rfl,fun _=>rfl⟩,⟨by simp [zdn,SV.ok,okL],by simp [zdn,Ty.agg],by simp [zdn,SV.size,z8]⟩,Go.Proofs.Tryz.underlying212,fun _=>⟨by decide+kernel,Go.Proofs.Tryz.eqGuardType212⟩⟩
def zd3:TyI:=⟨(.sl 168),1,24,(.nilsl),false⟩
theorem zmi:yp prog 214 zd3:=⟨⟨_,z9 Go.Proofs.Tryz.typeInfo214,rfl,rfl,fun _=>rfl⟩,⟨by simp [zd3,SV.ok,okL],by simp [zd3,Ty.agg],by simp [zd3,SV.size,z8]⟩,Go.Proofs.Tryz.underlying214,fun h=>by cases h⟩
def znt:TyI:=⟨(.struct [(0,212),(256,214)]),257,280,(.agg [.arr8 256 (List.replicate 256 0),.nilsl]),false⟩
def zdz:TyI:=⟨(.struct [(0,212),(256,214)]),257,280,(.agg [.arr8 256 (List.replicate 256 0),.nilsl]),false⟩
theorem zk7:yp prog 216 zdz:=⟨⟨_,z9 Go.Proofs.Tryz.typeInfo216,rfl,rfl,fun _=>rfl⟩,⟨by simp [zdz,SV.ok,okL],by simp [zdz,Ty.agg],by simp [zdz,SV.size,z8]⟩,⟨_,Go.Proofs.Tryz.underlying216,rfl,by decide⟩,fun h=>by cases h⟩
def zgi:TyI:=⟨(.arr 5 99),5,40,(.arr64 5 [0,0,0,0,0]),true⟩
theorem zzu:yp prog 220 zgi:=⟨⟨_,z9 Go.Proofs.Tryz.typeInfo220,rfl,rfl,fun _=>rfl⟩,⟨by simp [zgi,SV.ok,okL],by simp [zgi,Ty.agg],by simp [zgi,SV.size,z8]⟩,Go.Proofs.Tryz.underlying220,fun _=>⟨by decide+kernel,Go.Proofs.Tryz.eqGuardType220⟩⟩
def zno:TyI:=⟨(.struct [(0,220),(5,220)]),10,80,(.agg [.arr64 5 [0,0,0,0,0],.arr64 5 [0,0,0,0,0]]),true⟩
def zf5:TyI:=⟨(.struct [(0,220),(5,220)]),10,80,(.agg [.arr64 5 [0,0,0,0,0],.arr64 5 [0,0,0,0,0]]),true⟩
theorem z2b:yp prog 223 zf5:=⟨⟨_,z9 Go.Proofs.Tryz.typeInfo223,rfl,rfl,fun _=>rfl⟩,⟨by simp [zf5,SV.ok,okL],by simp [zf5,Ty.agg],by simp [zf5,SV.size,z8]⟩,⟨_,Go.Proofs.Tryz.underlying223,rfl,by decide⟩,fun _=>⟨by decide+kernel,Go.Proofs.Tryz.eqGuardType223⟩⟩
def zf4:TyI:=⟨.ptr,1,8,(.nilptr),false⟩
theorem z2j:yp prog 235 zf4:=⟨⟨_,z9 Go.Proofs.Tryz.typeInfo235,rfl,rfl,fun _=>rfl⟩,⟨by simp [zf4,SV.ok,okL],by simp [zf4,Ty.agg],by simp [zf4,SV.size,z8]⟩,⟨_,Go.Proofs.Tryz.underlying235⟩,fun h=>by cases h⟩
def zgg:TyI:=⟨(.arr 3 99),3,24,(.arr64 3 [0,0,0]),true⟩
theorem z1p:yp prog 236 zgg:=⟨⟨_,z9 Go.Proofs.Tryz.typeInfo236,rfl,rfl,fun _=>rfl⟩,⟨by simp [zgg,SV.ok,okL],by simp [zgg,Ty.agg],by simp [zgg,SV.size,z8]⟩,Go.Proofs.Tryz.underlying236,fun _=>⟨by decide+kernel,Go.Proofs.Tryz.eqGuardType236⟩⟩
def zfm:TyI:=⟨.ptr,1,8,(.nilptr),false⟩
theorem zzq:yp prog 238 zfm:=⟨⟨_,z9 Go.Proofs.Tryz.typeInfo238,rfl,rfl,fun _=>rfl⟩,⟨by simp [zfm,SV.ok,okL],by simp [zfm,Ty.agg],by simp [zfm,SV.size,z8]⟩,⟨_,Go.Proofs.Tryz.underlying238⟩,fun h=>by cases h⟩
def zfi:TyI:=⟨(.arr 8 113),8,32,(.arr32 8 [0,0,0,0,0,0,0,0]),true⟩
theorem z20:yp prog 239 zfi:=⟨⟨_,z9 Go.Proofs.Tryz.typeInfo239,rfl,rfl,fun _=>rfl⟩,⟨by simp [zfi,SV.ok,okL],by simp [zfi,Ty.agg],by simp [zfi,SV.size,z8]⟩,Go.Proofs.Tryz.underlying239,fun _=>⟨by decide+kernel,Go.Proofs.Tryz.eqGuardType239⟩⟩
def zfe:TyI:=⟨(.arr 8 99),8,64,(.arr64 8 [0,0,0,0,0,0,0,0]),true⟩
theorem zz6:yp prog 242 zfe:=⟨⟨_,z9 Go.Proofs.Tryz.typeInfo242,rfl,rfl,fun _=>rfl⟩,⟨by simp [zfe,SV.ok,okL],by simp [zfe,Ty.agg],by simp [zfe,SV.size,z8]⟩,Go.Proofs.Tryz.underlying242,fun _=>⟨by decide+kernel,Go.Proofs.Tryz.eqGuardType242⟩⟩
def zfp:TyI:=⟨(.arr 80 99),80,640,(.arr64 80 (List.replicate 80 0)),true⟩
theorem zz8:yp prog 245 zfp:=⟨⟨_,z9 Go.Proofs.Tryz.typeInfo245,rfl,rfl,fun _=>rfl⟩,⟨by simp [zfp,SV.ok,okL],by simp [zfp,Ty.agg],by simp [zfp,SV.size,z8]⟩,Go.Proofs.Tryz.underlying245,fun _=>⟨by decide+kernel,Go.Proofs.Tryz.eqGuardType245⟩⟩
def zom:TyI:=⟨(.struct [(0,3),(1,242),(9,245),(89,51),(90,99)]),91,744,(.agg [.int 0,.arr64 8 [0,0,0,0,0,0,0,0],.arr64 80 (List.replicate 80 0),.nilsl,.u64 0]),false⟩
def ze1:TyI:=⟨(.struct [(0,3),(1,242),(9,245),(89,51),(90,99)]),91,744,(.agg [.int 0,.arr64 8 [0,0,0,0,0,0,0,0],.arr64 80 (List.replicate 80 0),.nilsl,.u64 0]),false⟩
theorem zsp:yp prog 248 ze1:=⟨⟨_,z9 Go.Proofs.Tryz.typeInfo248,rfl,rfl,fun _=>rfl⟩,⟨by simp [ze1,SV.ok,okL],by simp [ze1,Ty.agg],by simp [ze1,SV.size,z8]⟩,⟨_,Go.Proofs.Tryz.underlying248,rfl,by decide⟩,fun h=>by cases h⟩
def zf0:TyI:=⟨(.arr 64 113),64,256,(.arr32 64 (List.replicate 64 0)),true⟩
theorem z3n:yp prog 249 zf0:=⟨⟨_,z9 Go.Proofs.Tryz.typeInfo249,rfl,rfl,fun _=>rfl⟩,⟨by simp [zf0,SV.ok,okL],by simp [zf0,Ty.agg],by simp [zf0,SV.size,z8]⟩,Go.Proofs.Tryz.underlying249,fun _=>⟨by decide+kernel,Go.Proofs.Tryz.eqGuardType249⟩⟩
def zoa:TyI:=⟨.ptr,1,8,(.nilptr),false⟩
theorem yc6:ty2.sz=1∧ty2.bytes=8∧ty3.sz=1∧ty3.bytes=8∧ty4.sz=1∧ty4.bytes=1∧ty5.sz=1∧ty5.bytes=1∧ty9.sz=1∧ty9.bytes=16∧zxz.sz=1∧zxz.bytes=24∧zjr.sz=1∧zjr.bytes=8∧zxg.sz=1∧zxg.bytes=8∧zya.sz=1∧zya.bytes=8∧zxo.sz=6∧zxo.bytes=64∧zx6.sz=6∧zx6.bytes=64∧zw6.sz=2∧zw6.bytes=24∧zgz.sz=2∧zgz.bytes=24∧zcp.sz=1∧zcp.bytes=8∧zco.sz=1∧zco.bytes=24∧zit.sz=1∧zit.bytes=8∧zlr.sz=1∧zlr.bytes=24∧zx1.sz=1∧zx1.bytes=24∧zyr.sz=6∧zyr.bytes=64∧zmw.sz=1∧zmw.bytes=24∧zgw.sz=1∧zgw.bytes=8∧zxt.sz=2∧zxt.bytes=16∧zg0.sz=2∧zg0.bytes=16∧zxe.sz=5∧zxe.bytes=48∧zi4.sz=5∧zi4.bytes=48∧zxs.sz=5∧zxs.bytes=56∧zyj.sz=5∧zyj.bytes=56∧zyg.sz=14∧zyg.bytes=152∧zyk.sz=14∧zyk.bytes=152∧zhk.sz=1∧zhk.bytes=8∧zx2.sz=5∧zx2.bytes=40∧zin.sz=5∧zin.bytes=40∧x3.sz=1∧x3.bytes=8∧znx.sz=4∧znx.bytes=48∧zck.sz=4∧zck.bytes=48∧zcj.sz=1∧zcj.bytes=8∧x4.sz=1∧x4.bytes=4∧zgc.sz=1∧zgc.bytes=24∧zn8.sz=3∧zn8.bytes=40∧zc3.sz=3∧zc3.bytes=40∧zn0.sz=2∧zn0.bytes=48∧ze7.sz=2∧ze7.bytes=48∧zeq.sz=1∧zeq.bytes=8∧zoi.sz=3∧zoi.bytes=40∧zfn.sz=3∧zfn.bytes=40∧zet.sz=1∧zet.bytes=8∧zcb.sz=4∧zcb.bytes=4∧zga.sz=16∧zga.bytes=64∧ze5.sz=5∧ze5.bytes=40∧zc9.sz=16∧zc9.bytes=16∧zd4.sz=1∧zd4.bytes=8∧zoj.sz=2∧zoj.bytes=16∧zbo.sz=2∧zbo.bytes=16∧znp.sz=3∧znp.bytes=24∧zez.sz=3∧zez.bytes=24∧zgj.sz=64∧zgj.bytes=64∧zfx.sz=16∧zfx.bytes=64∧zfb.sz=1∧zfb.bytes=8∧zfo.sz=1∧zfo.bytes=8∧zge.sz=32∧zge.bytes=256∧zgh.sz=16∧zgh.bytes=128∧znn.sz=50∧znn.bytes=400∧zfk.sz=50∧zfk.bytes=400∧zex.sz=1∧zex.bytes=8∧zoe.sz=2∧zoe.bytes=16∧zf8.sz=2∧zf8.bytes=16∧zdn.sz=256∧zdn.bytes=256∧zd3.sz=1∧zd3.bytes=24∧znt.sz=257∧znt.bytes=280∧zdz.sz=257∧zdz.bytes=280∧zgi.sz=5∧zgi.bytes=40∧zno.sz=10∧zno.bytes=80∧zf5.sz=10∧zf5.bytes=80∧zf4.sz=1∧zf4.bytes=8∧zgg.sz=3∧zgg.bytes=24∧zfm.sz=1∧zfm.bytes=8∧zfi.sz=8∧zfi.bytes=32∧zfe.sz=8∧zfe.bytes=64∧zfp.sz=80∧zfp.bytes=640∧zom.sz=91∧zom.bytes=744∧ze1.sz=91∧ze1.bytes=744∧zf0.sz=64∧zf0.bytes=256∧zoa.sz=1∧zoa.bytes=8:=by
  refine ⟨rfl,rfl,rfl,rfl,rfl,rfl,rfl,rfl,rfl,rfl,rfl,rfl,rfl,rfl,rfl,rfl,rfl,rfl,rfl,rfl,rfl,rfl,rfl,rfl,rfl,rfl,rfl,rfl,rfl,rfl,rfl,rfl,rfl,rfl,rfl,rfl,rfl,rfl,rfl,rfl,rfl,rfl,rfl,rfl,rfl,rfl,rfl,rfl,rfl,rfl,rfl,rfl,rfl,rfl,rfl,rfl,rfl,rfl,rfl,rfl,rfl,rfl,rfl,rfl,rfl,rfl,rfl,rfl,rfl,rfl,rfl,rfl,rfl,rfl,rfl,rfl,rfl,rfl,rfl,rfl,rfl,rfl,rfl,rfl,rfl,rfl,rfl,rfl,rfl,rfl,rfl,rfl,rfl,rfl,rfl,rfl,rfl,rfl,rfl,rfl,rfl,rfl,rfl,rfl,rfl,rfl,rfl,rfl,rfl,rfl,rfl,rfl,rfl,rfl,rfl,rfl,rfl,rfl,rfl,rfl,rfl,rfl,rfl,rfl,rfl,rfl,rfl,rfl,rfl,rfl,rfl,rfl,rfl,rfl,rfl,rfl,rfl,rfl,rfl,rfl,rfl,rfl,rfl,rfl,rfl,rfl,rfl,rfl,rfl,rfl,rfl,rfl,rfl,rfl,rfl,rfl,rfl,rfl,rfl,rfl,rfl,rfl,rfl,rfl,rfl,rfl⟩
theorem yc3:(∀{α:Type} {x y:List α},(x++y).length=x.length+y.length)∧(∀{α:Type} {i:Nat} {l:List α},(List.take i l).length=min i l.length)∧(∀{α:Type} {i:Nat} {l:List α},(List.drop i l).length=l.length-i)∧(∀{α:Type},([]:List α).length=0)∧(∀{α:Type} {a:α} {l:List α},(a ::l).length=l.length+1)∧(∀{α:Type} {n:Nat} {a:α},(List.replicate n a).length=n)∧(∀{α:Type} {l:List α} {i:Nat} {a:α},(l.set i a).length=l.length):=
  ⟨List.length_append,List.length_take,List.length_drop,List.length_nil,List.length_cons,List.length_replicate,List.length_set⟩
theorem sz:(∀(o:List (Nat×Nat)) (i e:Nat),off (yb o i e)=off o+i*e)∧(ty2.sz=1∧ty2.bytes=8∧ty3.sz=1∧ty3.bytes=8∧ty4.sz=1∧ty4.bytes=1∧ty5.sz=1∧ty5.bytes=1∧ty9.sz=1∧ty9.bytes=16∧zxz.sz=1∧zxz.bytes=24∧zjr.sz=1∧zjr.bytes=8∧zxg.sz=1∧zxg.bytes=8∧zya.sz=1∧zya.bytes=8∧zxo.sz=6∧zxo.bytes=64∧zx6.sz=6∧zx6.bytes=64∧zw6.sz=2∧zw6.bytes=24∧zgz.sz=2∧zgz.bytes=24∧zcp.sz=1∧zcp.bytes=8∧zco.sz=1∧zco.bytes=24∧zit.sz=1∧zit.bytes=8∧zlr.sz=1∧zlr.bytes=24∧zx1.sz=1∧zx1.bytes=24∧zyr.sz=6∧zyr.bytes=64∧zmw.sz=1∧zmw.bytes=24∧zgw.sz=1∧zgw.bytes=8∧zxt.sz=2∧zxt.bytes=16∧zg0.sz=2∧zg0.bytes=16∧zxe.sz=5∧zxe.bytes=48∧zi4.sz=5∧zi4.bytes=48∧zxs.sz=5∧zxs.bytes=56∧zyj.sz=5∧zyj.bytes=56∧zyg.sz=14∧zyg.bytes=152∧zyk.sz=14∧zyk.bytes=152∧zhk.sz=1∧zhk.bytes=8∧zx2.sz=5∧zx2.bytes=40∧zin.sz=5∧zin.bytes=40∧x3.sz=1∧x3.bytes=8∧znx.sz=4∧znx.bytes=48∧zck.sz=4∧zck.bytes=48∧zcj.sz=1∧zcj.bytes=8∧x4.sz=1∧x4.bytes=4∧zgc.sz=1∧zgc.bytes=24∧zn8.sz=3∧zn8.bytes=40∧zc3.sz=3∧zc3.bytes=40∧zn0.sz=2∧zn0.bytes=48∧ze7.sz=2∧ze7.bytes=48∧zeq.sz=1∧zeq.bytes=8∧zoi.sz=3∧zoi.bytes=40∧zfn.sz=3∧zfn.bytes=40∧zet.sz=1∧zet.bytes=8∧zcb.sz=4∧zcb.bytes=4∧zga.sz=16∧zga.bytes=64∧ze5.sz=5∧ze5.bytes=40∧zc9.sz=16∧zc9.bytes=16∧zd4.sz=1∧zd4.bytes=8∧zoj.sz=2∧zoj.bytes=16∧zbo.sz=2∧zbo.bytes=16∧znp.sz=3∧znp.bytes=24∧zez.sz=3∧zez.bytes=24∧zgj.sz=64∧zgj.bytes=64∧zfx.sz=16∧zfx.bytes=64∧zfb.sz=1∧zfb.bytes=8∧zfo.sz=1∧zfo.bytes=8∧zge.sz=32∧zge.bytes=256∧zgh.sz=16∧zgh.bytes=128∧znn.sz=50∧znn.bytes=400∧zfk.sz=50∧zfk.bytes=400∧zex.sz=1∧zex.bytes=8∧zoe.sz=2∧zoe.bytes=16∧zf8.sz=2∧zf8.bytes=16∧zdn.sz=256∧zdn.bytes=256∧zd3.sz=1∧zd3.bytes=24∧znt.sz=257∧znt.bytes=280∧zdz.sz=257∧zdz.bytes=280∧zgi.sz=5∧zgi.bytes=40∧zno.sz=10∧zno.bytes=80∧zf5.sz=10∧zf5.bytes=80∧zf4.sz=1∧zf4.bytes=8∧zgg.sz=3∧zgg.bytes=24∧zfm.sz=1∧zfm.bytes=8∧zfi.sz=8∧zfi.bytes=32∧zfe.sz=8∧zfe.bytes=64∧zfp.sz=80∧zfp.bytes=640∧zom.sz=91∧zom.bytes=744∧ze1.sz=91∧ze1.bytes=744∧zf0.sz=64∧zf0.bytes=256∧zoa.sz=1∧zoa.bytes=8):=⟨fun o i e=>zy o i e,yc6⟩
theorem szl:((∀(o:List (Nat×Nat)) (i e:Nat),off (yb o i e)=off o+i*e)∧(ty2.sz=1∧ty2.bytes=8∧ty3.sz=1∧ty3.bytes=8∧ty4.sz=1∧ty4.bytes=1∧ty5.sz=1∧ty5.bytes=1∧ty9.sz=1∧ty9.bytes=16∧zxz.sz=1∧zxz.bytes=24∧zjr.sz=1∧zjr.bytes=8∧zxg.sz=1∧zxg.bytes=8∧zya.sz=1∧zya.bytes=8∧zxo.sz=6∧zxo.bytes=64∧zx6.sz=6∧zx6.bytes=64∧zw6.sz=2∧zw6.bytes=24∧zgz.sz=2∧zgz.bytes=24∧zcp.sz=1∧zcp.bytes=8∧zco.sz=1∧zco.bytes=24∧zit.sz=1∧zit.bytes=8∧zlr.sz=1∧zlr.bytes=24∧zx1.sz=1∧zx1.bytes=24∧zyr.sz=6∧zyr.bytes=64∧zmw.sz=1∧zmw.bytes=24∧zgw.sz=1∧zgw.bytes=8∧zxt.sz=2∧zxt.bytes=16∧zg0.sz=2∧zg0.bytes=16∧zxe.sz=5∧zxe.bytes=48∧zi4.sz=5∧zi4.bytes=48∧zxs.sz=5∧zxs.bytes=56∧zyj.sz=5∧zyj.bytes=56∧zyg.sz=14∧zyg.bytes=152∧zyk.sz=14∧zyk.bytes=152∧zhk.sz=1∧zhk.bytes=8∧zx2.sz=5∧zx2.bytes=40∧zin.sz=5∧zin.bytes=40∧x3.sz=1∧x3.bytes=8∧znx.sz=4∧znx.bytes=48∧zck.sz=4∧zck.bytes=48∧zcj.sz=1∧zcj.bytes=8∧x4.sz=1∧x4.bytes=4∧zgc.sz=1∧zgc.bytes=24∧zn8.sz=3∧zn8.bytes=40∧zc3.sz=3∧zc3.bytes=40∧zn0.sz=2∧zn0.bytes=48∧ze7.sz=2∧ze7.bytes=48∧zeq.sz=1∧zeq.bytes=8∧zoi.sz=3∧zoi.bytes=40∧zfn.sz=3∧zfn.bytes=40∧zet.sz=1∧zet.bytes=8∧zcb.sz=4∧zcb.bytes=4∧zga.sz=16∧zga.bytes=64∧ze5.sz=5∧ze5.bytes=40∧zc9.sz=16∧zc9.bytes=16∧zd4.sz=1∧zd4.bytes=8∧zoj.sz=2∧zoj.bytes=16∧zbo.sz=2∧zbo.bytes=16∧znp.sz=3∧znp.bytes=24∧zez.sz=3∧zez.bytes=24∧zgj.sz=64∧zgj.bytes=64∧zfx.sz=16∧zfx.bytes=64∧zfb.sz=1∧zfb.bytes=8∧zfo.sz=1∧zfo.bytes=8∧zge.sz=32∧zge.bytes=256∧zgh.sz=16∧zgh.bytes=128∧znn.sz=50∧znn.bytes=400∧zfk.sz=50∧zfk.bytes=400∧zex.sz=1∧zex.bytes=8∧zoe.sz=2∧zoe.bytes=16∧zf8.sz=2∧zf8.bytes=16∧zdn.sz=256∧zdn.bytes=256∧zd3.sz=1∧zd3.bytes=24∧znt.sz=257∧znt.bytes=280∧zdz.sz=257∧zdz.bytes=280∧zgi.sz=5∧zgi.bytes=40∧zno.sz=10∧zno.bytes=80∧zf5.sz=10∧zf5.bytes=80∧zf4.sz=1∧zf4.bytes=8∧zgg.sz=3∧zgg.bytes=24∧zfm.sz=1∧zfm.bytes=8∧zfi.sz=8∧zfi.bytes=32∧zfe.sz=8∧zfe.bytes=64∧zfp.sz=80∧zfp.bytes=640∧zom.sz=91∧zom.bytes=744∧ze1.sz=91∧ze1.bytes=744∧zf0.sz=64∧zf0.bytes=256∧zoa.sz=1∧zoa.bytes=8))∧(∀{α:Type} {x y:List α},(x++y).length=x.length+y.length)∧(∀{α:Type} {i:Nat} {l:List α},(List.take i l).length=min i l.length)∧(∀{α:Type} {i:Nat} {l:List α},(List.drop i l).length=l.length-i)∧(∀{α:Type},([]:List α).length=0)∧(∀{α:Type} {a:α} {l:List α},(a ::l).length=l.length+1)∧(∀{α:Type} {n:Nat} {a:α},(List.replicate n a).length=n)∧(∀{α:Type} {l:List α} {i:Nat} {a:α},(l.set i a).length=l.length):=⟨sz,yc3⟩
theorem pk {a:Array Oper} {b:Ctx} {c:List PStep} (h:zjp a b c=true):zjp a b c=true:=h
theorem zo {p k:Prop} (h:k) (hp:p:=by first|assumption|omega|exact pk (by kernel_rfl)|(unfold yn;omega)|exact UInt8.toNat_lt _|decide+kernel|(constructor<;>first|assumption|omega)|(simp only [sz,off,zil]<;>omega)|(simp only [szl,off,zil]<;>omega)|(constructor<;>first|assumption|(simp only [szl,off,zil]<;>omega))):Pre p k:=zr hp h
theorem zf {t:Bool} {a b:Prop} (h:a) (e:t=true:=by first|rfl|assumption|(rw [decide_eq_true_eq];omega)|(simp<;>omega)):zv t a b:=zi e h
theorem zg {t:Bool} {a b:Prop} (h:b) (e:t=false:=by first|rfl|assumption|(rw [decide_eq_false_iff_not];omega)|(simp<;>omega)):zv t a b:=zj e h
structure Hid (Q:Prop):Prop where
  out:Q
theorem za {P Q:Prop} (h:Q) (w:Hid Q→P:=by
    intro h
    repeat ((conv=>whnf);first|refine zo ?_|refine zb ?_|refine zf ?_|refine zg ?_)
    conv=>whnf
    exact h.out):P:=w ⟨h⟩
theorem zu {p:Prop} (h:p:=by
    repeat ((conv=>whnf);refine zb ?_)
    exact trivial):p:=h
theorem zx {v u:SV} {p:Prop} (e:v=u) (h:p:=by
    repeat ((conv=>whnf);refine zb ?_)
    exact trivial):znh v u p:=by subst e;exact zb h
theorem zh {n0:Nat} {r r':SV} {hp hp':List Blk} {K:SV→List Blk→Prop} (gl:List Nat) (hk:K r' hp') (h:zde n0 gl [(0,r)] hp [(0,r')] hp' True:=by
    repeat ((conv=>whnf);refine zb ?_)
    exact trivial):zbi n0 r hp K:=yv gl hk h
end Go.Sym.Z

namespace Go.Sym.Aes
open Go.Sym.Lp
def tw (x:UInt8):UInt8:=(x<<<(1:UInt8))^^^((27:UInt8)&&&((0:UInt8)-(x>>>(7:UInt8))))
def rl8 (x:UInt8) (n:Nat):UInt8:=x<<<UInt8.ofNat n|||x>>>UInt8.ofNat (8-n)
def q1 (q:UInt8):UInt8:=q^^^q<<<1
def q2 (q:UInt8):UInt8:=q1 q^^^q1 q<<<2
def q3 (q:UInt8):UInt8:=q2 q^^^q2 q<<<4
def q4 (q:UInt8):UInt8:=q3 q^^^((9:UInt8)&&&((0:UInt8)-(q3 q>>>(7:UInt8))))
def pq:Nat→UInt8×UInt8
  |0=>(1,1)
  |i+1=>((pq i).1^^^tw (pq i).1,q4 (pq i).2)
def sb (q:UInt8):UInt8:=99^^^q^^^rl8 q 1^^^rl8 q 2^^^rl8 q 3^^^rl8 q 4
def zn9:Nat→List UInt8
  |0=>99 ::List.replicate 255 0
  |i+1=>(zn9 i).set (pq (i+1)).1.toNat (sb (pq (i+1)).2)
set_option maxRecDepth 100000
theorem zn6: ∀i,(zn9 i).length=256
  |0=>rfl
  |i+1=>by simp only [zn9,List.length_set];exact zn6 i
def box:List UInt8:= [99,124,119,123,242,107,111,197,48,1,103,43,254,215,171,118,202,130,201,125,250,89,71,240,173,212,162,175,156,164,114,192,183,253,147,38,54,63,247,204,52,165,229,241,113,216,49,21,4,199,35,195,24,150,5,154,7,18,128,226,235,39,178,117,9,131,44,26,27,110,90,160,82,59,214,179,41,227,47,132,83,209,0,237,32,252,177,91,106,203,190,57,74,76,88,207,208,239,170,251,67,77,51,133,69,249,2,127,80,60,159,168,81,163,64,143,146,157,56,245,188,182,218,33,16,255,243,210,205,12,19,236,95,151,68,23,196,167,126,61,100,93,25,115,96,129,79,220,34,42,144,136,70,238,184,20,222,94,11,219,224,50,58,10,73,6,36,92,194,211,172,98,145,149,228,121,231,200,55,109,141,213,78,169,108,86,244,234,101,122,174,8,186,120,37,46,28,166,180,198,232,221,116,31,75,189,139,138,112,62,181,102,72,3,246,14,97,53,87,185,134,193,29,158,225,248,152,17,105,217,142,148,155,30,135,233,206,85,40,223,140,161,137,13,191,230,66,104,65,153,45,15,176,84,187,22]
theorem z7h: ∀i,i<255→((pq (i+1)).1=1↔i+1=255):=by decide+kernel
theorem z4t:zn9 255=box:=by decide+kernel
end Go.Sym.Aes
namespace Go.Sym.Aes
open Go.Sym.Lp
def rc:Nat→UInt8
  |0=>1
  |k+1=>tw (rc k)
def zcg (n i:Nat) (t:List UInt8):List UInt8:=
  if i%n=0 then [box.getD (t.getD 1 0).toNat 0^^^rc ((i-1)/ n),box.getD (t.getD 2 0).toNat 0,box.getD (t.getD 3 0).toNat 0,box.getD (t.getD 0 0).toNat 0]
  else if n=8∧i%n=4 then (List.range 4).map fun k=>box.getD (t.getD k 0).toNat 0 else t
def zeu (key:List UInt8) (n i:Nat) (W:List UInt8):List UInt8:=
  if i<n then (key.drop (4*i)).take 4
  else (List.range 4).map fun k=>W.getD (4*(i-n)+k) 0^^^(zcg n i ((W.drop (4*(i-1))).take 4)).getD k 0
def ks (key:List UInt8) (n:Nat):Nat→List UInt8
  |0=> []
  |i+1=>ks key n i++zeu key n i (ks key n i)
theorem znr {key:List UInt8} {n i:Nat} (hk:key.length=4*n) (W:List UInt8):(zeu key n i W).length=4:=by
  unfold zeu
  split
  ·rw [List.length_take,List.length_drop];omega
  ·simp
theorem zcv {key:List UInt8} {n:Nat} (hk:key.length=4*n): ∀i,(ks key n i).length=4*i
  |0=>rfl
  |i+1=>by simp only [ks,List.length_append,zcv hk i,znr hk];omega
end Go.Sym.Aes
namespace Go.Sym.Aes
open Go.Sym.Lp
def kw (key:List UInt8) (n N i:Nat):List UInt8:=ks key n i++List.replicate (N-4*i) 0
section
variable {key:List UInt8} {n N i:Nat} (hk:key.length=4*n)
include hk
theorem zzc (h:4*i≤N):(kw key n N i).length=N:=by
  unfold kw;rw [List.length_append,zcv hk,List.length_replicate];omega
theorem zl0 {j:Nat} (hj:j<4*i):(kw key n N i).getD j 0=(ks key n i).getD j 0:=by
  unfold kw
  rw [List.getD_eq_getElem?_getD,List.getElem?_append_left (by rw [zcv hk];exact hj),List.getD_eq_getElem?_getD]
theorem z2s {j:Nat} (hj:j+4≤4*i):((kw key n N i).drop j).take 4=((ks key n i).drop j).take 4:=by
  unfold kw
  rw [List.drop_append_of_le_length (by rw [zcv hk];omega),List.take_append_of_le_length (by rw [List.length_drop,zcv hk];omega)]
theorem zwu (h:4*i+4≤N) {v:List UInt8} (hv:v=zeu key n i (ks key n i)):(kw key n N i).take (4*i)++v++(kw key n N i).drop (4*i+4)=kw key n N (i+1):=by
  have hl:=zcv hk i
  unfold kw
  subst hv
  rw [List.take_left' hl,List.drop_append,List.drop_eq_nil_of_le (by omega),List.nil_append,hl,List.drop_replicate,show N-4*i-(4*i+4-4*i)=N-4*(i+1) by omega]
  simp only [ks]
end
theorem z3r {key:List UInt8} {n N i:Nat} (h:N=4*i):kw key n N i=ks key n i:=by unfold kw;rw [h,Nat.sub_self];simp
theorem zv5 {n i:Nat} (hn:0<n) (hi:n≤i) (h:i%n=0):tw (rc ((i-1)/ n))=rc (i/ n):=by
  obtain ⟨c,rfl⟩:=Nat.dvd_of_mod_eq_zero h
  have hc:0<c:=by
    rcases Nat.eq_zero_or_pos c with rfl|h
    ·omega
    ·exact h
  obtain ⟨d,rfl⟩: ∃d,c=d+1:=⟨c-1,by omega⟩
  have e1:(n*(d+1)-1)/ n=d:=by
    rw [Nat.mul_succ,show n*d+n-1=n*d+(n-1) by omega,Nat.mul_add_div hn,Nat.div_eq_of_lt (show n-1<n by omega),Nat.add_zero]
  rw [e1,Nat.mul_div_cancel_left _ hn]
  rfl
theorem zpi {n i:Nat} (hn:0<n) (h: ¬i%n=0):(i-1)/ n=i/ n:=by
  have h1:=Nat.div_add_mod i n
  have h2:=Nat.mod_lt i hn
  have e:i-1=n*(i/ n)+(i%n-1):=by omega
  rw [e,Nat.mul_add_div hn,Nat.div_eq_of_lt (show i%n-1<n by omega),Nat.add_zero]
theorem zrv {n i:Nat} (h:i<n):(i-1)/ n=i/ n:=by rw [Nat.div_eq_of_lt h,Nat.div_eq_of_lt (by omega)]
end Go.Sym.Aes
namespace Go.Sym.Aes
open Go.Sym.Lp
def kc (W:List UInt8) (i:Nat):List UInt8:=W.take (4*i)++List.replicate (W.length-4*i) 0
theorem z3l {W:List UInt8} {i:Nat} (h:4*i≤W.length):(kc W i).length=W.length:=by unfold kc;simp;omega
theorem zwc (W:List UInt8):kc W 0=List.replicate W.length 0:=by unfold kc;simp
theorem z2a {W:List UInt8} {i:Nat} (h:W.length=4*i):kc W i=W:=by unfold kc;rw [h,Nat.sub_self,List.take_of_length_le (by omega)];simp
theorem z5r {W:List UInt8} {i:Nat} (h:4*i+4≤W.length):(kc W i).take (4*i)++(W.drop (4*i)).take 4++(kc W i).drop (4*i+4)=kc W (i+1):=by
  unfold kc
  have hl:(W.take (4*i)).length=4*i:=by rw [List.length_take];omega
  have hd:List.drop (4*i+4) (W.take (4*i))= []:=List.drop_eq_nil_of_le (by omega)
  rw [List.take_left' hl,List.drop_append,hd,List.nil_append,hl,List.drop_replicate,show W.length-4*i-(4*i+4-4*i)=W.length-4*(i+1) by omega]
  congr 1
  rw [Nat.mul_succ,List.take_add]
theorem zfu {n i:Nat} {t:List UInt8} (h:t.length=4):(zcg n i t).length=4:=by
  unfold zcg;split
  ·rfl
  ·split
   ·simp
   ·exact h
end Go.Sym.Aes
namespace Go.Sym.Aes
theorem zwr:box.length=256:=by decide+kernel
theorem zcd (x:UInt8):x.toNat<box.length:=by rw [zwr];exact x.toNat_lt
end Go.Sym.Aes
namespace Go.Sym.Aes
open Go.Sym.Lp
def z1u (ks:List UInt8) (r:Nat) (x:List UInt8):List UInt8:=(List.range 16).map fun j=>x.getD j 0^^^ks.getD (16*r+j) 0
def zce (x:List UInt8):List UInt8:=(List.range 16).map fun i=>box.getD (x.getD ((i+4*(i%4))%16) 0).toNat 0
def zrq (t:List UInt8) (i:Nat):UInt8:=
  t.getD i 0^^^(t.getD (i/ 4*4) 0^^^t.getD (i/ 4*4+1) 0^^^t.getD (i/ 4*4+2) 0^^^t.getD (i/ 4*4+3) 0^^^tw (t.getD i 0^^^t.getD (i/ 4*4+(i+1)%4) 0))
def zm0 (t:List UInt8):List UInt8:=(List.range 16).map (zrq t)
def rnd (ks:List UInt8) (R r:Nat) (x:List UInt8):List UInt8:=z1u ks r (if r<R-1 then zm0 (zce x) else zce x)
def zg2 (ks:List UInt8) (R:Nat) (x:List UInt8):Nat→List UInt8
  |0=>z1u ks 0 x
  |r+1=>rnd ks R (r+1) (zg2 ks R x r)
def enc (ks:List UInt8) (R:Nat) (x:List UInt8):List UInt8:=zg2 ks R x (R-1)
theorem zrh (ks:List UInt8) (r:Nat) (x:List UInt8):(z1u ks r x).length=16:=z7 _ _
theorem zsj (x:List UInt8):(zce x).length=16:=z7 _ _
theorem z3o (x:List UInt8):(zm0 x).length=16:=z7 _ _
theorem zok (ks:List UInt8) (R:Nat) (x:List UInt8): ∀r,(zg2 ks R x r).length=16
  |0=>zrh _ _ _
  |_+1=>zrh _ _ _
theorem zko (ks:List UInt8) (R:Nat) (x:List UInt8):(enc ks R x).length=16:=zok _ _ _ _
theorem z1j {T:List UInt8} {g:Nat→UInt8} {a:Nat} (h:a+4≤T.length) {u0 u1 u2 u3:UInt8}
    (h0:T.getD a 0^^^u0=g a) (h1:T.getD (a+1) 0^^^u1=g (a+1)) (h2:T.getD (a+2) 0^^^u2=g (a+2)) (h3:T.getD (a+3) 0^^^u3=g (a+3)) {X0 X1 X2 X3:List UInt8}
    (e0:X0=(ovr T 0 g a).set a ((ovr T 0 g a).getD a 0^^^u0)) (e1:X1=X0.set (a+1) (X0.getD (a+1) 0^^^u1)) (e2:X2=X1.set (a+2) (X1.getD (a+2) 0^^^u2)) (e3:X3=X2.set (a+3) (X2.getD (a+3) 0^^^u3)):
    X3=ovr T 0 g (a+4):=by
  have k0:X0=ovr T 0 g (a+1):=by
    rw [e0,yz (by omega) _ (by omega)]
    exact ye (by omega) h0 (by omega)
  have k1:X1=ovr T 0 g (a+2):=by
    rw [e1,k0,yz (by omega) _ (by omega)]
    exact ye (by omega) h1 (by omega)
  have k2:X2=ovr T 0 g (a+3):=by
    rw [e2,k1,yz (by omega) _ (by omega)]
    exact ye (by omega) h2 (by omega)
  rw [e3,k2,yz (by omega) _ (by omega)]
  exact ye (by omega) h3 (by omega)
end Go.Sym.Aes
namespace Go.Sym.Aes
open Go.Sym.Lp
theorem zkz (T:List UInt8) (c j:Nat) (h:j<4):zrq T (4*c+j)=T.getD (4*c+j) 0^^^(T.getD (4*c) 0^^^T.getD (4*c+1) 0^^^T.getD (4*c+2) 0^^^T.getD (4*c+3) 0^^^tw (T.getD (4*c+j) 0^^^T.getD (4*c+(j+1)%4) 0)):=by
  unfold zrq
  have e1:(4*c+j)/ 4*4=4*c:=by omega
  have e2:(4*c+j+1)%4=(j+1)%4:=by omega
  rw [e1,e2]
theorem z25 {T:List UInt8} {c:Nat} (h:4*c+4≤T.length) {Y:List UInt8} (hY:Y=ovr T 0 (zrq T) (4*c)) {al:UInt8} (ha:al=Y.getD (4*c) 0^^^Y.getD (4*c+1) 0^^^Y.getD (4*c+2) 0^^^Y.getD (4*c+3) 0)
    {X0 X1 X2 X3:List UInt8} (e0:X0=Y.set (4*c) (Y.getD (4*c) 0^^^(al^^^tw (Y.getD (4*c) 0^^^Y.getD (4*c+1) 0))))
    (e1:X1=X0.set (4*c+1) (X0.getD (4*c+1) 0^^^(al^^^tw (Y.getD (4*c+1) 0^^^Y.getD (4*c+2) 0))))
    (e2:X2=X1.set (4*c+2) (X1.getD (4*c+2) 0^^^(al^^^tw (Y.getD (4*c+2) 0^^^Y.getD (4*c+3) 0))))
    (e3:X3=X2.set (4*c+3) (X2.getD (4*c+3) 0^^^(al^^^tw (Y.getD (4*c+3) 0^^^Y.getD (4*c) 0)))):X3=ovr T 0 (zrq T) (4*(c+1)):=by
  have hg: ∀j,4*c≤j→Y.getD j 0=T.getD j 0:=fun j hj=>by rw [hY];exact yz (by omega) _ (by omega) _
  rw [hg _ (by omega),hg _ (by omega),hg _ (by omega),hg _ (by omega)] at ha
  have m0:=zkz T c 0 (by omega)
  have m1:=zkz T c 1 (by omega)
  have m2:=zkz T c 2 (by omega)
  have m3:=zkz T c 3 (by omega)
  rw [←ha] at m0 m1 m2 m3
  rw [Nat.add_zero] at m0
  refine z1j (by omega) m0.symm m1.symm m2.symm m3.symm (X0:=X0) (X1:=X1) (X2:=X2) ?_ ?_ ?_ ?_
  ·rw [e0,←hY,hg (4*c) (by omega),hg (4*c+1) (by omega)]
  ·rw [e1,hg (4*c+1) (by omega),hg (4*c+2) (by omega)]
  ·rw [e2,hg (4*c+2) (by omega),hg (4*c+3) (by omega)]
  ·rw [e3,hg (4*c+3) (by omega),hg (4*c) (by omega)];rfl
end Go.Sym.Aes
namespace Go.Sym.Aes
open Go.Sym.Lp
end Go.Sym.Aes
namespace Go.Sym.Aes
open Go.Sym.Lp
end Go.Sym.Aes
namespace Go.Sym.Aes
end Go.Sym.Aes
namespace Go.Sym.Aes
end Go.Sym.Aes

namespace Go.Sym.Z
open Go Go.Proofs.Tryz Go.Sym.Lp Go.Sym.Aes
set_option maxRecDepth 100000
def z9a:List (Nat×List PStep):= []
def ya7:List (Nat×List PStep):= []
def yam:List (Nat×List PStep):= []
def z81:List (Nat×TyI):= [(3,ty3),(4,ty4),(5,ty5),(9,ty9),(48,zcp),(51,zco),(168,zc9),(178,zd4),(148,zcb),(116,zgc),(214,zd3),(212,zdn),(216,zdz)]
theorem zf6: ∀t i,y3 z81 t=some i→yp prog t i:=(zc ty3_ok (zc zbm (zc zbe (zc ty9_ok (zc zak (zc zam (zc zh9 (zc zll (zc zzv (zc z3e (zc zmi (zc zmp (zc zk7 x1)))))))))))))
def z0a:Spec:=fun args hp K=>match args,hp with
  | [.u8 x,.int k],[]=>Pre (k=1∨k=2∨k=3∨k=4) (K (.u8 (rl8 x k.toNat)) [])
  |_,_=>False
def zuy:Spec:=fun args hp K=>match args,hp with
  | [.u8 x],[]=>K (.u8 (tw x)) []
  |_,_=>False
def zs0:Spec:=fun args hp K=>match args,hp with
  | [],[]=>K (.arr8 256 box) []
  |_,_=>False
theorem z7t:zp prog 175 z0a:=by
  refine zn zf6 zl rfl func175 rfl call175 (D:=z9a) ?_ ?_
  ·intro args hp K h
   unfold z0a at h
   split at h
   ·exact Nat.le_of_ble_eq_true rfl
   ·exact h.elim
  ·intro args hp K h
   unfold z0a at h
   split at h
   ·rename_i x k
    obtain ⟨hk,h⟩:=zm h
    rcases hk with rfl|rfl|rfl|rfl
    all_goals
      refine za ?_
      exact zh [] h
   ·exact h.elim
theorem zpe:zp prog 159 zuy:=by
  refine zn zf6 zl rfl func159 rfl call159 (D:=ya7) ?_ ?_
  ·intro args hp K h
   unfold zuy at h
   split at h
   ·exact Nat.le_of_ble_eq_true rfl
   ·exact h.elim
  ·intro args hp K h
   unfold zuy at h
   split at h
   ·refine za ?_
    exact zh [] h
   ·exact h.elim
theorem z3v:zp prog 158 zs0:=by
  refine zn zf6 (zd zpe (zd z7t zl)) rfl func158 rfl call158 (D:=yam) ?_ ?_
  ·intro args hp K h
   unfold zs0 at h
   split at h
   ·exact Nat.le_of_ble_eq_true rfl
   ·exact h.elim
  ·intro args hp K h
   unfold zs0 at h
   split at h
   ·refine za ?_
    refine zz (Ix (254)) (fun q=>⟨[(0,.ptr 0 0 0 []),(1,.ptr 1 0 0 []),(2,.u8 (pq q.i).1),(3,.u8 (pq q.i).2)],[.mk 212 [.arr8 256 (List.replicate 256 0)],.mk 212 [.arr8 256 (zn9 q.i)]]⟩) (fun q=>(254)-q.i) ⟨0,Nat.zero_le _⟩ [0,1] ?_ ?_
    ·exact zu
    ·intro q
     have hi:=q.hi
     have hl:=zn6 q.i
     have he:=z7h q.i (by omega)
     have hu:((pq q.i).1^^^tw (pq q.i).1).toNat<256:=((pq q.i).1^^^tw (pq q.i).1).toNat_lt
     by_cases h4:q.i+1≤254
     ·have hd:decide ((pq (q.i+1)).1=UInt8.ofNat 1)=false:=decide_eq_false (fun e=>by have:=he.1 e;omega)
      repeat ((conv=>whnf);first|refine zo ?_|refine zf ?_|refine zg ?_|refine zb ?_|refine zr (by first|exact hd|(rw [hd];rfl)) ?_|refine zi (by first|exact hd|(rw [hd];rfl)) ?_|refine zj (by first|exact hd|(rw [hd];rfl)) ?_)
      conv=>whnf
      refine ⟨⟨q.i+1,h4⟩,[0,1],by show (254)-(q.i+1)<(254)-q.i;omega,?_⟩
      exact zu
     ·have e4:q.i=254:=by omega
      have hd:decide ((pq (q.i+1)).1=UInt8.ofNat 1)=true:=decide_eq_true (he.2 (by omega))
      repeat ((conv=>whnf);first|refine zo ?_|refine zf ?_|refine zg ?_|refine zb ?_|refine zr (by first|exact hd|(rw [hd];rfl)) ?_|refine zi (by first|exact hd|(rw [hd];rfl)) ?_|refine zj (by first|exact hd|(rw [hd];rfl)) ?_)
      have e5:zn9 (q.i+1)=box:=by rw [e4];exact z4t
      conv=>whnf
      refine yv (hp':= []) [] h ?_
      repeat ((conv=>whnf);refine zb ?_)
      conv=>whnf
      exact zx (congrArg (SV.arr8 256) e5)
   ·exact h.elim
end Go.Sym.Z
