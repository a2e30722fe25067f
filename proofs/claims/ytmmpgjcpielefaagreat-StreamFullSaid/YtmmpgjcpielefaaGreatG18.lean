/-
  Contracts of functions of the program, each said of symbolic values, and plain laws; no condition beyond each statement's own.
-/
import Derived.Test.YtmmpgjcpielefaaGreatG17
import Derived.Test.YtmmpgjcpielefaaGreatRows
set_option linter.unusedSimpArgs false
set_option linter.unusedVariables false
namespace Go.Sym.Z
open Go.Proofs.Tryz
set_option maxRecDepth 100000
def ty2:TyI:=⟨(.int .i64),1,8,(.int 0),false⟩
def ty3:TyI:=⟨(.int .i64),1,8,(.int 0),false⟩
theorem ty3_ok:yn prog 3 ty3:=⟨⟨_,z7 Go.Proofs.Tryz.typeInfo3,rfl,rfl,fun _=>rfl⟩,⟨by simp [ty3,SV.ok,okL],by simp [ty3,Ty.agg],by simp [ty3,SV.size,z6]⟩,Go.Proofs.Tryz.underlying3,fun h=>by cases h⟩
def ty4:TyI:=⟨.bool,1,1,(.bool false),false⟩
theorem zbu:yn prog 4 ty4:=⟨⟨_,z7 Go.Proofs.Tryz.typeInfo4,rfl,rfl,fun _=>rfl⟩,⟨by simp [ty4,SV.ok,okL],by simp [ty4,Ty.agg],by simp [ty4,SV.size,z6]⟩,Go.Proofs.Tryz.underlying4,fun h=>by cases h⟩
def ty5:TyI:=⟨(.int .u8),1,1,(.u8 0),false⟩
theorem zby:yn prog 5 ty5:=⟨⟨_,z7 Go.Proofs.Tryz.typeInfo5,rfl,rfl,fun _=>rfl⟩,⟨by simp [ty5,SV.ok,okL],by simp [ty5,Ty.agg],by simp [ty5,SV.size,z6]⟩,Go.Proofs.Tryz.underlying5,fun h=>by cases h⟩
def ty9:TyI:=⟨.str,1,16,(.str []),false⟩
theorem zbz:yn prog 9 ty9:=⟨⟨_,z7 Go.Proofs.Tryz.typeInfo9,rfl,rfl,fun _=>rfl⟩,⟨by simp [ty9,SV.ok,okL],by simp [ty9,Ty.agg],by simp [ty9,SV.size,z6]⟩,Go.Proofs.Tryz.underlying9,fun h=>by cases h⟩
def zxw:TyI:=⟨(.sl 33),1,24,(.nilsl),false⟩
def zma:TyI:=⟨.ptr,1,8,(.nilptr),false⟩
theorem z4p:yn prog 23 zma:=⟨⟨_,z7 Go.Proofs.Tryz.typeInfo23,rfl,rfl,fun _=>rfl⟩,⟨by simp [zma,SV.ok,okL],by simp [zma,Ty.agg],by simp [zma,SV.size,z6]⟩,⟨_,Go.Proofs.Tryz.underlying23⟩,fun h=>by cases h⟩
def zw2:TyI:=⟨(.int .i64),1,8,(.int 0),false⟩
def zwj:TyI:=⟨.ptr,1,8,(.nilptr),false⟩
def zwq:TyI:=⟨(.struct [(0,3),(1,9),(2,3),(3,9),(4,3),(5,4)]),6,64,(.agg [.int 0,.str [],.int 0,.str [],.int 0,.bool false]),true⟩
def zwx:TyI:=⟨(.struct [(0,3),(1,9),(2,3),(3,9),(4,3),(5,4)]),6,64,(.agg [.int 0,.str [],.int 0,.str [],.int 0,.bool false]),true⟩
def zxv:TyI:=⟨(.struct [(0,3),(1,9)]),2,24,(.agg [.int 0,.str []]),true⟩
def zhk:TyI:=⟨(.struct [(0,3),(1,9)]),2,24,(.agg [.int 0,.str []]),true⟩
theorem zip:yn prog 43 zhk:=⟨⟨_,z7 Go.Proofs.Tryz.typeInfo43,rfl,rfl,fun _=>rfl⟩,⟨by simp [zhk,SV.ok,okL],by simp [zhk,Ty.agg],by simp [zhk,SV.size,z6]⟩,⟨_,Go.Proofs.Tryz.underlying43,rfl,by decide⟩,fun _=>⟨by decide+kernel,Go.Proofs.Tryz.eqGuardType43⟩⟩
def zc6:TyI:=⟨(.int .u64),1,8,(.u64 0),false⟩
theorem zaw:yn prog 48 zc6:=⟨⟨_,z7 Go.Proofs.Tryz.typeInfo48,rfl,rfl,fun _=>rfl⟩,⟨by simp [zc6,SV.ok,okL],by simp [zc6,Ty.agg],by simp [zc6,SV.size,z6]⟩,Go.Proofs.Tryz.underlying48,fun h=>by cases h⟩
def zcx:TyI:=⟨(.sl 5),1,24,(.nilsl),false⟩
theorem za2:yn prog 51 zcx:=⟨⟨_,z7 Go.Proofs.Tryz.typeInfo51,rfl,rfl,fun _=>rfl⟩,⟨by simp [zcx,SV.ok,okL],by simp [zcx,Ty.agg],by simp [zcx,SV.size,z6]⟩,Go.Proofs.Tryz.underlying51,fun h=>by cases h⟩
def zis:TyI:=⟨.ptr,1,8,(.nilptr),false⟩
theorem zko:yn prog 56 zis:=⟨⟨_,z7 Go.Proofs.Tryz.typeInfo56,rfl,rfl,fun _=>rfl⟩,⟨by simp [zis,SV.ok,okL],by simp [zis,Ty.agg],by simp [zis,SV.size,z6]⟩,⟨_,Go.Proofs.Tryz.underlying56⟩,fun h=>by cases h⟩
def zmf:TyI:=⟨(.sl 3),1,24,(.nilsl),false⟩
theorem z4i:yn prog 59 zmf:=⟨⟨_,z7 Go.Proofs.Tryz.typeInfo59,rfl,rfl,fun _=>rfl⟩,⟨by simp [zmf,SV.ok,okL],by simp [zmf,Ty.agg],by simp [zmf,SV.size,z6]⟩,Go.Proofs.Tryz.underlying59,fun h=>by cases h⟩
def zxi:TyI:=⟨(.sl 63),1,24,(.nilsl),false⟩
def zwm:TyI:=⟨(.struct [(0,3),(1,9),(2,3),(3,9),(4,3),(5,4)]),6,64,(.agg [.int 0,.str [],.int 0,.str [],.int 0,.bool false]),true⟩
def zwg:TyI:=⟨(.sl 9),1,24,(.nilsl),false⟩
def zg4:TyI:=⟨.ptr,1,8,(.nilptr),false⟩
theorem ziz:yn prog 68 zg4:=⟨⟨_,z7 Go.Proofs.Tryz.typeInfo68,rfl,rfl,fun _=>rfl⟩,⟨by simp [zg4,SV.ok,okL],by simp [zg4,Ty.agg],by simp [zg4,SV.size,z6]⟩,⟨_,Go.Proofs.Tryz.underlying68⟩,fun h=>by cases h⟩
def zx1:TyI:=⟨(.struct [(0,3),(1,68)]),2,16,(.agg [.int 0,.nilptr]),true⟩
def zhj:TyI:=⟨(.struct [(0,3),(1,68)]),2,16,(.agg [.int 0,.nilptr]),true⟩
theorem zh7:yn prog 70 zhj:=⟨⟨_,z7 Go.Proofs.Tryz.typeInfo70,rfl,rfl,fun _=>rfl⟩,⟨by simp [zhj,SV.ok,okL],by simp [zhj,Ty.agg],by simp [zhj,SV.size,z6]⟩,⟨_,Go.Proofs.Tryz.underlying70,rfl,by decide⟩,fun _=>⟨by decide+kernel,Go.Proofs.Tryz.eqGuardType70⟩⟩
def zxm:TyI:=⟨(.struct [(0,70),(2,68),(3,9),(4,3)]),5,48,(.agg [.int 0,.nilptr,.nilptr,.str [],.int 0]),true⟩
def zmc:TyI:=⟨(.struct [(0,70),(2,68),(3,9),(4,3)]),5,48,(.agg [.int 0,.nilptr,.nilptr,.str [],.int 0]),true⟩
theorem z4y:yn prog 74 zmc:=⟨⟨_,z7 Go.Proofs.Tryz.typeInfo74,rfl,rfl,fun _=>rfl⟩,⟨by simp [zmc,SV.ok,okL],by simp [zmc,Ty.agg],by simp [zmc,SV.size,z6]⟩,⟨_,Go.Proofs.Tryz.underlying74,rfl,by decide⟩,fun _=>⟨by decide+kernel,Go.Proofs.Tryz.eqGuardType74⟩⟩
def zxy:TyI:=⟨(.struct [(0,3),(1,9),(2,9),(3,3),(4,4)]),5,56,(.agg [.int 0,.str [],.str [],.int 0,.bool false]),true⟩
def zxp:TyI:=⟨(.struct [(0,3),(1,9),(2,9),(3,3),(4,4)]),5,56,(.agg [.int 0,.str [],.str [],.int 0,.bool false]),true⟩
def zxz:TyI:=⟨(.struct [(0,3),(1,3),(2,76),(7,76),(12,9),(13,3)]),14,152,(.agg [.int 0,.int 0,.int 0,.str [],.str [],.int 0,.bool false,.int 0,.str [],.str [],.int 0,.bool false,.str [],.int 0]),true⟩
def zwd:TyI:=⟨(.struct [(0,3),(1,3),(2,76),(7,76),(12,9),(13,3)]),14,152,(.agg [.int 0,.int 0,.int 0,.str [],.str [],.int 0,.bool false,.int 0,.str [],.str [],.int 0,.bool false,.str [],.int 0]),true⟩
def zg2:TyI:=⟨.ptr,1,8,(.nilptr),false⟩
theorem zif:yn prog 93 zg2:=⟨⟨_,z7 Go.Proofs.Tryz.typeInfo93,rfl,rfl,fun _=>rfl⟩,⟨by simp [zg2,SV.ok,okL],by simp [zg2,Ty.agg],by simp [zg2,SV.size,z6]⟩,⟨_,Go.Proofs.Tryz.underlying93⟩,fun h=>by cases h⟩
def zw4:TyI:=⟨(.struct [(0,70),(2,68),(3,93),(4,3)]),5,40,(.agg [.int 0,.nilptr,.nilptr,.nilptr,.int 0]),true⟩
def zia:TyI:=⟨(.struct [(0,70),(2,68),(3,93),(4,3)]),5,40,(.agg [.int 0,.nilptr,.nilptr,.nilptr,.int 0]),true⟩
theorem zkl:yn prog 97 zia:=⟨⟨_,z7 Go.Proofs.Tryz.typeInfo97,rfl,rfl,fun _=>rfl⟩,⟨by simp [zia,SV.ok,okL],by simp [zia,Ty.agg],by simp [zia,SV.size,z6]⟩,⟨_,Go.Proofs.Tryz.underlying97,rfl,by decide⟩,fun _=>⟨by decide+kernel,Go.Proofs.Tryz.eqGuardType97⟩⟩
def x4:TyI:=⟨(.int .u64),1,8,(.u64 0),false⟩
theorem zbp:yn prog 99 x4:=⟨⟨_,z7 Go.Proofs.Tryz.typeInfo99,rfl,rfl,fun _=>rfl⟩,⟨by simp [x4,SV.ok,okL],by simp [x4,Ty.agg],by simp [x4,SV.size,z6]⟩,Go.Proofs.Tryz.underlying99,fun h=>by cases h⟩
def znp:TyI:=⟨(.struct [(0,3),(1,9),(2,9),(3,3)]),4,48,(.agg [.int 0,.str [],.str [],.int 0]),true⟩
def zcv:TyI:=⟨(.struct [(0,3),(1,9),(2,9),(3,3)]),4,48,(.agg [.int 0,.str [],.str [],.int 0]),true⟩
theorem ze3:yn prog 103 zcv:=⟨⟨_,z7 Go.Proofs.Tryz.typeInfo103,rfl,rfl,fun _=>rfl⟩,⟨by simp [zcv,SV.ok,okL],by simp [zcv,Ty.agg],by simp [zcv,SV.size,z6]⟩,⟨_,Go.Proofs.Tryz.underlying103,rfl,by decide⟩,fun _=>⟨by decide+kernel,Go.Proofs.Tryz.eqGuardType103⟩⟩
def zcz:TyI:=⟨.ptr,1,8,(.nilptr),false⟩
theorem zf7:yn prog 104 zcz:=⟨⟨_,z7 Go.Proofs.Tryz.typeInfo104,rfl,rfl,fun _=>rfl⟩,⟨by simp [zcz,SV.ok,okL],by simp [zcz,Ty.agg],by simp [zcz,SV.size,z6]⟩,⟨_,Go.Proofs.Tryz.underlying104⟩,fun h=>by cases h⟩
def zad:TyI:=⟨(.int .u32),1,4,(.u32 0),false⟩
theorem zaq:yn prog 113 zad:=⟨⟨_,z7 Go.Proofs.Tryz.typeInfo113,rfl,rfl,fun _=>rfl⟩,⟨by simp [zad,SV.ok,okL],by simp [zad,Ty.agg],by simp [zad,SV.size,z6]⟩,Go.Proofs.Tryz.underlying113,fun h=>by cases h⟩
def zf1:TyI:=⟨(.sl 148),1,24,(.nilsl),false⟩
theorem zx9:yn prog 116 zf1:=⟨⟨_,z7 Go.Proofs.Tryz.typeInfo116,rfl,rfl,fun _=>rfl⟩,⟨by simp [zf1,SV.ok,okL],by simp [zf1,Ty.agg],by simp [zf1,SV.size,z6]⟩,Go.Proofs.Tryz.underlying116,fun h=>by cases h⟩
def zoa:TyI:=⟨(.struct [(0,51),(1,3),(2,3)]),3,40,(.agg [.nilsl,.int 0,.int 0]),false⟩
def zcy:TyI:=⟨(.struct [(0,51),(1,3),(2,3)]),3,40,(.agg [.nilsl,.int 0,.int 0]),false⟩
theorem ze7:yn prog 121 zcy:=⟨⟨_,z7 Go.Proofs.Tryz.typeInfo121,rfl,rfl,fun _=>rfl⟩,⟨by simp [zcy,SV.ok,okL],by simp [zcy,Ty.agg],by simp [zcy,SV.size,z6]⟩,⟨_,Go.Proofs.Tryz.underlying121,rfl,by decide⟩,fun h=>by cases h⟩
def zoe:TyI:=⟨(.struct [(0,51),(1,51)]),2,48,(.agg [.nilsl,.nilsl]),false⟩
def ze2:TyI:=⟨(.struct [(0,51),(1,51)]),2,48,(.agg [.nilsl,.nilsl]),false⟩
theorem z0p:yn prog 132 ze2:=⟨⟨_,z7 Go.Proofs.Tryz.typeInfo132,rfl,rfl,fun _=>rfl⟩,⟨by simp [ze2,SV.ok,okL],by simp [ze2,Ty.agg],by simp [ze2,SV.size,z6]⟩,⟨_,Go.Proofs.Tryz.underlying132,rfl,by decide⟩,fun h=>by cases h⟩
def zes:TyI:=⟨.ptr,1,8,(.nilptr),false⟩
theorem zrf:yn prog 134 zes:=⟨⟨_,z7 Go.Proofs.Tryz.typeInfo134,rfl,rfl,fun _=>rfl⟩,⟨by simp [zes,SV.ok,okL],by simp [zes,Ty.agg],by simp [zes,SV.size,z6]⟩,⟨_,Go.Proofs.Tryz.underlying134⟩,fun h=>by cases h⟩
def zoq:TyI:=⟨(.struct [(0,9),(1,9),(2,134)]),3,40,(.agg [.str [],.str [],.nilptr]),true⟩
def zfb:TyI:=⟨(.struct [(0,9),(1,9),(2,134)]),3,40,(.agg [.str [],.str [],.nilptr]),true⟩
theorem zzh:yn prog 136 zfb:=⟨⟨_,z7 Go.Proofs.Tryz.typeInfo136,rfl,rfl,fun _=>rfl⟩,⟨by simp [zfb,SV.ok,okL],by simp [zfb,Ty.agg],by simp [zfb,SV.size,z6]⟩,⟨_,Go.Proofs.Tryz.underlying136,rfl,by decide⟩,fun _=>⟨by decide+kernel,Go.Proofs.Tryz.eqGuardType136⟩⟩
def ze5:TyI:=⟨.func,1,8,(.nilfn),false⟩
theorem zy0:yn prog 143 ze5:=⟨⟨_,z7 Go.Proofs.Tryz.typeInfo143,rfl,rfl,fun _=>rfl⟩,⟨by simp [ze5,SV.ok,okL],by simp [ze5,Ty.agg],by simp [ze5,SV.size,z6]⟩,⟨_,_,_,Go.Proofs.Tryz.underlying143⟩,fun h=>by cases h⟩
def zcf:TyI:=⟨(.arr 4 5),4,4,(.arr8 4 [0,0,0,0]),true⟩
theorem z2o:yn prog 148 zcf:=⟨⟨_,z7 Go.Proofs.Tryz.typeInfo148,rfl,rfl,fun _=>rfl⟩,⟨by simp [zcf,SV.ok,okL],by simp [zcf,Ty.agg],by simp [zcf,SV.size,z6]⟩,Go.Proofs.Tryz.underlying148,fun _=>⟨by decide+kernel,Go.Proofs.Tryz.eqGuardType148⟩⟩
def zfz:TyI:=⟨(.arr 16 113),16,64,(.arr32 16 (List.replicate 16 0)),true⟩
theorem z0c:yn prog 164 zfz:=⟨⟨_,z7 Go.Proofs.Tryz.typeInfo164,rfl,rfl,fun _=>rfl⟩,⟨by simp [zfz,SV.ok,okL],by simp [zfz,Ty.agg],by simp [zfz,SV.size,z6]⟩,Go.Proofs.Tryz.underlying164,fun _=>⟨by decide+kernel,Go.Proofs.Tryz.eqGuardType164⟩⟩
def zfy:TyI:=⟨(.arr 5 99),5,40,(.arr64 5 [0,0,0,0,0]),true⟩
theorem z2s:yn prog 167 zfy:=⟨⟨_,z7 Go.Proofs.Tryz.typeInfo167,rfl,rfl,fun _=>rfl⟩,⟨by simp [zfy,SV.ok,okL],by simp [zfy,Ty.agg],by simp [zfy,SV.size,z6]⟩,Go.Proofs.Tryz.underlying167,fun _=>⟨by decide+kernel,Go.Proofs.Tryz.eqGuardType167⟩⟩
def zdc:TyI:=⟨(.arr 16 5),16,16,(.arr8 16 (List.replicate 16 0)),true⟩
theorem zho:yn prog 168 zdc:=⟨⟨_,z7 Go.Proofs.Tryz.typeInfo168,rfl,rfl,fun _=>rfl⟩,⟨by simp [zdc,SV.ok,okL],by simp [zdc,Ty.agg],by simp [zdc,SV.size,z6]⟩,Go.Proofs.Tryz.underlying168,fun _=>⟨by decide+kernel,Go.Proofs.Tryz.eqGuardType168⟩⟩
def zdz:TyI:=⟨.ptr,1,8,(.nilptr),false⟩
theorem zmj:yn prog 178 zdz:=⟨⟨_,z7 Go.Proofs.Tryz.typeInfo178,rfl,rfl,fun _=>rfl⟩,⟨by simp [zdz,SV.ok,okL],by simp [zdz,Ty.agg],by simp [zdz,SV.size,z6]⟩,⟨_,Go.Proofs.Tryz.underlying178⟩,fun h=>by cases h⟩
def zor:TyI:=⟨(.struct [(0,99),(1,99)]),2,16,(.agg [.u64 0,.u64 0]),true⟩
def zbr:TyI:=⟨(.struct [(0,99),(1,99)]),2,16,(.agg [.u64 0,.u64 0]),true⟩
theorem zq2:yn prog 183 zbr:=⟨⟨_,z7 Go.Proofs.Tryz.typeInfo183,rfl,rfl,fun _=>rfl⟩,⟨by simp [zbr,SV.ok,okL],by simp [zbr,Ty.agg],by simp [zbr,SV.size,z6]⟩,⟨_,Go.Proofs.Tryz.underlying183,rfl,by decide⟩,fun _=>⟨by decide+kernel,Go.Proofs.Tryz.eqGuardType183⟩⟩
def zni:TyI:=⟨(.struct [(0,178),(1,183)]),3,24,(.agg [.nilptr,.u64 0,.u64 0]),true⟩
def zew:TyI:=⟨(.struct [(0,178),(1,183)]),3,24,(.agg [.nilptr,.u64 0,.u64 0]),true⟩
theorem zr9:yn prog 186 zew:=⟨⟨_,z7 Go.Proofs.Tryz.typeInfo186,rfl,rfl,fun _=>rfl⟩,⟨by simp [zew,SV.ok,okL],by simp [zew,Ty.agg],by simp [zew,SV.size,z6]⟩,⟨_,Go.Proofs.Tryz.underlying186,rfl,by decide⟩,fun _=>⟨by decide+kernel,Go.Proofs.Tryz.eqGuardType186⟩⟩
def zfs:TyI:=⟨(.arr 64 5),64,64,(.arr8 64 (List.replicate 64 0)),true⟩
theorem z12:yn prog 187 zfs:=⟨⟨_,z7 Go.Proofs.Tryz.typeInfo187,rfl,rfl,fun _=>rfl⟩,⟨by simp [zfs,SV.ok,okL],by simp [zfs,Ty.agg],by simp [zfs,SV.size,z6]⟩,Go.Proofs.Tryz.underlying187,fun _=>⟨by decide+kernel,Go.Proofs.Tryz.eqGuardType187⟩⟩
def ze4:TyI:=⟨(.arr 16 113),16,64,(.arr32 16 (List.replicate 16 0)),true⟩
theorem z2n:yn prog 188 ze4:=⟨⟨_,z7 Go.Proofs.Tryz.typeInfo188,rfl,rfl,fun _=>rfl⟩,⟨by simp [ze4,SV.ok,okL],by simp [ze4,Ty.agg],by simp [ze4,SV.size,z6]⟩,Go.Proofs.Tryz.underlying188,fun _=>⟨by decide+kernel,Go.Proofs.Tryz.eqGuardType188⟩⟩
def zfu:TyI:=⟨.ptr,1,8,(.nilptr),false⟩
theorem z2e:yn prog 193 zfu:=⟨⟨_,z7 Go.Proofs.Tryz.typeInfo193,rfl,rfl,fun _=>rfl⟩,⟨by simp [zfu,SV.ok,okL],by simp [zfu,Ty.agg],by simp [zfu,SV.size,z6]⟩,⟨_,Go.Proofs.Tryz.underlying193⟩,fun h=>by cases h⟩
def zga:TyI:=⟨.ptr,1,8,(.nilptr),false⟩
theorem z2l:yn prog 195 zga:=⟨⟨_,z7 Go.Proofs.Tryz.typeInfo195,rfl,rfl,fun _=>rfl⟩,⟨by simp [zga,SV.ok,okL],by simp [zga,Ty.agg],by simp [zga,SV.size,z6]⟩,⟨_,Go.Proofs.Tryz.underlying195⟩,fun h=>by cases h⟩
def zfm:TyI:=⟨(.arr 16 183),32,256,(.arr64 32 (List.replicate 32 0)),true⟩
theorem zy8:yn prog 198 zfm:=⟨⟨_,z7 Go.Proofs.Tryz.typeInfo198,rfl,rfl,fun _=>rfl⟩,⟨by simp [zfm,SV.ok,okL],by simp [zfm,Ty.agg],by simp [zfm,SV.size,z6]⟩,Go.Proofs.Tryz.underlying198,fun _=>⟨by decide+kernel,Go.Proofs.Tryz.eqGuardType198⟩⟩
def zfv:TyI:=⟨(.arr 16 99),16,128,(.arr64 16 (List.replicate 16 0)),true⟩
theorem z2v:yn prog 199 zfv:=⟨⟨_,z7 Go.Proofs.Tryz.typeInfo199,rfl,rfl,fun _=>rfl⟩,⟨by simp [zfv,SV.ok,okL],by simp [zfv,Ty.agg],by simp [zfv,SV.size,z6]⟩,Go.Proofs.Tryz.underlying199,fun _=>⟨by decide+kernel,Go.Proofs.Tryz.eqGuardType199⟩⟩
def zoc:TyI:=⟨(.struct [(0,198),(32,199),(48,183)]),50,400,(.agg [.arr64 32 (List.replicate 32 0),.arr64 16 (List.replicate 16 0),.u64 0,.u64 0]),true⟩
def zgf:TyI:=⟨(.struct [(0,198),(32,199),(48,183)]),50,400,(.agg [.arr64 32 (List.replicate 32 0),.arr64 16 (List.replicate 16 0),.u64 0,.u64 0]),true⟩
theorem z04:yn prog 201 zgf:=⟨⟨_,z7 Go.Proofs.Tryz.typeInfo201,rfl,rfl,fun _=>rfl⟩,⟨by simp [zgf,SV.ok,okL],by simp [zgf,Ty.agg],by simp [zgf,SV.size,z6]⟩,⟨_,Go.Proofs.Tryz.underlying201,rfl,by decide⟩,fun _=>⟨by decide+kernel,Go.Proofs.Tryz.eqGuardType201⟩⟩
def zeu:TyI:=⟨.ptr,1,8,(.nilptr),false⟩
theorem zr3:yn prog 207 zeu:=⟨⟨_,z7 Go.Proofs.Tryz.typeInfo207,rfl,rfl,fun _=>rfl⟩,⟨by simp [zeu,SV.ok,okL],by simp [zeu,Ty.agg],by simp [zeu,SV.size,z6]⟩,⟨_,Go.Proofs.Tryz.underlying207⟩,fun h=>by cases h⟩
def zny:TyI:=⟨(.struct [(0,207),(1,207)]),2,16,(.agg [.nilptr,.nilptr]),true⟩
def zgc:TyI:=⟨(.struct [(0,207),(1,207)]),2,16,(.agg [.nilptr,.nilptr]),true⟩
theorem z21:yn prog 209 zgc:=⟨⟨_,z7 Go.Proofs.Tryz.typeInfo209,rfl,rfl,fun _=>rfl⟩,⟨by simp [zgc,SV.ok,okL],by simp [zgc,Ty.agg],by simp [zgc,SV.size,z6]⟩,⟨_,Go.Proofs.Tryz.underlying209,rfl,by decide⟩,fun _=>⟨by decide+kernel,Go.Proofs.Tryz.eqGuardType209⟩⟩
def zd2:TyI:=⟨(.arr 256 5),256,256,(.arr8 256 (List.replicate 256 0)),true⟩
theorem zmv:yn prog 212 zd2:=⟨⟨_,z7 Go.Proofs.Tryz.typeInfo212,rfl,rfl,fun _=>rfl⟩,⟨by simp [zd2,SV.ok,okL],by simp [zd2,Ty.agg],by simp [zd2,SV.size,z6]⟩,Go.Proofs.Tryz.underlying212,fun _=>⟨by decide+kernel,Go.Proofs.Tryz.eqGuardType212⟩⟩
def zdu:TyI:=⟨(.sl 168),1,24,(.nilsl),false⟩
theorem zk3:yn prog 214 zdu:=⟨⟨_,z7 Go.Proofs.Tryz.typeInfo214,rfl,rfl,fun _=>rfl⟩,⟨by simp [zdu,SV.ok,okL],by simp [zdu,Ty.agg],by simp [zdu,SV.size,z6]⟩,Go.Proofs.Tryz.underlying214,fun h=>by cases h⟩
def zob:TyI:=⟨(.struct [(0,212),(256,214)]),257,280,(.agg [.arr8 256 (List.replicate 256 0),.nilsl]),false⟩
def zd4:TyI:=⟨(.struct [(0,212),(256,214)]),257,280,(.agg [.arr8 256 (List.replicate 256 0),.nilsl]),false⟩
theorem zk9:yn prog 216 zd4:=⟨⟨_,z7 Go.Proofs.Tryz.typeInfo216,rfl,rfl,fun _=>rfl⟩,⟨by simp [zd4,SV.ok,okL],by simp [zd4,Ty.agg],by simp [zd4,SV.size,z6]⟩,⟨_,Go.Proofs.Tryz.underlying216,rfl,by decide⟩,fun h=>by cases h⟩
def zgb:TyI:=⟨(.arr 5 99),5,40,(.arr64 5 [0,0,0,0,0]),true⟩
theorem zye:yn prog 220 zgb:=⟨⟨_,z7 Go.Proofs.Tryz.typeInfo220,rfl,rfl,fun _=>rfl⟩,⟨by simp [zgb,SV.ok,okL],by simp [zgb,Ty.agg],by simp [zgb,SV.size,z6]⟩,Go.Proofs.Tryz.underlying220,fun _=>⟨by decide+kernel,Go.Proofs.Tryz.eqGuardType220⟩⟩
def zoo:TyI:=⟨(.struct [(0,220),(5,220)]),10,80,(.agg [.arr64 5 [0,0,0,0,0],.arr64 5 [0,0,0,0,0]]),true⟩
def ze8:TyI:=⟨(.struct [(0,220),(5,220)]),10,80,(.agg [.arr64 5 [0,0,0,0,0],.arr64 5 [0,0,0,0,0]]),true⟩
theorem zy2:yn prog 223 ze8:=⟨⟨_,z7 Go.Proofs.Tryz.typeInfo223,rfl,rfl,fun _=>rfl⟩,⟨by simp [ze8,SV.ok,okL],by simp [ze8,Ty.agg],by simp [ze8,SV.size,z6]⟩,⟨_,Go.Proofs.Tryz.underlying223,rfl,by decide⟩,fun _=>⟨by decide+kernel,Go.Proofs.Tryz.eqGuardType223⟩⟩
def zfg:TyI:=⟨.ptr,1,8,(.nilptr),false⟩
theorem zy6:yn prog 235 zfg:=⟨⟨_,z7 Go.Proofs.Tryz.typeInfo235,rfl,rfl,fun _=>rfl⟩,⟨by simp [zfg,SV.ok,okL],by simp [zfg,Ty.agg],by simp [zfg,SV.size,z6]⟩,⟨_,Go.Proofs.Tryz.underlying235⟩,fun h=>by cases h⟩
def zfo:TyI:=⟨(.arr 3 99),3,24,(.arr64 3 [0,0,0]),true⟩
theorem zzb:yn prog 236 zfo:=⟨⟨_,z7 Go.Proofs.Tryz.typeInfo236,rfl,rfl,fun _=>rfl⟩,⟨by simp [zfo,SV.ok,okL],by simp [zfo,Ty.agg],by simp [zfo,SV.size,z6]⟩,Go.Proofs.Tryz.underlying236,fun _=>⟨by decide+kernel,Go.Proofs.Tryz.eqGuardType236⟩⟩
def zf9:TyI:=⟨.ptr,1,8,(.nilptr),false⟩
theorem z0l:yn prog 238 zf9:=⟨⟨_,z7 Go.Proofs.Tryz.typeInfo238,rfl,rfl,fun _=>rfl⟩,⟨by simp [zf9,SV.ok,okL],by simp [zf9,Ty.agg],by simp [zf9,SV.size,z6]⟩,⟨_,Go.Proofs.Tryz.underlying238⟩,fun h=>by cases h⟩
def zfe:TyI:=⟨(.arr 8 113),8,32,(.arr32 8 [0,0,0,0,0,0,0,0]),true⟩
theorem z2y:yn prog 239 zfe:=⟨⟨_,z7 Go.Proofs.Tryz.typeInfo239,rfl,rfl,fun _=>rfl⟩,⟨by simp [zfe,SV.ok,okL],by simp [zfe,Ty.agg],by simp [zfe,SV.size,z6]⟩,Go.Proofs.Tryz.underlying239,fun _=>⟨by decide+kernel,Go.Proofs.Tryz.eqGuardType239⟩⟩
def ze6:TyI:=⟨(.arr 8 99),8,64,(.arr64 8 [0,0,0,0,0,0,0,0]),true⟩
theorem zz1:yn prog 242 ze6:=⟨⟨_,z7 Go.Proofs.Tryz.typeInfo242,rfl,rfl,fun _=>rfl⟩,⟨by simp [ze6,SV.ok,okL],by simp [ze6,Ty.agg],by simp [ze6,SV.size,z6]⟩,Go.Proofs.Tryz.underlying242,fun _=>⟨by decide+kernel,Go.Proofs.Tryz.eqGuardType242⟩⟩
def zff:TyI:=⟨(.arr 80 99),80,640,(.arr64 80 (List.replicate 80 0)),true⟩
theorem zzi:yn prog 245 zff:=⟨⟨_,z7 Go.Proofs.Tryz.typeInfo245,rfl,rfl,fun _=>rfl⟩,⟨by simp [zff,SV.ok,okL],by simp [zff,Ty.agg],by simp [zff,SV.size,z6]⟩,Go.Proofs.Tryz.underlying245,fun _=>⟨by decide+kernel,Go.Proofs.Tryz.eqGuardType245⟩⟩
def zoh:TyI:=⟨(.struct [(0,3),(1,242),(9,245),(89,51),(90,99)]),91,744,(.agg [.int 0,.arr64 8 [0,0,0,0,0,0,0,0],.arr64 80 (List.replicate 80 0),.nilsl,.u64 0]),false⟩
def zey:TyI:=⟨(.struct [(0,3),(1,242),(9,245),(89,51),(90,99)]),91,744,(.agg [.int 0,.arr64 8 [0,0,0,0,0,0,0,0],.arr64 80 (List.replicate 80 0),.nilsl,.u64 0]),false⟩
theorem zri:yn prog 248 zey:=⟨⟨_,z7 Go.Proofs.Tryz.typeInfo248,rfl,rfl,fun _=>rfl⟩,⟨by simp [zey,SV.ok,okL],by simp [zey,Ty.agg],by simp [zey,SV.size,z6]⟩,⟨_,Go.Proofs.Tryz.underlying248,rfl,by decide⟩,fun h=>by cases h⟩
def zfd:TyI:=⟨(.arr 64 113),64,256,(.arr32 64 (List.replicate 64 0)),true⟩
theorem z0i:yn prog 249 zfd:=⟨⟨_,z7 Go.Proofs.Tryz.typeInfo249,rfl,rfl,fun _=>rfl⟩,⟨by simp [zfd,SV.ok,okL],by simp [zfd,Ty.agg],by simp [zfd,SV.size,z6]⟩,Go.Proofs.Tryz.underlying249,fun _=>⟨by decide+kernel,Go.Proofs.Tryz.eqGuardType249⟩⟩
def zn3:TyI:=⟨.ptr,1,8,(.nilptr),false⟩
theorem ybx:ty2.sz=1∧ty2.bytes=8∧ty3.sz=1∧ty3.bytes=8∧ty4.sz=1∧ty4.bytes=1∧ty5.sz=1∧ty5.bytes=1∧ty9.sz=1∧ty9.bytes=16∧zxw.sz=1∧zxw.bytes=24∧zma.sz=1∧zma.bytes=8∧zw2.sz=1∧zw2.bytes=8∧zwj.sz=1∧zwj.bytes=8∧zwq.sz=6∧zwq.bytes=64∧zwx.sz=6∧zwx.bytes=64∧zxv.sz=2∧zxv.bytes=24∧zhk.sz=2∧zhk.bytes=24∧zc6.sz=1∧zc6.bytes=8∧zcx.sz=1∧zcx.bytes=24∧zis.sz=1∧zis.bytes=8∧zmf.sz=1∧zmf.bytes=24∧zxi.sz=1∧zxi.bytes=24∧zwm.sz=6∧zwm.bytes=64∧zwg.sz=1∧zwg.bytes=24∧zg4.sz=1∧zg4.bytes=8∧zx1.sz=2∧zx1.bytes=16∧zhj.sz=2∧zhj.bytes=16∧zxm.sz=5∧zxm.bytes=48∧zmc.sz=5∧zmc.bytes=48∧zxy.sz=5∧zxy.bytes=56∧zxp.sz=5∧zxp.bytes=56∧zxz.sz=14∧zxz.bytes=152∧zwd.sz=14∧zwd.bytes=152∧zg2.sz=1∧zg2.bytes=8∧zw4.sz=5∧zw4.bytes=40∧zia.sz=5∧zia.bytes=40∧x4.sz=1∧x4.bytes=8∧znp.sz=4∧znp.bytes=48∧zcv.sz=4∧zcv.bytes=48∧zcz.sz=1∧zcz.bytes=8∧zad.sz=1∧zad.bytes=4∧zf1.sz=1∧zf1.bytes=24∧zoa.sz=3∧zoa.bytes=40∧zcy.sz=3∧zcy.bytes=40∧zoe.sz=2∧zoe.bytes=48∧ze2.sz=2∧ze2.bytes=48∧zes.sz=1∧zes.bytes=8∧zoq.sz=3∧zoq.bytes=40∧zfb.sz=3∧zfb.bytes=40∧ze5.sz=1∧ze5.bytes=8∧zcf.sz=4∧zcf.bytes=4∧zfz.sz=16∧zfz.bytes=64∧zfy.sz=5∧zfy.bytes=40∧zdc.sz=16∧zdc.bytes=16∧zdz.sz=1∧zdz.bytes=8∧zor.sz=2∧zor.bytes=16∧zbr.sz=2∧zbr.bytes=16∧zni.sz=3∧zni.bytes=24∧zew.sz=3∧zew.bytes=24∧zfs.sz=64∧zfs.bytes=64∧ze4.sz=16∧ze4.bytes=64∧zfu.sz=1∧zfu.bytes=8∧zga.sz=1∧zga.bytes=8∧zfm.sz=32∧zfm.bytes=256∧zfv.sz=16∧zfv.bytes=128∧zoc.sz=50∧zoc.bytes=400∧zgf.sz=50∧zgf.bytes=400∧zeu.sz=1∧zeu.bytes=8∧zny.sz=2∧zny.bytes=16∧zgc.sz=2∧zgc.bytes=16∧zd2.sz=256∧zd2.bytes=256∧zdu.sz=1∧zdu.bytes=24∧zob.sz=257∧zob.bytes=280∧zd4.sz=257∧zd4.bytes=280∧zgb.sz=5∧zgb.bytes=40∧zoo.sz=10∧zoo.bytes=80∧ze8.sz=10∧ze8.bytes=80∧zfg.sz=1∧zfg.bytes=8∧zfo.sz=3∧zfo.bytes=24∧zf9.sz=1∧zf9.bytes=8∧zfe.sz=8∧zfe.bytes=32∧ze6.sz=8∧ze6.bytes=64∧zff.sz=80∧zff.bytes=640∧zoh.sz=91∧zoh.bytes=744∧zey.sz=91∧zey.bytes=744∧zfd.sz=64∧zfd.bytes=256∧zn3.sz=1∧zn3.bytes=8:=by
  refine ⟨rfl,rfl,rfl,rfl,rfl,rfl,rfl,rfl,rfl,rfl,rfl,rfl,rfl,rfl,rfl,rfl,rfl,rfl,rfl,rfl,rfl,rfl,rfl,rfl,rfl,rfl,rfl,rfl,rfl,rfl,rfl,rfl,rfl,rfl,rfl,rfl,rfl,rfl,rfl,rfl,rfl,rfl,rfl,rfl,rfl,rfl,rfl,rfl,rfl,rfl,rfl,rfl,rfl,rfl,rfl,rfl,rfl,rfl,rfl,rfl,rfl,rfl,rfl,rfl,rfl,rfl,rfl,rfl,rfl,rfl,rfl,rfl,rfl,rfl,rfl,rfl,rfl,rfl,rfl,rfl,rfl,rfl,rfl,rfl,rfl,rfl,rfl,rfl,rfl,rfl,rfl,rfl,rfl,rfl,rfl,rfl,rfl,rfl,rfl,rfl,rfl,rfl,rfl,rfl,rfl,rfl,rfl,rfl,rfl,rfl,rfl,rfl,rfl,rfl,rfl,rfl,rfl,rfl,rfl,rfl,rfl,rfl,rfl,rfl,rfl,rfl,rfl,rfl,rfl,rfl,rfl,rfl,rfl,rfl,rfl,rfl,rfl,rfl,rfl,rfl,rfl,rfl,rfl,rfl,rfl,rfl,rfl,rfl,rfl,rfl,rfl,rfl,rfl,rfl,rfl,rfl,rfl,rfl,rfl,rfl,rfl,rfl,rfl,rfl,rfl,rfl⟩
theorem ya4:(∀{α:Type} {x y:List α},(x++y).length=x.length+y.length)∧(∀{α:Type} {i:Nat} {l:List α},(List.take i l).length=min i l.length)∧(∀{α:Type} {i:Nat} {l:List α},(List.drop i l).length=l.length-i)∧(∀{α:Type},([]:List α).length=0)∧(∀{α:Type} {a:α} {l:List α},(a ::l).length=l.length+1)∧(∀{α:Type} {n:Nat} {a:α},(List.replicate n a).length=n)∧(∀{α:Type} {l:List α} {i:Nat} {a:α},(l.set i a).length=l.length):=
  ⟨List.length_append,List.length_take,List.length_drop,List.length_nil,List.length_cons,List.length_replicate,List.length_set⟩
theorem sz:(∀(o:List (Nat×Nat)) (i e:Nat),off (ya o i e)=off o+i*e)∧(ty2.sz=1∧ty2.bytes=8∧ty3.sz=1∧ty3.bytes=8∧ty4.sz=1∧ty4.bytes=1∧ty5.sz=1∧ty5.bytes=1∧ty9.sz=1∧ty9.bytes=16∧zxw.sz=1∧zxw.bytes=24∧zma.sz=1∧zma.bytes=8∧zw2.sz=1∧zw2.bytes=8∧zwj.sz=1∧zwj.bytes=8∧zwq.sz=6∧zwq.bytes=64∧zwx.sz=6∧zwx.bytes=64∧zxv.sz=2∧zxv.bytes=24∧zhk.sz=2∧zhk.bytes=24∧zc6.sz=1∧zc6.bytes=8∧zcx.sz=1∧zcx.bytes=24∧zis.sz=1∧zis.bytes=8∧zmf.sz=1∧zmf.bytes=24∧zxi.sz=1∧zxi.bytes=24∧zwm.sz=6∧zwm.bytes=64∧zwg.sz=1∧zwg.bytes=24∧zg4.sz=1∧zg4.bytes=8∧zx1.sz=2∧zx1.bytes=16∧zhj.sz=2∧zhj.bytes=16∧zxm.sz=5∧zxm.bytes=48∧zmc.sz=5∧zmc.bytes=48∧zxy.sz=5∧zxy.bytes=56∧zxp.sz=5∧zxp.bytes=56∧zxz.sz=14∧zxz.bytes=152∧zwd.sz=14∧zwd.bytes=152∧zg2.sz=1∧zg2.bytes=8∧zw4.sz=5∧zw4.bytes=40∧zia.sz=5∧zia.bytes=40∧x4.sz=1∧x4.bytes=8∧znp.sz=4∧znp.bytes=48∧zcv.sz=4∧zcv.bytes=48∧zcz.sz=1∧zcz.bytes=8∧zad.sz=1∧zad.bytes=4∧zf1.sz=1∧zf1.bytes=24∧zoa.sz=3∧zoa.bytes=40∧zcy.sz=3∧zcy.bytes=40∧zoe.sz=2∧zoe.bytes=48∧ze2.sz=2∧ze2.bytes=48∧zes.sz=1∧zes.bytes=8∧zoq.sz=3∧zoq.bytes=40∧zfb.sz=3∧zfb.bytes=40∧ze5.sz=1∧ze5.bytes=8∧zcf.sz=4∧zcf.bytes=4∧zfz.sz=16∧zfz.bytes=64∧zfy.sz=5∧zfy.bytes=40∧zdc.sz=16∧zdc.bytes=16∧zdz.sz=1∧zdz.bytes=8∧zor.sz=2∧zor.bytes=16∧zbr.sz=2∧zbr.bytes=16∧zni.sz=3∧zni.bytes=24∧zew.sz=3∧zew.bytes=24∧zfs.sz=64∧zfs.bytes=64∧ze4.sz=16∧ze4.bytes=64∧zfu.sz=1∧zfu.bytes=8∧zga.sz=1∧zga.bytes=8∧zfm.sz=32∧zfm.bytes=256∧zfv.sz=16∧zfv.bytes=128∧zoc.sz=50∧zoc.bytes=400∧zgf.sz=50∧zgf.bytes=400∧zeu.sz=1∧zeu.bytes=8∧zny.sz=2∧zny.bytes=16∧zgc.sz=2∧zgc.bytes=16∧zd2.sz=256∧zd2.bytes=256∧zdu.sz=1∧zdu.bytes=24∧zob.sz=257∧zob.bytes=280∧zd4.sz=257∧zd4.bytes=280∧zgb.sz=5∧zgb.bytes=40∧zoo.sz=10∧zoo.bytes=80∧ze8.sz=10∧ze8.bytes=80∧zfg.sz=1∧zfg.bytes=8∧zfo.sz=3∧zfo.bytes=24∧zf9.sz=1∧zf9.bytes=8∧zfe.sz=8∧zfe.bytes=32∧ze6.sz=8∧ze6.bytes=64∧zff.sz=80∧zff.bytes=640∧zoh.sz=91∧zoh.bytes=744∧zey.sz=91∧zey.bytes=744∧zfd.sz=64∧zfd.bytes=256∧zn3.sz=1∧zn3.bytes=8):=⟨fun o i e=>zw o i e,ybx⟩
theorem szl:((∀(o:List (Nat×Nat)) (i e:Nat),off (ya o i e)=off o+i*e)∧(ty2.sz=1∧ty2.bytes=8∧ty3.sz=1∧ty3.bytes=8∧ty4.sz=1∧ty4.bytes=1∧ty5.sz=1∧ty5.bytes=1∧ty9.sz=1∧ty9.bytes=16∧zxw.sz=1∧zxw.bytes=24∧zma.sz=1∧zma.bytes=8∧zw2.sz=1∧zw2.bytes=8∧zwj.sz=1∧zwj.bytes=8∧zwq.sz=6∧zwq.bytes=64∧zwx.sz=6∧zwx.bytes=64∧zxv.sz=2∧zxv.bytes=24∧zhk.sz=2∧zhk.bytes=24∧zc6.sz=1∧zc6.bytes=8∧zcx.sz=1∧zcx.bytes=24∧zis.sz=1∧zis.bytes=8∧zmf.sz=1∧zmf.bytes=24∧zxi.sz=1∧zxi.bytes=24∧zwm.sz=6∧zwm.bytes=64∧zwg.sz=1∧zwg.bytes=24∧zg4.sz=1∧zg4.bytes=8∧zx1.sz=2∧zx1.bytes=16∧zhj.sz=2∧zhj.bytes=16∧zxm.sz=5∧zxm.bytes=48∧zmc.sz=5∧zmc.bytes=48∧zxy.sz=5∧zxy.bytes=56∧zxp.sz=5∧zxp.bytes=56∧zxz.sz=14∧zxz.bytes=152∧zwd.sz=14∧zwd.bytes=152∧zg2.sz=1∧zg2.bytes=8∧zw4.sz=5∧zw4.bytes=40∧zia.sz=5∧zia.bytes=40∧x4.sz=1∧x4.bytes=8∧znp.sz=4∧znp.bytes=48∧zcv.sz=4∧zcv.bytes=48∧zcz.sz=1∧zcz.bytes=8∧zad.sz=1∧zad.bytes=4∧zf1.sz=1∧zf1.bytes=24∧zoa.sz=3∧zoa.bytes=40∧zcy.sz=3∧zcy.bytes=40∧zoe.sz=2∧zoe.bytes=48∧ze2.sz=2∧ze2.bytes=48∧zes.sz=1∧zes.bytes=8∧zoq.sz=3∧zoq.bytes=40∧zfb.sz=3∧zfb.bytes=40∧ze5.sz=1∧ze5.bytes=8∧zcf.sz=4∧zcf.bytes=4∧zfz.sz=16∧zfz.bytes=64∧zfy.sz=5∧zfy.bytes=40∧zdc.sz=16∧zdc.bytes=16∧zdz.sz=1∧zdz.bytes=8∧zor.sz=2∧zor.bytes=16∧zbr.sz=2∧zbr.bytes=16∧zni.sz=3∧zni.bytes=24∧zew.sz=3∧zew.bytes=24∧zfs.sz=64∧zfs.bytes=64∧ze4.sz=16∧ze4.bytes=64∧zfu.sz=1∧zfu.bytes=8∧zga.sz=1∧zga.bytes=8∧zfm.sz=32∧zfm.bytes=256∧zfv.sz=16∧zfv.bytes=128∧zoc.sz=50∧zoc.bytes=400∧zgf.sz=50∧zgf.bytes=400∧zeu.sz=1∧zeu.bytes=8∧zny.sz=2∧zny.bytes=16∧zgc.sz=2∧zgc.bytes=16∧zd2.sz=256∧zd2.bytes=256∧zdu.sz=1∧zdu.bytes=24∧zob.sz=257∧zob.bytes=280∧zd4.sz=257∧zd4.bytes=280∧zgb.sz=5∧zgb.bytes=40∧zoo.sz=10∧zoo.bytes=80∧ze8.sz=10∧ze8.bytes=80∧zfg.sz=1∧zfg.bytes=8∧zfo.sz=3∧zfo.bytes=24∧zf9.sz=1∧zf9.bytes=8∧zfe.sz=8∧zfe.bytes=32∧ze6.sz=8∧ze6.bytes=64∧zff.sz=80∧zff.bytes=640∧zoh.sz=91∧zoh.bytes=744∧zey.sz=91∧zey.bytes=744∧zfd.sz=64∧zfd.bytes=256∧zn3.sz=1∧zn3.bytes=8))∧(∀{α:Type} {x y:List α},(x++y).length=x.length+y.length)∧(∀{α:Type} {i:Nat} {l:List α},(List.take i l).length=min i l.length)∧(∀{α:Type} {i:Nat} {l:List α},(List.drop i l).length=l.length-i)∧(∀{α:Type},([]:List α).length=0)∧(∀{α:Type} {a:α} {l:List α},(a ::l).length=l.length+1)∧(∀{α:Type} {n:Nat} {a:α},(List.replicate n a).length=n)∧(∀{α:Type} {l:List α} {i:Nat} {a:α},(l.set i a).length=l.length):=⟨sz,ya4⟩
theorem pk {a:Array Oper} {b:Ctx} {c:List PStep} (h:zjx a b c=true):zjx a b c=true:=h
theorem zy {p k:Prop} (h:k) (hp:p:=by first|assumption|omega|exact pk (by kernel_rfl)|(unfold yo;omega)|exact UInt8.toNat_lt _|decide+kernel|(constructor<;>first|assumption|omega)|(simp only [sz,off,zib]<;>omega)|(simp only [szl,off,zib]<;>omega)|(constructor<;>first|assumption|(simp only [szl,off,zib]<;>omega))):Pre p k:=zv hp h
theorem zk {t:Bool} {a b:Prop} (h:a) (e:t=true:=by first|rfl|assumption|(rw [decide_eq_true_eq];omega)|(simp<;>omega)):yg t a b:=zr e h
theorem zj {t:Bool} {a b:Prop} (h:b) (e:t=false:=by first|rfl|assumption|(rw [decide_eq_false_iff_not];omega)|(simp<;>omega)):yg t a b:=zq e h
structure Hid (Q:Prop):Prop where
  out:Q
theorem za {P Q:Prop} (h:Q) (w:Hid Q→P:=by
    intro h
    repeat ((conv=>whnf);first|refine zy ?_|refine zc ?_|refine zk ?_|refine zj ?_)
    conv=>whnf
    exact h.out):P:=w ⟨h⟩
theorem zo {p:Prop} (h:p:=by
    repeat ((conv=>whnf);refine zc ?_)
    exact trivial):p:=h
theorem zu {v u:SV} {p:Prop} (e:v=u) (h:p:=by
    repeat ((conv=>whnf);refine zc ?_)
    exact trivial):zng v u p:=by subst e;exact zc h
theorem zm {n0:Nat} {r r':SV} {hp hp':List Blk} {K:SV→List Blk→Prop} (gl:List Nat) (hk:K r' hp') (h:zef n0 gl [(0,r)] hp [(0,r')] hp' True:=by
    repeat ((conv=>whnf);refine zc ?_)
    exact trivial):zbn n0 r hp K:=yu gl hk h
end Go.Sym.Z

namespace Go.Sym.Aes
open Go.Sym.Lp
def tw (x:UInt8):UInt8:=(x<<<(1:UInt8))^^^((27:UInt8)&&&((0:UInt8)-(x>>>(7:UInt8))))
def rl8 (x:UInt8) (n:Nat):UInt8:=x<<<UInt8.ofNat n|||x>>>UInt8.ofNat (8-n)
def q1 (q:UInt8):UInt8:=q^^^q<<<1
def q2 (q:UInt8):UInt8:=q1 q^^^q1 q<<<2
def q3 (q:UInt8):UInt8:=q2 q^^^q2 q<<<4
def q4 (q:UInt8):UInt8:=q3 q^^^((9:UInt8)&&&((0:UInt8)-(q3 q>>>(7:UInt8))))
def pq:Nat→UInt8×UInt8
  |0=>(1,1)
  |i+1=>((pq i).1^^^tw (pq i).1,q4 (pq i).2)
def sb (q:UInt8):UInt8:=99^^^q^^^rl8 q 1^^^rl8 q 2^^^rl8 q 3^^^rl8 q 4
def zn5:Nat→List UInt8
  |0=>99 ::List.replicate 255 0
  |i+1=>(zn5 i).set (pq (i+1)).1.toNat (sb (pq (i+1)).2)
set_option maxRecDepth 100000
theorem znk: ∀i,(zn5 i).length=256
  |0=>rfl
  |i+1=>by simp only [zn5,List.length_set];exact znk i
def box:List UInt8:= [99,124,119,123,242,107,111,197,48,1,103,43,254,215,171,118,202,130,201,125,250,89,71,240,173,212,162,175,156,164,114,192,183,253,147,38,54,63,247,204,52,165,229,241,113,216,49,21,4,199,35,195,24,150,5,154,7,18,128,226,235,39,178,117,9,131,44,26,27,110,90,160,82,59,214,179,41,227,47,132,83,209,0,237,32,252,177,91,106,203,190,57,74,76,88,207,208,239,170,251,67,77,51,133,69,249,2,127,80,60,159,168,81,163,64,143,146,157,56,245,188,182,218,33,16,255,243,210,205,12,19,236,95,151,68,23,196,167,126,61,100,93,25,115,96,129,79,220,34,42,144,136,70,238,184,20,222,94,11,219,224,50,58,10,73,6,36,92,194,211,172,98,145,149,228,121,231,200,55,109,141,213,78,169,108,86,244,234,101,122,174,8,186,120,37,46,28,166,180,198,232,221,116,31,75,189,139,138,112,62,181,102,72,3,246,14,97,53,87,185,134,193,29,158,225,248,152,17,105,217,142,148,155,30,135,233,206,85,40,223,140,161,137,13,191,230,66,104,65,153,45,15,176,84,187,22]
theorem z5u: ∀i,i<255→((pq (i+1)).1=1↔i+1=255):=by decide+kernel
theorem z49:zn5 255=box:=by decide+kernel
end Go.Sym.Aes
namespace Go.Sym.Aes
open Go.Sym.Lp
def rc:Nat→UInt8
  |0=>1
  |k+1=>tw (rc k)
def zcn (n i:Nat) (t:List UInt8):List UInt8:=
  if i%n=0 then [box.getD (t.getD 1 0).toNat 0^^^rc ((i-1)/ n),box.getD (t.getD 2 0).toNat 0,box.getD (t.getD 3 0).toNat 0,box.getD (t.getD 0 0).toNat 0]
  else if n=8∧i%n=4 then (List.range 4).map fun k=>box.getD (t.getD k 0).toNat 0 else t
def zeq (key:List UInt8) (n i:Nat) (W:List UInt8):List UInt8:=
  if i<n then (key.drop (4*i)).take 4
  else (List.range 4).map fun k=>W.getD (4*(i-n)+k) 0^^^(zcn n i ((W.drop (4*(i-1))).take 4)).getD k 0
def ks (key:List UInt8) (n:Nat):Nat→List UInt8
  |0=> []
  |i+1=>ks key n i++zeq key n i (ks key n i)
theorem zn4 {key:List UInt8} {n i:Nat} (hk:key.length=4*n) (W:List UInt8):(zeq key n i W).length=4:=by
  unfold zeq
  split
  ·rw [List.length_take,List.length_drop];omega
  ·simp
theorem zc0 {key:List UInt8} {n:Nat} (hk:key.length=4*n): ∀i,(ks key n i).length=4*i
  |0=>rfl
  |i+1=>by simp only [ks,List.length_append,zc0 hk i,zn4 hk];omega
end Go.Sym.Aes
namespace Go.Sym.Aes
open Go.Sym.Lp
def kw (key:List UInt8) (n N i:Nat):List UInt8:=ks key n i++List.replicate (N-4*i) 0
section
variable {key:List UInt8} {n N i:Nat} (hk:key.length=4*n)
include hk
theorem zz9 (h:4*i≤N):(kw key n N i).length=N:=by
  unfold kw;rw [List.length_append,zc0 hk,List.length_replicate];omega
theorem zk6 {j:Nat} (hj:j<4*i):(kw key n N i).getD j 0=(ks key n i).getD j 0:=by
  unfold kw
  rw [List.getD_eq_getElem?_getD,List.getElem?_append_left (by rw [zc0 hk];exact hj),List.getD_eq_getElem?_getD]
theorem zyq {j:Nat} (hj:j+4≤4*i):((kw key n N i).drop j).take 4=((ks key n i).drop j).take 4:=by
  unfold kw
  rw [List.drop_append_of_le_length (by rw [zc0 hk];omega),List.take_append_of_le_length (by rw [List.length_drop,zc0 hk];omega)]
theorem zu1 (h:4*i+4≤N) {v:List UInt8} (hv:v=zeq key n i (ks key n i)):(kw key n N i).take (4*i)++v++(kw key n N i).drop (4*i+4)=kw key n N (i+1):=by
  have hl:=zc0 hk i
  unfold kw
  subst hv
  rw [List.take_left' hl,List.drop_append,List.drop_eq_nil_of_le (by omega),List.nil_append,hl,List.drop_replicate,show N-4*i-(4*i+4-4*i)=N-4*(i+1) by omega]
  simp only [ks]
end
theorem z2g {key:List UInt8} {n N i:Nat} (h:N=4*i):kw key n N i=ks key n i:=by unfold kw;rw [h,Nat.sub_self];simp
theorem zv7 {n i:Nat} (hn:0<n) (hi:n≤i) (h:i%n=0):tw (rc ((i-1)/ n))=rc (i/ n):=by
  obtain ⟨c,rfl⟩:=Nat.dvd_of_mod_eq_zero h
  have hc:0<c:=by
    rcases Nat.eq_zero_or_pos c with rfl|h
    ·omega
    ·exact h
  obtain ⟨d,rfl⟩: ∃d,c=d+1:=⟨c-1,by omega⟩
  have e1:(n*(d+1)-1)/ n=d:=by
    rw [Nat.mul_succ,show n*d+n-1=n*d+(n-1) by omega,Nat.mul_add_div hn,Nat.div_eq_of_lt (show n-1<n by omega),Nat.add_zero]
  rw [e1,Nat.mul_div_cancel_left _ hn]
  rfl
theorem zpk {n i:Nat} (hn:0<n) (h: ¬i%n=0):(i-1)/ n=i/ n:=by
  have h1:=Nat.div_add_mod i n
  have h2:=Nat.mod_lt i hn
  have e:i-1=n*(i/ n)+(i%n-1):=by omega
  rw [e,Nat.mul_add_div hn,Nat.div_eq_of_lt (show i%n-1<n by omega),Nat.add_zero]
theorem zq1 {n i:Nat} (h:i<n):(i-1)/ n=i/ n:=by rw [Nat.div_eq_of_lt h,Nat.div_eq_of_lt (by omega)]
end Go.Sym.Aes
namespace Go.Sym.Aes
open Go.Sym.Lp
def kc (W:List UInt8) (i:Nat):List UInt8:=W.take (4*i)++List.replicate (W.length-4*i) 0
theorem zyk {W:List UInt8} {i:Nat} (h:4*i≤W.length):(kc W i).length=W.length:=by unfold kc;simp;omega
theorem zuq (W:List UInt8):kc W 0=List.replicate W.length 0:=by unfold kc;simp
theorem zyp {W:List UInt8} {i:Nat} (h:W.length=4*i):kc W i=W:=by unfold kc;rw [h,Nat.sub_self,List.take_of_length_le (by omega)];simp
theorem z4v {W:List UInt8} {i:Nat} (h:4*i+4≤W.length):(kc W i).take (4*i)++(W.drop (4*i)).take 4++(kc W i).drop (4*i+4)=kc W (i+1):=by
  unfold kc
  have hl:(W.take (4*i)).length=4*i:=by rw [List.length_take];omega
  have hd:List.drop (4*i+4) (W.take (4*i))= []:=List.drop_eq_nil_of_le (by omega)
  rw [List.take_left' hl,List.drop_append,hd,List.nil_append,hl,List.drop_replicate,show W.length-4*i-(4*i+4-4*i)=W.length-4*(i+1) by omega]
  congr 1
  rw [Nat.mul_succ,List.take_add]
theorem zfp {n i:Nat} {t:List UInt8} (h:t.length=4):(zcn n i t).length=4:=by
  unfold zcn;split
  ·rfl
  ·split
   ·simp
   ·exact h
end Go.Sym.Aes
namespace Go.Sym.Aes
theorem zur:box.length=256:=by decide+kernel
theorem zck (x:UInt8):x.toNat<box.length:=by rw [zur];exact x.toNat_lt
end Go.Sym.Aes
namespace Go.Sym.Aes
open Go.Sym.Lp
def z2i (ks:List UInt8) (r:Nat) (x:List UInt8):List UInt8:=(List.range 16).map fun j=>x.getD j 0^^^ks.getD (16*r+j) 0
def zcl (x:List UInt8):List UInt8:=(List.range 16).map fun i=>box.getD (x.getD ((i+4*(i%4))%16) 0).toNat 0
def zrj (t:List UInt8) (i:Nat):UInt8:=
  t.getD i 0^^^(t.getD (i/ 4*4) 0^^^t.getD (i/ 4*4+1) 0^^^t.getD (i/ 4*4+2) 0^^^t.getD (i/ 4*4+3) 0^^^tw (t.getD i 0^^^t.getD (i/ 4*4+(i+1)%4) 0))
def zll (t:List UInt8):List UInt8:=(List.range 16).map (zrj t)
def rnd (ks:List UInt8) (R r:Nat) (x:List UInt8):List UInt8:=z2i ks r (if r<R-1 then zll (zcl x) else zcl x)
def zgy (ks:List UInt8) (R:Nat) (x:List UInt8):Nat→List UInt8
  |0=>z2i ks 0 x
  |r+1=>rnd ks R (r+1) (zgy ks R x r)
def enc (ks:List UInt8) (R:Nat) (x:List UInt8):List UInt8:=zgy ks R x (R-1)
theorem zsm (ks:List UInt8) (r:Nat) (x:List UInt8):(z2i ks r x).length=16:=z4 _ _
theorem zra (x:List UInt8):(zcl x).length=16:=z4 _ _
theorem z0n (x:List UInt8):(zll x).length=16:=z4 _ _
theorem zns (ks:List UInt8) (R:Nat) (x:List UInt8): ∀r,(zgy ks R x r).length=16
  |0=>zsm _ _ _
  |_+1=>zsm _ _ _
theorem zks (ks:List UInt8) (R:Nat) (x:List UInt8):(enc ks R x).length=16:=zns _ _ _ _
theorem z2h {T:List UInt8} {g:Nat→UInt8} {a:Nat} (h:a+4≤T.length) {u0 u1 u2 u3:UInt8}
    (h0:T.getD a 0^^^u0=g a) (h1:T.getD (a+1) 0^^^u1=g (a+1)) (h2:T.getD (a+2) 0^^^u2=g (a+2)) (h3:T.getD (a+3) 0^^^u3=g (a+3)) {X0 X1 X2 X3:List UInt8}
    (e0:X0=(ovr T 0 g a).set a ((ovr T 0 g a).getD a 0^^^u0)) (e1:X1=X0.set (a+1) (X0.getD (a+1) 0^^^u1)) (e2:X2=X1.set (a+2) (X1.getD (a+2) 0^^^u2)) (e3:X3=X2.set (a+3) (X2.getD (a+3) 0^^^u3)):
    X3=ovr T 0 g (a+4):=by
  have k0:X0=ovr T 0 g (a+1):=by
    rw [e0,yx (by omega) _ (by omega)]
    exact yd (by omega) h0 (by omega)
  have k1:X1=ovr T 0 g (a+2):=by
    rw [e1,k0,yx (by omega) _ (by omega)]
    exact yd (by omega) h1 (by omega)
  have k2:X2=ovr T 0 g (a+3):=by
    rw [e2,k1,yx (by omega) _ (by omega)]
    exact yd (by omega) h2 (by omega)
  rw [e3,k2,yx (by omega) _ (by omega)]
  exact yd (by omega) h3 (by omega)
end Go.Sym.Aes
namespace Go.Sym.Aes
open Go.Sym.Lp
theorem zkx (T:List UInt8) (c j:Nat) (h:j<4):zrj T (4*c+j)=T.getD (4*c+j) 0^^^(T.getD (4*c) 0^^^T.getD (4*c+1) 0^^^T.getD (4*c+2) 0^^^T.getD (4*c+3) 0^^^tw (T.getD (4*c+j) 0^^^T.getD (4*c+(j+1)%4) 0)):=by
  unfold zrj
  have e1:(4*c+j)/ 4*4=4*c:=by omega
  have e2:(4*c+j+1)%4=(j+1)%4:=by omega
  rw [e1,e2]
theorem zzp {T:List UInt8} {c:Nat} (h:4*c+4≤T.length) {Y:List UInt8} (hY:Y=ovr T 0 (zrj T) (4*c)) {al:UInt8} (ha:al=Y.getD (4*c) 0^^^Y.getD (4*c+1) 0^^^Y.getD (4*c+2) 0^^^Y.getD (4*c+3) 0)
    {X0 X1 X2 X3:List UInt8} (e0:X0=Y.set (4*c) (Y.getD (4*c) 0^^^(al^^^tw (Y.getD (4*c) 0^^^Y.getD (4*c+1) 0))))
    (e1:X1=X0.set (4*c+1) (X0.getD (4*c+1) 0^^^(al^^^tw (Y.getD (4*c+1) 0^^^Y.getD (4*c+2) 0))))
    (e2:X2=X1.set (4*c+2) (X1.getD (4*c+2) 0^^^(al^^^tw (Y.getD (4*c+2) 0^^^Y.getD (4*c+3) 0))))
    (e3:X3=X2.set (4*c+3) (X2.getD (4*c+3) 0^^^(al^^^tw (Y.getD (4*c+3) 0^^^Y.getD (4*c) 0)))):X3=ovr T 0 (zrj T) (4*(c+1)):=by
  have hg: ∀j,4*c≤j→Y.getD j 0=T.getD j 0:=fun j hj=>by rw [hY];exact yx (by omega) _ (by omega) _
  rw [hg _ (by omega),hg _ (by omega),hg _ (by omega),hg _ (by omega)] at ha
  have m0:=zkx T c 0 (by omega)
  have m1:=zkx T c 1 (by omega)
  have m2:=zkx T c 2 (by omega)
  have m3:=zkx T c 3 (by omega)
  rw [←ha] at m0 m1 m2 m3
  rw [Nat.add_zero] at m0
  refine z2h (by omega) m0.symm m1.symm m2.symm m3.symm (X0:=X0) (X1:=X1) (X2:=X2) ?_ ?_ ?_ ?_
  ·rw [e0,←hY,hg (4*c) (by omega),hg (4*c+1) (by omega)]
  ·rw [e1,hg (4*c+1) (by omega),hg (4*c+2) (by omega)]
  ·rw [e2,hg (4*c+2) (by omega),hg (4*c+3) (by omega)]
  ·rw [e3,hg (4*c+3) (by omega),hg (4*c) (by omega)];rfl
end Go.Sym.Aes
namespace Go.Sym.Aes
open Go.Sym.Lp
end Go.Sym.Aes
namespace Go.Sym.Aes
open Go.Sym.Lp
end Go.Sym.Aes
namespace Go.Sym.Aes
end Go.Sym.Aes
namespace Go.Sym.Aes
end Go.Sym.Aes

namespace Go.Sym.Z
open Go Go.Proofs.Tryz Go.Sym.Lp Go.Sym.Aes
set_option maxRecDepth 100000
def z96:List (Nat×List PStep):= []
def z8m:List (Nat×List PStep):= []
def z9o:List (Nat×List PStep):= []
def z9h:List (Nat×TyI):= [(3,ty3),(4,ty4),(5,ty5),(9,ty9),(48,zc6),(51,zcx),(168,zdc),(178,zdz),(148,zcf),(116,zf1),(214,zdu),(212,zd2),(216,zd4)]
theorem zf8: ∀t i,yz z9h t=some i→yn prog t i:=(zb ty3_ok (zb zbu (zb zby (zb zbz (zb zaw (zb za2 (zb zho (zb zmj (zb z2o (zb zx9 (zb zk3 (zb zmv (zb zk9 zae)))))))))))))
def zyu:Spec:=fun args hp K=>match args,hp with
  | [.u8 x,.int k],[]=>Pre (k=1∨k=2∨k=3∨k=4) (K (.u8 (rl8 x k.toNat)) [])
  |_,_=>False
def ztr:Spec:=fun args hp K=>match args,hp with
  | [.u8 x],[]=>K (.u8 (tw x)) []
  |_,_=>False
def zs3:Spec:=fun args hp K=>match args,hp with
  | [],[]=>K (.arr8 256 box) []
  |_,_=>False
theorem z7p:zp prog 175 zyu:=by
  refine zl zf8 zg rfl func175 rfl call175 (D:=z96) ?_ ?_
  ·intro args hp K h
   unfold zyu at h
   split at h
   ·exact Nat.le_of_ble_eq_true rfl
   ·exact h.elim
  ·intro args hp K h
   unfold zyu at h
   split at h
   ·rename_i x k
    obtain ⟨hk,h⟩:=zi h
    rcases hk with rfl|rfl|rfl|rfl
    all_goals
      refine za ?_
      exact zm [] h
   ·exact h.elim
theorem zpo:zp prog 159 ztr:=by
  refine zl zf8 zg rfl func159 rfl call159 (D:=z8m) ?_ ?_
  ·intro args hp K h
   unfold ztr at h
   split at h
   ·exact Nat.le_of_ble_eq_true rfl
   ·exact h.elim
  ·intro args hp K h
   unfold ztr at h
   split at h
   ·refine za ?_
    exact zm [] h
   ·exact h.elim
theorem z36:zp prog 158 zs3:=by
  refine zl zf8 (ze zpo (ze z7p zg)) rfl func158 rfl call158 (D:=z9o) ?_ ?_
  ·intro args hp K h
   unfold zs3 at h
   split at h
   ·exact Nat.le_of_ble_eq_true rfl
   ·exact h.elim
  ·intro args hp K h
   unfold zs3 at h
   split at h
   ·refine za ?_
    refine zx (Ix (254)) (fun q=>⟨[(0,.ptr 0 0 0 []),(1,.ptr 1 0 0 []),(2,.u8 (pq q.i).1),(3,.u8 (pq q.i).2)],[.mk 212 [.arr8 256 (List.replicate 256 0)],.mk 212 [.arr8 256 (zn5 q.i)]]⟩) (fun q=>(254)-q.i) ⟨0,Nat.zero_le _⟩ [0,1] ?_ ?_
    ·exact zo
    ·intro q
     have hi:=q.hi
     have hl:=znk q.i
     have he:=z5u q.i (by omega)
     have hu:((pq q.i).1^^^tw (pq q.i).1).toNat<256:=((pq q.i).1^^^tw (pq q.i).1).toNat_lt
     by_cases h4:q.i+1≤254
     ·have hd:decide ((pq (q.i+1)).1=UInt8.ofNat 1)=false:=decide_eq_false (fun e=>by have:=he.1 e;omega)
      repeat ((conv=>whnf);first|refine zy ?_|refine zk ?_|refine zj ?_|refine zc ?_|refine zv (by first|exact hd|(rw [hd];rfl)) ?_|refine zr (by first|exact hd|(rw [hd];rfl)) ?_|refine zq (by first|exact hd|(rw [hd];rfl)) ?_)
      conv=>whnf
      refine ⟨⟨q.i+1,h4⟩,[0,1],by show (254)-(q.i+1)<(254)-q.i;omega,?_⟩
      exact zo
     ·have e4:q.i=254:=by omega
      have hd:decide ((pq (q.i+1)).1=UInt8.ofNat 1)=true:=decide_eq_true (he.2 (by omega))
      repeat ((conv=>whnf);first|refine zy ?_|refine zk ?_|refine zj ?_|refine zc ?_|refine zv (by first|exact hd|(rw [hd];rfl)) ?_|refine zr (by first|exact hd|(rw [hd];rfl)) ?_|refine zq (by first|exact hd|(rw [hd];rfl)) ?_)
      have e5:zn5 (q.i+1)=box:=by rw [e4];exact z49
      conv=>whnf
      refine yu (hp':= []) [] h ?_
      repeat ((conv=>whnf);refine zc ?_)
      conv=>whnf
      exact zu (congrArg (SV.arr8 256) e5)
   ·exact h.elim
end Go.Sym.Z
