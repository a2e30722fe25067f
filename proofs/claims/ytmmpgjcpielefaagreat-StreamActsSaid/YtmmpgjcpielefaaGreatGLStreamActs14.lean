/-
  Contracts of functions of the program, each said of symbolic values, and plain laws; no condition beyond each statement's own.
-/
import Derived.Test.YtmmpgjcpielefaaGreatGLStreamActs13
import Derived.Test.YtmmpgjcpielefaaGreatRows
set_option linter.unusedSimpArgs false
set_option linter.unusedVariables false
namespace Go.Sym.Z
open Go.Proofs.Tryz
set_option maxRecDepth 100000
def ty3:TyI:=⟨(.int .i64),1,8,(.int 0),false⟩
theorem zbg:yt prog 3 ty3:=⟨⟨_,yf Go.Proofs.Tryz.typeInfo3,rfl,rfl,fun _=>rfl⟩,⟨by simp [ty3,SV.ok,okL],by simp [ty3,Ty.agg],by simp [ty3,SV.size,yc]⟩,Go.Proofs.Tryz.underlying3,fun h=>by cases h⟩
def ty4:TyI:=⟨.bool,1,1,(.bool false),false⟩
theorem zbj:yt prog 4 ty4:=⟨⟨_,yf Go.Proofs.Tryz.typeInfo4,rfl,rfl,fun _=>rfl⟩,⟨by simp [ty4,SV.ok,okL],by simp [ty4,Ty.agg],by simp [ty4,SV.size,yc]⟩,Go.Proofs.Tryz.underlying4,fun h=>by cases h⟩
def ty5:TyI:=⟨(.int .u8),1,1,(.u8 0),false⟩
theorem zbc:yt prog 5 ty5:=⟨⟨_,yf Go.Proofs.Tryz.typeInfo5,rfl,rfl,fun _=>rfl⟩,⟨by simp [ty5,SV.ok,okL],by simp [ty5,Ty.agg],by simp [ty5,SV.size,yc]⟩,Go.Proofs.Tryz.underlying5,fun h=>by cases h⟩
def ty9:TyI:=⟨.str,1,16,(.str []),false⟩
theorem zbf:yt prog 9 ty9:=⟨⟨_,yf Go.Proofs.Tryz.typeInfo9,rfl,rfl,fun _=>rfl⟩,⟨by simp [ty9,SV.ok,okL],by simp [ty9,Ty.agg],by simp [ty9,SV.size,yc]⟩,Go.Proofs.Tryz.underlying9,fun h=>by cases h⟩
def zyb:TyI:=⟨.ptr,1,8,(.nilptr),false⟩
theorem ybu:yt prog 23 zyb:=⟨⟨_,yf Go.Proofs.Tryz.typeInfo23,rfl,rfl,fun _=>rfl⟩,⟨by simp [zyb,SV.ok,okL],by simp [zyb,Ty.agg],by simp [zyb,SV.size,yc]⟩,⟨_,Go.Proofs.Tryz.underlying23⟩,fun h=>by cases h⟩
def zuk:TyI:=⟨.ptr,1,8,(.nilptr),false⟩
theorem ztp:yt prog 27 zuk:=⟨⟨_,yf Go.Proofs.Tryz.typeInfo27,rfl,rfl,fun _=>rfl⟩,⟨by simp [zuk,SV.ok,okL],by simp [zuk,Ty.agg],by simp [zuk,SV.size,yc]⟩,⟨_,Go.Proofs.Tryz.underlying27⟩,fun h=>by cases h⟩
def zlv:TyI:=⟨(.struct [(0,3),(1,9)]),2,24,(.agg [.int 0,.str []]),true⟩
theorem zf5:yt prog 43 zlv:=⟨⟨_,yf Go.Proofs.Tryz.typeInfo43,rfl,rfl,fun _=>rfl⟩,⟨by simp [zlv,SV.ok,okL],by simp [zlv,Ty.agg],by simp [zlv,SV.size,yc]⟩,⟨_,Go.Proofs.Tryz.underlying43,rfl,by decide⟩,fun _=>⟨by decide+kernel,Go.Proofs.Tryz.eqGuardType43⟩⟩
def zd6:TyI:=⟨(.int .u64),1,8,(.u64 0),false⟩
theorem zaq:yt prog 48 zd6:=⟨⟨_,yf Go.Proofs.Tryz.typeInfo48,rfl,rfl,fun _=>rfl⟩,⟨by simp [zd6,SV.ok,okL],by simp [zd6,Ty.agg],by simp [zd6,SV.size,yc]⟩,Go.Proofs.Tryz.underlying48,fun h=>by cases h⟩
def zeb:TyI:=⟨(.sl 5),1,24,(.nilsl),false⟩
theorem zap:yt prog 51 zeb:=⟨⟨_,yf Go.Proofs.Tryz.typeInfo51,rfl,rfl,fun _=>rfl⟩,⟨by simp [zeb,SV.ok,okL],by simp [zeb,Ty.agg],by simp [zeb,SV.size,yc]⟩,Go.Proofs.Tryz.underlying51,fun h=>by cases h⟩
def zpa:TyI:=⟨.ptr,1,8,(.nilptr),false⟩
theorem zjx:yt prog 56 zpa:=⟨⟨_,yf Go.Proofs.Tryz.typeInfo56,rfl,rfl,fun _=>rfl⟩,⟨by simp [zpa,SV.ok,okL],by simp [zpa,Ty.agg],by simp [zpa,SV.size,yc]⟩,⟨_,Go.Proofs.Tryz.underlying56⟩,fun h=>by cases h⟩
def zy3:TyI:=⟨(.sl 63),1,24,(.nilsl),false⟩
theorem ybz:yt prog 62 zy3:=⟨⟨_,yf Go.Proofs.Tryz.typeInfo62,rfl,rfl,fun _=>rfl⟩,⟨by simp [zy3,SV.ok,okL],by simp [zy3,Ty.agg],by simp [zy3,SV.size,yc]⟩,Go.Proofs.Tryz.underlying62,fun h=>by cases h⟩
def zo5:TyI:=⟨(.struct [(0,3),(1,9),(2,3),(3,9),(4,3),(5,4)]),6,64,(.agg [.int 0,.str [],.int 0,.str [],.int 0,.bool false]),true⟩
theorem ty63_ok:yt prog 63 zo5:=⟨⟨_,yf Go.Proofs.Tryz.typeInfo63,rfl,rfl,fun _=>rfl⟩,⟨by simp [zo5,SV.ok,okL],by simp [zo5,Ty.agg],by simp [zo5,SV.size,yc]⟩,⟨_,Go.Proofs.Tryz.underlying63,rfl,by decide⟩,fun _=>⟨by decide+kernel,Go.Proofs.Tryz.eqGuardType63⟩⟩
def zmk:TyI:=⟨.ptr,1,8,(.nilptr),false⟩
theorem zhz:yt prog 68 zmk:=⟨⟨_,yf Go.Proofs.Tryz.typeInfo68,rfl,rfl,fun _=>rfl⟩,⟨by simp [zmk,SV.ok,okL],by simp [zmk,Ty.agg],by simp [zmk,SV.size,yc]⟩,⟨_,Go.Proofs.Tryz.underlying68⟩,fun h=>by cases h⟩
def zmn:TyI:=⟨(.struct [(0,3),(1,68)]),2,16,(.agg [.int 0,.nilptr]),true⟩
theorem zhv:yt prog 70 zmn:=⟨⟨_,yf Go.Proofs.Tryz.typeInfo70,rfl,rfl,fun _=>rfl⟩,⟨by simp [zmn,SV.ok,okL],by simp [zmn,Ty.agg],by simp [zmn,SV.size,yc]⟩,⟨_,Go.Proofs.Tryz.underlying70,rfl,by decide⟩,fun _=>⟨by decide+kernel,Go.Proofs.Tryz.eqGuardType70⟩⟩
def zx0:TyI:=⟨(.struct [(0,70),(2,68),(3,9),(4,3)]),5,48,(.agg [.int 0,.nilptr,.nilptr,.str [],.int 0]),true⟩
theorem yb8:yt prog 74 zx0:=⟨⟨_,yf Go.Proofs.Tryz.typeInfo74,rfl,rfl,fun _=>rfl⟩,⟨by simp [zx0,SV.ok,okL],by simp [zx0,Ty.agg],by simp [zx0,SV.size,yc]⟩,⟨_,Go.Proofs.Tryz.underlying74,rfl,by decide⟩,fun _=>⟨by decide+kernel,Go.Proofs.Tryz.eqGuardType74⟩⟩
def zvd:TyI:=⟨(.struct [(0,3),(1,9),(2,9),(3,3),(4,4)]),5,56,(.agg [.int 0,.str [],.str [],.int 0,.bool false]),true⟩
theorem z11:yt prog 76 zvd:=⟨⟨_,yf Go.Proofs.Tryz.typeInfo76,rfl,rfl,fun _=>rfl⟩,⟨by simp [zvd,SV.ok,okL],by simp [zvd,Ty.agg],by simp [zvd,SV.size,yc]⟩,⟨_,Go.Proofs.Tryz.underlying76,rfl,by decide⟩,fun _=>⟨by decide+kernel,Go.Proofs.Tryz.eqGuardType76⟩⟩
def zs0:TyI:=⟨(.struct [(0,3),(1,3),(2,76),(7,76),(12,9),(13,3)]),14,152,(.agg [.int 0,.int 0,.int 0,.str [],.str [],.int 0,.bool false,.int 0,.str [],.str [],.int 0,.bool false,.str [],.int 0]),true⟩
theorem zui:yt prog 78 zs0:=⟨⟨_,yf Go.Proofs.Tryz.typeInfo78,rfl,rfl,fun _=>rfl⟩,⟨by simp [zs0,SV.ok,okL],by simp [zs0,Ty.agg],by simp [zs0,SV.size,yc]⟩,⟨_,Go.Proofs.Tryz.underlying78,rfl,by decide⟩,fun _=>⟨by decide+kernel,Go.Proofs.Tryz.eqGuardType78⟩⟩
def zmm:TyI:=⟨.ptr,1,8,(.nilptr),false⟩
theorem zhy:yt prog 93 zmm:=⟨⟨_,yf Go.Proofs.Tryz.typeInfo93,rfl,rfl,fun _=>rfl⟩,⟨by simp [zmm,SV.ok,okL],by simp [zmm,Ty.agg],by simp [zmm,SV.size,yc]⟩,⟨_,Go.Proofs.Tryz.underlying93⟩,fun h=>by cases h⟩
def zqc:TyI:=⟨(.struct [(0,70),(2,68),(3,93),(4,3)]),5,40,(.agg [.int 0,.nilptr,.nilptr,.nilptr,.int 0]),true⟩
theorem zj3:yt prog 97 zqc:=⟨⟨_,yf Go.Proofs.Tryz.typeInfo97,rfl,rfl,fun _=>rfl⟩,⟨by simp [zqc,SV.ok,okL],by simp [zqc,Ty.agg],by simp [zqc,SV.size,yc]⟩,⟨_,Go.Proofs.Tryz.underlying97,rfl,by decide⟩,fun _=>⟨by decide+kernel,Go.Proofs.Tryz.eqGuardType97⟩⟩
def xj:TyI:=⟨(.int .u64),1,8,(.u64 0),false⟩
theorem za6:yt prog 99 xj:=⟨⟨_,yf Go.Proofs.Tryz.typeInfo99,rfl,rfl,fun _=>rfl⟩,⟨by simp [xj,SV.ok,okL],by simp [xj,Ty.agg],by simp [xj,SV.size,yc]⟩,Go.Proofs.Tryz.underlying99,fun h=>by cases h⟩
def zgc:TyI:=⟨(.struct [(0,3),(1,9),(2,9),(3,3)]),4,48,(.agg [.int 0,.str [],.str [],.int 0]),true⟩
theorem ze7:yt prog 103 zgc:=⟨⟨_,yf Go.Proofs.Tryz.typeInfo103,rfl,rfl,fun _=>rfl⟩,⟨by simp [zgc,SV.ok,okL],by simp [zgc,Ty.agg],by simp [zgc,SV.size,yc]⟩,⟨_,Go.Proofs.Tryz.underlying103,rfl,by decide⟩,fun _=>⟨by decide+kernel,Go.Proofs.Tryz.eqGuardType103⟩⟩
def zgh:TyI:=⟨.ptr,1,8,(.nilptr),false⟩
theorem zfh:yt prog 104 zgh:=⟨⟨_,yf Go.Proofs.Tryz.typeInfo104,rfl,rfl,fun _=>rfl⟩,⟨by simp [zgh,SV.ok,okL],by simp [zgh,Ty.agg],by simp [zgh,SV.size,yc]⟩,⟨_,Go.Proofs.Tryz.underlying104⟩,fun h=>by cases h⟩
def xw:TyI:=⟨(.int .u32),1,4,(.u32 0),false⟩
theorem zai:yt prog 113 xw:=⟨⟨_,yf Go.Proofs.Tryz.typeInfo113,rfl,rfl,fun _=>rfl⟩,⟨by simp [xw,SV.ok,okL],by simp [xw,Ty.agg],by simp [xw,SV.size,yc]⟩,Go.Proofs.Tryz.underlying113,fun h=>by cases h⟩
def zpr:TyI:=⟨(.sl 148),1,24,(.nilsl),false⟩
theorem z68:yt prog 116 zpr:=⟨⟨_,yf Go.Proofs.Tryz.typeInfo116,rfl,rfl,fun _=>rfl⟩,⟨by simp [zpr,SV.ok,okL],by simp [zpr,Ty.agg],by simp [zpr,SV.size,yc]⟩,Go.Proofs.Tryz.underlying116,fun h=>by cases h⟩
def zf8:TyI:=⟨(.struct [(0,51),(1,3),(2,3)]),3,40,(.agg [.nilsl,.int 0,.int 0]),false⟩
theorem ze3:yt prog 121 zf8:=⟨⟨_,yf Go.Proofs.Tryz.typeInfo121,rfl,rfl,fun _=>rfl⟩,⟨by simp [zf8,SV.ok,okL],by simp [zf8,Ty.agg],by simp [zf8,SV.size,yc]⟩,⟨_,Go.Proofs.Tryz.underlying121,rfl,by decide⟩,fun h=>by cases h⟩
def zox:TyI:=⟨(.struct [(0,51),(1,51)]),2,48,(.agg [.nilsl,.nilsl]),false⟩
theorem z4k:yt prog 132 zox:=⟨⟨_,yf Go.Proofs.Tryz.typeInfo132,rfl,rfl,fun _=>rfl⟩,⟨by simp [zox,SV.ok,okL],by simp [zox,Ty.agg],by simp [zox,SV.size,yc]⟩,⟨_,Go.Proofs.Tryz.underlying132,rfl,by decide⟩,fun h=>by cases h⟩
def zl3:TyI:=⟨.ptr,1,8,(.nilptr),false⟩
theorem zv5:yt prog 134 zl3:=⟨⟨_,yf Go.Proofs.Tryz.typeInfo134,rfl,rfl,fun _=>rfl⟩,⟨by simp [zl3,SV.ok,okL],by simp [zl3,Ty.agg],by simp [zl3,SV.size,yc]⟩,⟨_,Go.Proofs.Tryz.underlying134⟩,fun h=>by cases h⟩
def zpn:TyI:=⟨(.struct [(0,9),(1,9),(2,134)]),3,40,(.agg [.str [],.str [],.nilptr]),true⟩
theorem z6e:yt prog 136 zpn:=⟨⟨_,yf Go.Proofs.Tryz.typeInfo136,rfl,rfl,fun _=>rfl⟩,⟨by simp [zpn,SV.ok,okL],by simp [zpn,Ty.agg],by simp [zpn,SV.size,yc]⟩,⟨_,Go.Proofs.Tryz.underlying136,rfl,by decide⟩,fun _=>⟨by decide+kernel,Go.Proofs.Tryz.eqGuardType136⟩⟩
def zp3:TyI:=⟨.func,1,8,(.nilfn),false⟩
theorem z9y:yt prog 143 zp3:=⟨⟨_,yf Go.Proofs.Tryz.typeInfo143,rfl,rfl,fun _=>rfl⟩,⟨by simp [zp3,SV.ok,okL],by simp [zp3,Ty.agg],by simp [zp3,SV.size,yc]⟩,⟨_,_,_,Go.Proofs.Tryz.underlying143⟩,fun h=>by cases h⟩
def zbu:TyI:=⟨(.arr 4 5),4,4,(.arr8 4 [0,0,0,0]),true⟩
theorem z7i:yt prog 148 zbu:=⟨⟨_,yf Go.Proofs.Tryz.typeInfo148,rfl,rfl,fun _=>rfl⟩,⟨by simp [zbu,SV.ok,okL],by simp [zbu,Ty.agg],by simp [zbu,SV.size,yc]⟩,Go.Proofs.Tryz.underlying148,fun _=>⟨by decide+kernel,Go.Proofs.Tryz.eqGuardType148⟩⟩
def zo1:TyI:=⟨(.arr 16 113),16,64,(.arr32 16 (List.replicate 16 0)),true⟩
theorem z4b:yt prog 164 zo1:=⟨⟨_,yf Go.Proofs.Tryz.typeInfo164,rfl,rfl,fun _=>rfl⟩,⟨by simp [zo1,SV.ok,okL],by simp [zo1,Ty.agg],by simp [zo1,SV.size,yc]⟩,Go.Proofs.Tryz.underlying164,fun _=>⟨by decide+kernel,Go.Proofs.Tryz.eqGuardType164⟩⟩
def zo3:TyI:=⟨(.arr 5 99),5,40,(.arr64 5 [0,0,0,0,0]),true⟩
theorem z9j:yt prog 167 zo3:=⟨⟨_,yf Go.Proofs.Tryz.typeInfo167,rfl,rfl,fun _=>rfl⟩,⟨by simp [zo3,SV.ok,okL],by simp [zo3,Ty.agg],by simp [zo3,SV.size,yc]⟩,Go.Proofs.Tryz.underlying167,fun _=>⟨by decide+kernel,Go.Proofs.Tryz.eqGuardType167⟩⟩
def zif:TyI:=⟨(.arr 16 5),16,16,(.arr8 16 (List.replicate 16 0)),true⟩
theorem zkd:yt prog 168 zif:=⟨⟨_,yf Go.Proofs.Tryz.typeInfo168,rfl,rfl,fun _=>rfl⟩,⟨by simp [zif,SV.ok,okL],by simp [zif,Ty.agg],by simp [zif,SV.size,yc]⟩,Go.Proofs.Tryz.underlying168,fun _=>⟨by decide+kernel,Go.Proofs.Tryz.eqGuardType168⟩⟩
def zj2:TyI:=⟨.ptr,1,8,(.nilptr),false⟩
theorem zob:yt prog 178 zj2:=⟨⟨_,yf Go.Proofs.Tryz.typeInfo178,rfl,rfl,fun _=>rfl⟩,⟨by simp [zj2,SV.ok,okL],by simp [zj2,Ty.agg],by simp [zj2,SV.size,yc]⟩,⟨_,Go.Proofs.Tryz.underlying178⟩,fun h=>by cases h⟩
def zer:TyI:=⟨(.struct [(0,99),(1,99)]),2,16,(.agg [.u64 0,.u64 0]),true⟩
theorem zwy:yt prog 183 zer:=⟨⟨_,yf Go.Proofs.Tryz.typeInfo183,rfl,rfl,fun _=>rfl⟩,⟨by simp [zer,SV.ok,okL],by simp [zer,Ty.agg],by simp [zer,SV.size,yc]⟩,⟨_,Go.Proofs.Tryz.underlying183,rfl,by decide⟩,fun _=>⟨by decide+kernel,Go.Proofs.Tryz.eqGuardType183⟩⟩
def zmf:TyI:=⟨(.struct [(0,178),(1,183)]),3,24,(.agg [.nilptr,.u64 0,.u64 0]),true⟩
theorem zw0:yt prog 186 zmf:=⟨⟨_,yf Go.Proofs.Tryz.typeInfo186,rfl,rfl,fun _=>rfl⟩,⟨by simp [zmf,SV.ok,okL],by simp [zmf,Ty.agg],by simp [zmf,SV.size,yc]⟩,⟨_,Go.Proofs.Tryz.underlying186,rfl,by decide⟩,fun _=>⟨by decide+kernel,Go.Proofs.Tryz.eqGuardType186⟩⟩
def znr:TyI:=⟨(.arr 64 5),64,64,(.arr8 64 (List.replicate 64 0)),true⟩
theorem z87:yt prog 187 znr:=⟨⟨_,yf Go.Proofs.Tryz.typeInfo187,rfl,rfl,fun _=>rfl⟩,⟨by simp [znr,SV.ok,okL],by simp [znr,Ty.agg],by simp [znr,SV.size,yc]⟩,Go.Proofs.Tryz.underlying187,fun _=>⟨by decide+kernel,Go.Proofs.Tryz.eqGuardType187⟩⟩
def zn3:TyI:=⟨(.arr 16 113),16,64,(.arr32 16 (List.replicate 16 0)),true⟩
theorem z6t:yt prog 188 zn3:=⟨⟨_,yf Go.Proofs.Tryz.typeInfo188,rfl,rfl,fun _=>rfl⟩,⟨by simp [zn3,SV.ok,okL],by simp [zn3,Ty.agg],by simp [zn3,SV.size,yc]⟩,Go.Proofs.Tryz.underlying188,fun _=>⟨by decide+kernel,Go.Proofs.Tryz.eqGuardType188⟩⟩
def zo0:TyI:=⟨.ptr,1,8,(.nilptr),false⟩
theorem z5u:yt prog 193 zo0:=⟨⟨_,yf Go.Proofs.Tryz.typeInfo193,rfl,rfl,fun _=>rfl⟩,⟨by simp [zo0,SV.ok,okL],by simp [zo0,Ty.agg],by simp [zo0,SV.size,yc]⟩,⟨_,Go.Proofs.Tryz.underlying193⟩,fun h=>by cases h⟩
def zo6:TyI:=⟨.ptr,1,8,(.nilptr),false⟩
theorem z9e:yt prog 195 zo6:=⟨⟨_,yf Go.Proofs.Tryz.typeInfo195,rfl,rfl,fun _=>rfl⟩,⟨by simp [zo6,SV.ok,okL],by simp [zo6,Ty.agg],by simp [zo6,SV.size,yc]⟩,⟨_,Go.Proofs.Tryz.underlying195⟩,fun h=>by cases h⟩
def zn7:TyI:=⟨(.arr 16 183),32,256,(.arr64 32 (List.replicate 32 0)),true⟩
theorem z9w:yt prog 198 zn7:=⟨⟨_,yf Go.Proofs.Tryz.typeInfo198,rfl,rfl,fun _=>rfl⟩,⟨by simp [zn7,SV.ok,okL],by simp [zn7,Ty.agg],by simp [zn7,SV.size,yc]⟩,Go.Proofs.Tryz.underlying198,fun _=>⟨by decide+kernel,Go.Proofs.Tryz.eqGuardType198⟩⟩
def zp6:TyI:=⟨(.arr 16 99),16,128,(.arr64 16 (List.replicate 16 0)),true⟩
theorem z5m:yt prog 199 zp6:=⟨⟨_,yf Go.Proofs.Tryz.typeInfo199,rfl,rfl,fun _=>rfl⟩,⟨by simp [zp6,SV.ok,okL],by simp [zp6,Ty.agg],by simp [zp6,SV.size,yc]⟩,Go.Proofs.Tryz.underlying199,fun _=>⟨by decide+kernel,Go.Proofs.Tryz.eqGuardType199⟩⟩
def zou:TyI:=⟨(.struct [(0,198),(32,199),(48,183)]),50,400,(.agg [.arr64 32 (List.replicate 32 0),.arr64 16 (List.replicate 16 0),.u64 0,.u64 0]),true⟩
theorem z4d:yt prog 201 zou:=⟨⟨_,yf Go.Proofs.Tryz.typeInfo201,rfl,rfl,fun _=>rfl⟩,⟨by simp [zou,SV.ok,okL],by simp [zou,Ty.agg],by simp [zou,SV.size,yc]⟩,⟨_,Go.Proofs.Tryz.underlying201,rfl,by decide⟩,fun _=>⟨by decide+kernel,Go.Proofs.Tryz.eqGuardType201⟩⟩
def zl7:TyI:=⟨.ptr,1,8,(.nilptr),false⟩
theorem zu1:yt prog 207 zl7:=⟨⟨_,yf Go.Proofs.Tryz.typeInfo207,rfl,rfl,fun _=>rfl⟩,⟨by simp [zl7,SV.ok,okL],by simp [zl7,Ty.agg],by simp [zl7,SV.size,yc]⟩,⟨_,Go.Proofs.Tryz.underlying207⟩,fun h=>by cases h⟩
def zpx:TyI:=⟨(.struct [(0,207),(1,207)]),2,16,(.agg [.nilptr,.nilptr]),true⟩
theorem z8j:yt prog 209 zpx:=⟨⟨_,yf Go.Proofs.Tryz.typeInfo209,rfl,rfl,fun _=>rfl⟩,⟨by simp [zpx,SV.ok,okL],by simp [zpx,Ty.agg],by simp [zpx,SV.size,yc]⟩,⟨_,Go.Proofs.Tryz.underlying209,rfl,by decide⟩,fun _=>⟨by decide+kernel,Go.Proofs.Tryz.eqGuardType209⟩⟩
def zki:TyI:=⟨(.arr 256 5),256,256,(.arr8 256 (List.replicate 256 0)),true⟩
theorem znm:yt prog 212 zki:=⟨⟨_,yf Go.Proofs.Tryz.typeInfo212,rfl,rfl,fun _=>rfl⟩,⟨by simp [zki,SV.ok,okL],by simp [zki,Ty.agg],by simp [zki,SV.size,yc]⟩,Go.Proofs.Tryz.underlying212,fun _=>⟨by decide+kernel,Go.Proofs.Tryz.eqGuardType212⟩⟩
def zju:TyI:=⟨(.sl 168),1,24,(.nilsl),false⟩
theorem zon:yt prog 214 zju:=⟨⟨_,yf Go.Proofs.Tryz.typeInfo214,rfl,rfl,fun _=>rfl⟩,⟨by simp [zju,SV.ok,okL],by simp [zju,Ty.agg],by simp [zju,SV.size,yc]⟩,Go.Proofs.Tryz.underlying214,fun h=>by cases h⟩
def zjl:TyI:=⟨(.struct [(0,212),(256,214)]),257,280,(.agg [.arr8 256 (List.replicate 256 0),.nilsl]),false⟩
theorem zp0:yt prog 216 zjl:=⟨⟨_,yf Go.Proofs.Tryz.typeInfo216,rfl,rfl,fun _=>rfl⟩,⟨by simp [zjl,SV.ok,okL],by simp [zjl,Ty.agg],by simp [zjl,SV.size,yc]⟩,⟨_,Go.Proofs.Tryz.underlying216,rfl,by decide⟩,fun h=>by cases h⟩
def zoi:TyI:=⟨(.arr 5 99),5,40,(.arr64 5 [0,0,0,0,0]),true⟩
theorem z5y:yt prog 220 zoi:=⟨⟨_,yf Go.Proofs.Tryz.typeInfo220,rfl,rfl,fun _=>rfl⟩,⟨by simp [zoi,SV.ok,okL],by simp [zoi,Ty.agg],by simp [zoi,SV.size,yc]⟩,Go.Proofs.Tryz.underlying220,fun _=>⟨by decide+kernel,Go.Proofs.Tryz.eqGuardType220⟩⟩
def znl:TyI:=⟨(.struct [(0,220),(5,220)]),10,80,(.agg [.arr64 5 [0,0,0,0,0],.arr64 5 [0,0,0,0,0]]),true⟩
theorem z7p:yt prog 223 znl:=⟨⟨_,yf Go.Proofs.Tryz.typeInfo223,rfl,rfl,fun _=>rfl⟩,⟨by simp [znl,SV.ok,okL],by simp [znl,Ty.agg],by simp [znl,SV.size,yc]⟩,⟨_,Go.Proofs.Tryz.underlying223,rfl,by decide⟩,fun _=>⟨by decide+kernel,Go.Proofs.Tryz.eqGuardType223⟩⟩
def znq:TyI:=⟨.ptr,1,8,(.nilptr),false⟩
theorem z6y:yt prog 235 znq:=⟨⟨_,yf Go.Proofs.Tryz.typeInfo235,rfl,rfl,fun _=>rfl⟩,⟨by simp [znq,SV.ok,okL],by simp [znq,Ty.agg],by simp [znq,SV.size,yc]⟩,⟨_,Go.Proofs.Tryz.underlying235⟩,fun h=>by cases h⟩
def zni:TyI:=⟨(.arr 3 99),3,24,(.arr64 3 [0,0,0]),true⟩
theorem z9m:yt prog 236 zni:=⟨⟨_,yf Go.Proofs.Tryz.typeInfo236,rfl,rfl,fun _=>rfl⟩,⟨by simp [zni,SV.ok,okL],by simp [zni,Ty.agg],by simp [zni,SV.size,yc]⟩,Go.Proofs.Tryz.underlying236,fun _=>⟨by decide+kernel,Go.Proofs.Tryz.eqGuardType236⟩⟩
def zqe:TyI:=⟨.ptr,1,8,(.nilptr),false⟩
theorem z9f:yt prog 238 zqe:=⟨⟨_,yf Go.Proofs.Tryz.typeInfo238,rfl,rfl,fun _=>rfl⟩,⟨by simp [zqe,SV.ok,okL],by simp [zqe,Ty.agg],by simp [zqe,SV.size,yc]⟩,⟨_,Go.Proofs.Tryz.underlying238⟩,fun h=>by cases h⟩
def zmj:TyI:=⟨(.arr 8 113),8,32,(.arr32 8 [0,0,0,0,0,0,0,0]),true⟩
theorem zu4:yt prog 239 zmj:=⟨⟨_,yf Go.Proofs.Tryz.typeInfo239,rfl,rfl,fun _=>rfl⟩,⟨by simp [zmj,SV.ok,okL],by simp [zmj,Ty.agg],by simp [zmj,SV.size,yc]⟩,Go.Proofs.Tryz.underlying239,fun _=>⟨by decide+kernel,Go.Proofs.Tryz.eqGuardType239⟩⟩
def zl2:TyI:=⟨(.arr 8 99),8,64,(.arr64 8 [0,0,0,0,0,0,0,0]),true⟩
theorem zwb:yt prog 242 zl2:=⟨⟨_,yf Go.Proofs.Tryz.typeInfo242,rfl,rfl,fun _=>rfl⟩,⟨by simp [zl2,SV.ok,okL],by simp [zl2,Ty.agg],by simp [zl2,SV.size,yc]⟩,Go.Proofs.Tryz.underlying242,fun _=>⟨by decide+kernel,Go.Proofs.Tryz.eqGuardType242⟩⟩
def zma:TyI:=⟨(.arr 80 99),80,640,(.arr64 80 (List.replicate 80 0)),true⟩
theorem zu7:yt prog 245 zma:=⟨⟨_,yf Go.Proofs.Tryz.typeInfo245,rfl,rfl,fun _=>rfl⟩,⟨by simp [zma,SV.ok,okL],by simp [zma,Ty.agg],by simp [zma,SV.size,yc]⟩,Go.Proofs.Tryz.underlying245,fun _=>⟨by decide+kernel,Go.Proofs.Tryz.eqGuardType245⟩⟩
def zl4:TyI:=⟨(.struct [(0,3),(1,242),(9,245),(89,51),(90,99)]),91,744,(.agg [.int 0,.arr64 8 [0,0,0,0,0,0,0,0],.arr64 80 (List.replicate 80 0),.nilsl,.u64 0]),false⟩
theorem zu8:yt prog 248 zl4:=⟨⟨_,yf Go.Proofs.Tryz.typeInfo248,rfl,rfl,fun _=>rfl⟩,⟨by simp [zl4,SV.ok,okL],by simp [zl4,Ty.agg],by simp [zl4,SV.size,yc]⟩,⟨_,Go.Proofs.Tryz.underlying248,rfl,by decide⟩,fun h=>by cases h⟩
def zmi:TyI:=⟨(.arr 64 113),64,256,(.arr32 64 (List.replicate 64 0)),true⟩
theorem zvr:yt prog 249 zmi:=⟨⟨_,yf Go.Proofs.Tryz.typeInfo249,rfl,rfl,fun _=>rfl⟩,⟨by simp [zmi,SV.ok,okL],by simp [zmi,Ty.agg],by simp [zmi,SV.size,yc]⟩,Go.Proofs.Tryz.underlying249,fun _=>⟨by decide+kernel,Go.Proofs.Tryz.eqGuardType249⟩⟩
theorem z9k:ty3.sz=1∧ty3.bytes=8∧ty4.sz=1∧ty4.bytes=1∧ty5.sz=1∧ty5.bytes=1∧ty9.sz=1∧ty9.bytes=16∧zyb.sz=1∧zyb.bytes=8∧zuk.sz=1∧zuk.bytes=8∧zlv.sz=2∧zlv.bytes=24∧zd6.sz=1∧zd6.bytes=8∧zeb.sz=1∧zeb.bytes=24∧zpa.sz=1∧zpa.bytes=8∧zy3.sz=1∧zy3.bytes=24∧zo5.sz=6∧zo5.bytes=64∧zmk.sz=1∧zmk.bytes=8∧zmn.sz=2∧zmn.bytes=16∧zx0.sz=5∧zx0.bytes=48∧zvd.sz=5∧zvd.bytes=56∧zs0.sz=14∧zs0.bytes=152∧zmm.sz=1∧zmm.bytes=8∧zqc.sz=5∧zqc.bytes=40∧xj.sz=1∧xj.bytes=8∧zgc.sz=4∧zgc.bytes=48∧zgh.sz=1∧zgh.bytes=8∧xw.sz=1∧xw.bytes=4∧zpr.sz=1∧zpr.bytes=24∧zf8.sz=3∧zf8.bytes=40∧zox.sz=2∧zox.bytes=48∧zl3.sz=1∧zl3.bytes=8∧zpn.sz=3∧zpn.bytes=40∧zp3.sz=1∧zp3.bytes=8∧zbu.sz=4∧zbu.bytes=4∧zo1.sz=16∧zo1.bytes=64∧zo3.sz=5∧zo3.bytes=40∧zif.sz=16∧zif.bytes=16∧zj2.sz=1∧zj2.bytes=8∧zer.sz=2∧zer.bytes=16∧zmf.sz=3∧zmf.bytes=24∧znr.sz=64∧znr.bytes=64∧zn3.sz=16∧zn3.bytes=64∧zo0.sz=1∧zo0.bytes=8∧zo6.sz=1∧zo6.bytes=8∧zn7.sz=32∧zn7.bytes=256∧zp6.sz=16∧zp6.bytes=128∧zou.sz=50∧zou.bytes=400∧zl7.sz=1∧zl7.bytes=8∧zpx.sz=2∧zpx.bytes=16∧zki.sz=256∧zki.bytes=256∧zju.sz=1∧zju.bytes=24∧zjl.sz=257∧zjl.bytes=280∧zoi.sz=5∧zoi.bytes=40∧znl.sz=10∧znl.bytes=80∧znq.sz=1∧znq.bytes=8∧zni.sz=3∧zni.bytes=24∧zqe.sz=1∧zqe.bytes=8∧zmj.sz=8∧zmj.bytes=32∧zl2.sz=8∧zl2.bytes=64∧zma.sz=80∧zma.bytes=640∧zl4.sz=91∧zl4.bytes=744∧zmi.sz=64∧zmi.bytes=256:=by
  refine ⟨rfl,rfl,rfl,rfl,rfl,rfl,rfl,rfl,rfl,rfl,rfl,rfl,rfl,rfl,rfl,rfl,rfl,rfl,rfl,rfl,rfl,rfl,rfl,rfl,rfl,rfl,rfl,rfl,rfl,rfl,rfl,rfl,rfl,rfl,rfl,rfl,rfl,rfl,rfl,rfl,rfl,rfl,rfl,rfl,rfl,rfl,rfl,rfl,rfl,rfl,rfl,rfl,rfl,rfl,rfl,rfl,rfl,rfl,rfl,rfl,rfl,rfl,rfl,rfl,rfl,rfl,rfl,rfl,rfl,rfl,rfl,rfl,rfl,rfl,rfl,rfl,rfl,rfl,rfl,rfl,rfl,rfl,rfl,rfl,rfl,rfl,rfl,rfl,rfl,rfl,rfl,rfl,rfl,rfl,rfl,rfl,rfl,rfl,rfl,rfl,rfl,rfl,rfl,rfl,rfl,rfl,rfl,rfl,rfl,rfl,rfl,rfl,rfl,rfl,rfl,rfl⟩
theorem ybx:(∀{α:Type} {x y:List α},(x++y).length=x.length+y.length)∧(∀{α:Type} {i:Nat} {l:List α},(List.take i l).length=min i l.length)∧(∀{α:Type} {i:Nat} {l:List α},(List.drop i l).length=l.length-i)∧(∀{α:Type},([]:List α).length=0)∧(∀{α:Type} {a:α} {l:List α},(a ::l).length=l.length+1)∧(∀{α:Type} {n:Nat} {a:α},(List.replicate n a).length=n)∧(∀{α:Type} {l:List α} {i:Nat} {a:α},(l.set i a).length=l.length):=
  ⟨List.length_append,List.length_take,List.length_drop,List.length_nil,List.length_cons,List.length_replicate,List.length_set⟩
theorem zno (o:List (Nat×Nat)) (i e:Nat):off (yb o i e)=off o+i*e:=zy o i e
theorem pk {a:Array Oper} {b:Ctx} {c:List PStep} (h:zk5 a b c=true):zk5 a b c=true:=h
theorem zu {p k:Prop} (h:k) (hp:p:=by first|assumption|omega|exact pk (by kernel_rfl)|(unfold ya;omega)|exact UInt8.toNat_lt _|decide+kernel|(constructor<;>first|assumption|omega)|(simp only [z9k,zno,off,zib]<;>omega)|(simp only [z9k,zno,ybx,off,zib]<;>omega)|(constructor<;>first|assumption|(simp only [z9k,zno,ybx,off,zib]<;>omega))):Pre p k:=zr hp h
theorem zg {t:Bool} {a b:Prop} (h:a) (e:t=true:=by first|rfl|assumption|(rw [decide_eq_true_eq];omega)|(simp<;>omega)):ye t a b:=zj e h
theorem zh {t:Bool} {a b:Prop} (h:b) (e:t=false:=by first|rfl|assumption|(rw [decide_eq_false_iff_not];omega)|(simp<;>omega)):ye t a b:=zk e h
structure Hid (Q:Prop):Prop where
  out:Q
theorem za {P Q:Prop} (h:Q) (w:Hid Q→P:=by
    intro h
    repeat ((conv=>whnf);first|refine zu ?_|refine zb ?_|refine zg ?_|refine zh ?_)
    conv=>whnf
    exact h.out):P:=w ⟨h⟩
theorem zn {p:Prop} (h:p:=by
    repeat ((conv=>whnf);refine zb ?_)
    exact trivial):p:=h
theorem zo {v u:SV} {p:Prop} (e:v=u) (h:p:=by
    repeat ((conv=>whnf);refine zb ?_)
    exact trivial):zqv v u p:=by subst e;exact zb h
theorem zf {n0:Nat} {r r':SV} {hp hp':List Blk} {K:SV→List Blk→Prop} (gl:List Nat) (hk:K r' hp') (h:zdp n0 gl [(0,r)] hp [(0,r')] hp' True:=by
    repeat ((conv=>whnf);refine zb ?_)
    exact trivial):zb7 n0 r hp K:=yu gl hk h
end Go.Sym.Z

namespace Go.Sym.Aes
open Go.Sym.Lp
def tw (x:UInt8):UInt8:=(x<<<(1:UInt8))^^^((27:UInt8)&&&((0:UInt8)-(x>>>(7:UInt8))))
def rl8 (x:UInt8) (n:Nat):UInt8:=x<<<UInt8.ofNat n|||x>>>UInt8.ofNat (8-n)
def q1 (q:UInt8):UInt8:=q^^^q<<<1
def q2 (q:UInt8):UInt8:=q1 q^^^q1 q<<<2
def q3 (q:UInt8):UInt8:=q2 q^^^q2 q<<<4
def q4 (q:UInt8):UInt8:=q3 q^^^((9:UInt8)&&&((0:UInt8)-(q3 q>>>(7:UInt8))))
def pq:Nat→UInt8×UInt8
  |0=>(1,1)
  |i+1=>((pq i).1^^^tw (pq i).1,q4 (pq i).2)
def sb (q:UInt8):UInt8:=99^^^q^^^rl8 q 1^^^rl8 q 2^^^rl8 q 3^^^rl8 q 4
def zrn:Nat→List UInt8
  |0=>99 ::List.replicate 255 0
  |i+1=>(zrn i).set (pq (i+1)).1.toNat (sb (pq (i+1)).2)
set_option maxRecDepth 100000
theorem zrp: ∀i,(zrn i).length=256
  |0=>rfl
  |i+1=>by simp only [zrn,List.length_set];exact zrp i
def box:List UInt8:= [99,124,119,123,242,107,111,197,48,1,103,43,254,215,171,118,202,130,201,125,250,89,71,240,173,212,162,175,156,164,114,192,183,253,147,38,54,63,247,204,52,165,229,241,113,216,49,21,4,199,35,195,24,150,5,154,7,18,128,226,235,39,178,117,9,131,44,26,27,110,90,160,82,59,214,179,41,227,47,132,83,209,0,237,32,252,177,91,106,203,190,57,74,76,88,207,208,239,170,251,67,77,51,133,69,249,2,127,80,60,159,168,81,163,64,143,146,157,56,245,188,182,218,33,16,255,243,210,205,12,19,236,95,151,68,23,196,167,126,61,100,93,25,115,96,129,79,220,34,42,144,136,70,238,184,20,222,94,11,219,224,50,58,10,73,6,36,92,194,211,172,98,145,149,228,121,231,200,55,109,141,213,78,169,108,86,244,234,101,122,174,8,186,120,37,46,28,166,180,198,232,221,116,31,75,189,139,138,112,62,181,102,72,3,246,14,97,53,87,185,134,193,29,158,225,248,152,17,105,217,142,148,155,30,135,233,206,85,40,223,140,161,137,13,191,230,66,104,65,153,45,15,176,84,187,22]
theorem ydt: ∀i,i<255→((pq (i+1)).1=1↔i+1=255):=by decide+kernel
theorem ya2:zrn 255=box:=by decide+kernel
end Go.Sym.Aes
namespace Go.Sym.Aes
open Go.Sym.Lp
def rc:Nat→UInt8
  |0=>1
  |k+1=>tw (rc k)
def x4 (n i:Nat) (t:List UInt8):List UInt8:=
  if i%n=0 then [box.getD (t.getD 1 0).toNat 0^^^rc ((i-1)/ n),box.getD (t.getD 2 0).toNat 0,box.getD (t.getD 3 0).toNat 0,box.getD (t.getD 0 0).toNat 0]
  else if n=8∧i%n=4 then (List.range 4).map fun k=>box.getD (t.getD k 0).toNat 0 else t
def xl (key:List UInt8) (n i:Nat) (W:List UInt8):List UInt8:=
  if i<n then (key.drop (4*i)).take 4
  else (List.range 4).map fun k=>W.getD (4*(i-n)+k) 0^^^(x4 n i ((W.drop (4*(i-1))).take 4)).getD k 0
def ks (key:List UInt8) (n:Nat):Nat→List UInt8
  |0=> []
  |i+1=>ks key n i++xl key n i (ks key n i)
theorem zcv {key:List UInt8} {n i:Nat} (hk:key.length=4*n) (W:List UInt8):(xl key n i W).length=4:=by
  unfold xl
  split
  ·rw [List.length_take,List.length_drop];omega
  ·simp
theorem zbm {key:List UInt8} {n:Nat} (hk:key.length=4*n): ∀i,(ks key n i).length=4*i
  |0=>rfl
  |i+1=>by simp only [ks,List.length_append,zbm hk i,zcv hk];omega
end Go.Sym.Aes
namespace Go.Sym.Aes
open Go.Sym.Lp
def kw (key:List UInt8) (n N i:Nat):List UInt8:=ks key n i++List.replicate (N-4*i) 0
section
variable {key:List UInt8} {n N i:Nat} (hk:key.length=4*n)
include hk
theorem z42 (h:4*i≤N):(kw key n N i).length=N:=by
  unfold kw;rw [List.length_append,zbm hk,List.length_replicate];omega
theorem znk {j:Nat} (hj:j<4*i):(kw key n N i).getD j 0=(ks key n i).getD j 0:=by
  unfold kw
  rw [List.getD_eq_getElem?_getD,List.getElem?_append_left (by rw [zbm hk];exact hj),List.getD_eq_getElem?_getD]
theorem z7l {j:Nat} (hj:j+4≤4*i):((kw key n N i).drop j).take 4=((ks key n i).drop j).take 4:=by
  unfold kw
  rw [List.drop_append_of_le_length (by rw [zbm hk];omega),List.take_append_of_le_length (by rw [List.length_drop,zbm hk];omega)]
theorem z06 (h:4*i+4≤N) {v:List UInt8} (hv:v=xl key n i (ks key n i)):(kw key n N i).take (4*i)++v++(kw key n N i).drop (4*i+4)=kw key n N (i+1):=by
  have hl:=zbm hk i
  unfold kw
  subst hv
  rw [List.take_left' hl,List.drop_append,List.drop_eq_nil_of_le (by omega),List.nil_append,hl,List.drop_replicate,show N-4*i-(4*i+4-4*i)=N-4*(i+1) by omega]
  simp only [ks]
end
theorem z9p {key:List UInt8} {n N i:Nat} (h:N=4*i):kw key n N i=ks key n i:=by unfold kw;rw [h,Nat.sub_self];simp
theorem zna {n i:Nat} (hn:0<n) (hi:n≤i) (h:i%n=0):tw (rc ((i-1)/ n))=rc (i/ n):=by
  obtain ⟨c,rfl⟩:=Nat.dvd_of_mod_eq_zero h
  have hc:0<c:=by
    rcases Nat.eq_zero_or_pos c with rfl|h
    ·omega
    ·exact h
  obtain ⟨d,rfl⟩: ∃d,c=d+1:=⟨c-1,by omega⟩
  have e1:(n*(d+1)-1)/ n=d:=by
    rw [Nat.mul_succ,show n*d+n-1=n*d+(n-1) by omega,Nat.mul_add_div hn,Nat.div_eq_of_lt (show n-1<n by omega),Nat.add_zero]
  rw [e1,Nat.mul_div_cancel_left _ hn]
  rfl
theorem zhs {n i:Nat} (hn:0<n) (h: ¬i%n=0):(i-1)/ n=i/ n:=by
  have h1:=Nat.div_add_mod i n
  have h2:=Nat.mod_lt i hn
  have e:i-1=n*(i/ n)+(i%n-1):=by omega
  rw [e,Nat.mul_add_div hn,Nat.div_eq_of_lt (show i%n-1<n by omega),Nat.add_zero]
theorem zu9 {n i:Nat} (h:i<n):(i-1)/ n=i/ n:=by rw [Nat.div_eq_of_lt h,Nat.div_eq_of_lt (by omega)]
end Go.Sym.Aes
namespace Go.Sym.Aes
open Go.Sym.Lp
def kc (W:List UInt8) (i:Nat):List UInt8:=W.take (4*i)++List.replicate (W.length-4*i) 0
theorem z82 {W:List UInt8} {i:Nat} (h:4*i≤W.length):(kc W i).length=W.length:=by unfold kc;simp;omega
theorem zz3 (W:List UInt8):kc W 0=List.replicate W.length 0:=by unfold kc;simp
theorem z5j {W:List UInt8} {i:Nat} (h:W.length=4*i):kc W i=W:=by unfold kc;rw [h,Nat.sub_self,List.take_of_length_le (by omega)];simp
theorem yar {W:List UInt8} {i:Nat} (h:4*i+4≤W.length):(kc W i).take (4*i)++(W.drop (4*i)).take 4++(kc W i).drop (4*i+4)=kc W (i+1):=by
  unfold kc
  have hl:(W.take (4*i)).length=4*i:=by rw [List.length_take];omega
  have hd:List.drop (4*i+4) (W.take (4*i))= []:=List.drop_eq_nil_of_le (by omega)
  rw [List.take_left' hl,List.drop_append,hd,List.nil_append,hl,List.drop_replicate,show W.length-4*i-(4*i+4-4*i)=W.length-4*(i+1) by omega]
  congr 1
  rw [Nat.mul_succ,List.take_add]
theorem zby {n i:Nat} {t:List UInt8} (h:t.length=4):(x4 n i t).length=4:=by
  unfold x4;split
  ·rfl
  ·split
   ·simp
   ·exact h
end Go.Sym.Aes
namespace Go.Sym.Aes
theorem zmz:box.length=256:=by decide+kernel
theorem zdn (x:UInt8):x.toNat<box.length:=by rw [zmz];exact x.toNat_lt
end Go.Sym.Aes
namespace Go.Sym.Aes
open Go.Sym.Lp
def zqy (ks:List UInt8) (r:Nat) (x:List UInt8):List UInt8:=(List.range 16).map fun j=>x.getD j 0^^^ks.getD (16*r+j) 0
def xh (x:List UInt8):List UInt8:=(List.range 16).map fun i=>box.getD (x.getD ((i+4*(i%4))%16) 0).toNat 0
def ziq (t:List UInt8) (i:Nat):UInt8:=
  t.getD i 0^^^(t.getD (i/ 4*4) 0^^^t.getD (i/ 4*4+1) 0^^^t.getD (i/ 4*4+2) 0^^^t.getD (i/ 4*4+3) 0^^^tw (t.getD i 0^^^t.getD (i/ 4*4+(i+1)%4) 0))
def zgn (t:List UInt8):List UInt8:=(List.range 16).map (ziq t)
def rnd (ks:List UInt8) (R r:Nat) (x:List UInt8):List UInt8:=zqy ks r (if r<R-1 then zgn (xh x) else xh x)
def zb1 (ks:List UInt8) (R:Nat) (x:List UInt8):Nat→List UInt8
  |0=>zqy ks 0 x
  |r+1=>rnd ks R (r+1) (zb1 ks R x r)
def enc (ks:List UInt8) (R:Nat) (x:List UInt8):List UInt8:=zb1 ks R x (R-1)
theorem zu6 (ks:List UInt8) (r:Nat) (x:List UInt8):(zqy ks r x).length=16:=zz _ _
theorem zjc (x:List UInt8):(xh x).length=16:=zz _ _
theorem zvc (x:List UInt8):(zgn x).length=16:=zz _ _
theorem zhp (ks:List UInt8) (R:Nat) (x:List UInt8): ∀r,(zb1 ks R x r).length=16
  |0=>zu6 _ _ _
  |_+1=>zu6 _ _ _
theorem zh4 (ks:List UInt8) (R:Nat) (x:List UInt8):(enc ks R x).length=16:=zhp _ _ _ _
theorem z62 {T:List UInt8} {g:Nat→UInt8} {a:Nat} (h:a+4≤T.length) {u0 u1 u2 u3:UInt8}
    (h0:T.getD a 0^^^u0=g a) (h1:T.getD (a+1) 0^^^u1=g (a+1)) (h2:T.getD (a+2) 0^^^u2=g (a+2)) (h3:T.getD (a+3) 0^^^u3=g (a+3)) {X0 X1 X2 X3:List UInt8}
    (e0:X0=(ovr T 0 g a).set a ((ovr T 0 g a).getD a 0^^^u0)) (e1:X1=X0.set (a+1) (X0.getD (a+1) 0^^^u1)) (e2:X2=X1.set (a+2) (X1.getD (a+2) 0^^^u2)) (e3:X3=X2.set (a+3) (X2.getD (a+3) 0^^^u3)):
    X3=ovr T 0 g (a+4):=by
  have k0:X0=ovr T 0 g (a+1):=by
    rw [e0,yw (by omega) _ (by omega)]
    exact z9 (by omega) h0 (by omega)
  have k1:X1=ovr T 0 g (a+2):=by
    rw [e1,k0,yw (by omega) _ (by omega)]
    exact z9 (by omega) h1 (by omega)
  have k2:X2=ovr T 0 g (a+3):=by
    rw [e2,k1,yw (by omega) _ (by omega)]
    exact z9 (by omega) h2 (by omega)
  rw [e3,k2,yw (by omega) _ (by omega)]
  exact z9 (by omega) h3 (by omega)
end Go.Sym.Aes
namespace Go.Sym.Aes
open Go.Sym.Lp
theorem zho (T:List UInt8) (c j:Nat) (h:j<4):ziq T (4*c+j)=T.getD (4*c+j) 0^^^(T.getD (4*c) 0^^^T.getD (4*c+1) 0^^^T.getD (4*c+2) 0^^^T.getD (4*c+3) 0^^^tw (T.getD (4*c+j) 0^^^T.getD (4*c+(j+1)%4) 0)):=by
  unfold ziq
  have e1:(4*c+j)/ 4*4=4*c:=by omega
  have e2:(4*c+j+1)%4=(j+1)%4:=by omega
  rw [e1,e2]
theorem z51 {T:List UInt8} {c:Nat} (h:4*c+4≤T.length) {Y:List UInt8} (hY:Y=ovr T 0 (ziq T) (4*c)) {al:UInt8} (ha:al=Y.getD (4*c) 0^^^Y.getD (4*c+1) 0^^^Y.getD (4*c+2) 0^^^Y.getD (4*c+3) 0)
    {X0 X1 X2 X3:List UInt8} (e0:X0=Y.set (4*c) (Y.getD (4*c) 0^^^(al^^^tw (Y.getD (4*c) 0^^^Y.getD (4*c+1) 0))))
    (e1:X1=X0.set (4*c+1) (X0.getD (4*c+1) 0^^^(al^^^tw (Y.getD (4*c+1) 0^^^Y.getD (4*c+2) 0))))
    (e2:X2=X1.set (4*c+2) (X1.getD (4*c+2) 0^^^(al^^^tw (Y.getD (4*c+2) 0^^^Y.getD (4*c+3) 0))))
    (e3:X3=X2.set (4*c+3) (X2.getD (4*c+3) 0^^^(al^^^tw (Y.getD (4*c+3) 0^^^Y.getD (4*c) 0)))):X3=ovr T 0 (ziq T) (4*(c+1)):=by
  have hg: ∀j,4*c≤j→Y.getD j 0=T.getD j 0:=fun j hj=>by rw [hY];exact yw (by omega) _ (by omega) _
  rw [hg _ (by omega),hg _ (by omega),hg _ (by omega),hg _ (by omega)] at ha
  have m0:=zho T c 0 (by omega)
  have m1:=zho T c 1 (by omega)
  have m2:=zho T c 2 (by omega)
  have m3:=zho T c 3 (by omega)
  rw [←ha] at m0 m1 m2 m3
  rw [Nat.add_zero] at m0
  refine z62 (by omega) m0.symm m1.symm m2.symm m3.symm (X0:=X0) (X1:=X1) (X2:=X2) ?_ ?_ ?_ ?_
  ·rw [e0,←hY,hg (4*c) (by omega),hg (4*c+1) (by omega)]
  ·rw [e1,hg (4*c+1) (by omega),hg (4*c+2) (by omega)]
  ·rw [e2,hg (4*c+2) (by omega),hg (4*c+3) (by omega)]
  ·rw [e3,hg (4*c+3) (by omega),hg (4*c) (by omega)];rfl
end Go.Sym.Aes
namespace Go.Sym.Aes
open Go.Sym.Lp
theorem z6w (x:UInt8):tw x=if 127<x.toNat then x<<<1^^^27 else x<<<1:=by
  have k: ∀n,n<256→tw (UInt8.ofNat n)=if 127<(UInt8.ofNat n).toNat then (UInt8.ofNat n)<<<1^^^27 else (UInt8.ofNat n)<<<1:=by decide+kernel
  have h:=k x.toNat x.toNat_lt
  rwa [UInt8.ofNat_toNat] at h
theorem yhn {x:UInt8} (h:127<x.toNat):tw x=x<<<1^^^27:=by rw [z6w,if_pos h]
theorem yj4 {x:UInt8} (h: ¬127<x.toNat):tw x=x<<<1:=by rw [z6w,if_neg h]
end Go.Sym.Aes
namespace Go.Sym.Aes
open Go.Sym.Lp
theorem take4 {l:List UInt8} {a:Nat} (h:a+4≤l.length):(l.drop a).take 4= [l.getD a 0,l.getD (a+1) 0,l.getD (a+2) 0,l.getD (a+3) 0]:=by
  apply List.ext_getElem?
  intro j
  have g: ∀k,k<l.length→some (l.getD k 0)=l[k]?:=fun k hk=>by rw [List.getD_eq_getElem?_getD,List.getElem?_eq_getElem hk];rfl
  by_cases h4:j<4
  ·rw [List.getElem?_take_of_lt h4,List.getElem?_drop]
   have:j=0∨j=1∨j=2∨j=3:=by omega
   rcases this with rfl|rfl|rfl|rfl
   ·rw [Nat.add_zero];exact (g a (by omega)).symm
   ·exact (g (a+1) (by omega)).symm
   ·exact (g (a+2) (by omega)).symm
   ·exact (g (a+3) (by omega)).symm
  ·rw [List.getElem?_eq_none (by rw [List.length_take];omega),List.getElem?_eq_none (by show 4≤j;omega)]
end Go.Sym.Aes
namespace Go.Sym.Aes
theorem ycc:List.append (List.append ([99,124,119,123,242,107,111,197,48,1,103,43,254,215,171,118,202,130,201,125,250,89,71,240,173,212,162,175,156,164,114,192,183,253,147,38,54,63,247,204,52,165,229,241,113,216,49,21,4,199,35,195,24,150,5,154,7,18,128,226,235,39,178,117]:List UInt8) [9,131,44,26,27,110,90,160,82,59,214,179,41,227,47,132,83,209,0,237,32,252,177,91,106,203,190,57,74,76,88,207,208,239,170,251,67,77,51,133,69,249,2,127,80,60,159,168,81,163,64,143,146,157,56,245,188,182,218,33,16,255,243,210]) (List.append [205,12,19,236,95,151,68,23,196,167,126,61,100,93,25,115,96,129,79,220,34,42,144,136,70,238,184,20,222,94,11,219,224,50,58,10,73,6,36,92,194,211,172,98,145,149,228,121,231,200,55,109,141,213,78,169,108,86,244,234,101,122,174,8] [186,120,37,46,28,166,180,198,232,221,116,31,75,189,139,138,112,62,181,102,72,3,246,14,97,53,87,185,134,193,29,158,225,248,152,17,105,217,142,148,155,30,135,233,206,85,40,223,140,161,137,13,191,230,66,104,65,153,45,15,176,84,187,22])=box:=by decide+kernel
end Go.Sym.Aes
namespace Go.Sym.Aes
theorem z1s (key:List UInt8) (n:Nat):ks key n 0= []:=rfl
theorem zdr (key:List UInt8) (n i:Nat):ks key n (i+1)=ks key n i++xl key n i (ks key n i):=rfl
end Go.Sym.Aes

namespace Go.Sym.Z
open Go Go.Proofs.Tryz Go.Sym.Lp Go.Sym.Aes
set_option maxRecDepth 100000
def yjd:List (Nat×List PStep):= []
def yh1:List (Nat×List PStep):= []
def yhd:List (Nat×List PStep):= []
def ygz:List (Nat×TyI):= [(3,ty3),(4,ty4),(5,ty5),(9,ty9),(48,zd6),(51,zeb),(168,zif),(178,zj2),(148,zbu),(116,zpr),(214,zju),(212,zki),(216,zjl)]
theorem zdk: ∀t i,y8 ygz t=some i→yt prog t i:=(zc zbg (zc zbj (zc zbc (zc zbf (zc zaq (zc zap (zc zkd (zc zob (zc z7i (zc z68 (zc zon (zc znm (zc zp0 x1)))))))))))))
def z7x:Spec:=fun args hp K=>match args,hp with
  | [.u8 x,.int k],[]=>Pre (k=1∨k=2∨k=3∨k=4) (K (.u8 (rl8 x k.toNat)) [])
  |_,_=>False
def zy9:Spec:=fun args hp K=>match args,hp with
  | [.u8 x],[]=>K (.u8 (tw x)) []
  |_,_=>False
def zzr:Spec:=fun args hp K=>match args,hp with
  | [],[]=>K (.arr8 256 box) []
  |_,_=>False
theorem ye8:zp prog 175 z7x:=by
  refine zm zdk zi rfl func175 rfl call175 (D:=yjd) ?_ ?_
  ·intro args hp K h
   unfold z7x at h
   split at h
   ·exact Nat.le_of_ble_eq_true rfl
   ·exact h.elim
  ·intro args hp K h
   unfold z7x at h
   split at h
   ·rename_i x k
    obtain ⟨hk,h⟩:=zq h
    rcases hk with rfl|rfl|rfl|rfl
    all_goals
      refine za ?_
      exact zf [] h
   ·exact h.elim
theorem zt6:zp prog 159 zy9:=by
  refine zm zdk zi rfl func159 rfl call159 (D:=yh1) ?_ ?_
  ·intro args hp K h
   unfold zy9 at h
   split at h
   ·exact Nat.le_of_ble_eq_true rfl
   ·exact h.elim
  ·intro args hp K h
   unfold zy9 at h
   split at h
   ·refine za ?_
    exact zf [] h
   ·exact h.elim
theorem ycj:zp prog 158 zzr:=by
  refine zm zdk (zd zt6 (zd ye8 zi)) rfl func158 rfl call158 (D:=yhd) ?_ ?_
  ·intro args hp K h
   unfold zzr at h
   split at h
   ·exact Nat.le_of_ble_eq_true rfl
   ·exact h.elim
  ·intro args hp K h
   unfold zzr at h
   split at h
   ·refine za ?_
    refine zt (Ix (254)) (fun q=>⟨[(0,.ptr 0 0 0 []),(1,.ptr 1 0 0 []),(2,.u8 (pq q.i).1),(3,.u8 (pq q.i).2)],[.mk 212 [.arr8 256 (List.replicate 256 0)],.mk 212 [.arr8 256 (zrn q.i)]]⟩) (fun q=>(254)-q.i) ⟨0,Nat.zero_le _⟩ [0,1] ?_ ?_
    ·exact zn
    ·intro q
     have hi:=q.hi
     have hl:=zrp q.i
     have he:=ydt q.i (by omega)
     have hu:((pq q.i).1^^^tw (pq q.i).1).toNat<256:=((pq q.i).1^^^tw (pq q.i).1).toNat_lt
     by_cases h4:q.i+1≤254
     ·have hd:decide ((pq (q.i+1)).1=UInt8.ofNat 1)=false:=decide_eq_false (fun e=>by have:=he.1 e;omega)
      repeat ((conv=>whnf);first|refine zu ?_|refine zg ?_|refine zh ?_|refine zb ?_|refine zr (by first|exact hd|(rw [hd];rfl)) ?_|refine zj (by first|exact hd|(rw [hd];rfl)) ?_|refine zk (by first|exact hd|(rw [hd];rfl)) ?_)
      conv=>whnf
      refine ⟨⟨q.i+1,h4⟩,[0,1],by show (254)-(q.i+1)<(254)-q.i;omega,?_⟩
      exact zn
     ·have e4:q.i=254:=by omega
      have hd:decide ((pq (q.i+1)).1=UInt8.ofNat 1)=true:=decide_eq_true (he.2 (by omega))
      repeat ((conv=>whnf);first|refine zu ?_|refine zg ?_|refine zh ?_|refine zb ?_|refine zr (by first|exact hd|(rw [hd];rfl)) ?_|refine zj (by first|exact hd|(rw [hd];rfl)) ?_|refine zk (by first|exact hd|(rw [hd];rfl)) ?_)
      have e5:zrn (q.i+1)=box:=by rw [e4];exact ya2
      conv=>whnf
      refine yu (hp':= []) [] h ?_
      repeat ((conv=>whnf);refine zb ?_)
      conv=>whnf
      exact zo (congrArg (SV.arr8 256) e5)
   ·exact h.elim
end Go.Sym.Z

namespace Go.Sym.Gcm
open Go.Sym.Lp
abbrev El:=UInt64×UInt64
def R64:UInt64:=16212958658533785600
def xr (a b:El):El:=(a.1^^^b.1,a.2^^^b.2)
def z0:El:=(0,0)
def msk (l:UInt64):UInt64:=R64&&&(0-(l&&&1))
def yl (e:El):El:=(e.1>>>1^^^msk e.2,e.2>>>1|||e.1<<<63)
theorem yb0 (a:El):xr a z0=a:=by
  unfold xr z0;simp
theorem ykx (a:El):xr z0 a=a:=by
  unfold xr z0;simp
theorem zsz (a b:El):xr a b=xr b a:=by
  unfold xr;rw [UInt64.xor_comm,UInt64.xor_comm a.2]
theorem zw1 (a b c:El):xr (xr a b) c=xr a (xr b c):=by
  unfold xr;simp only [UInt64.xor_assoc]
theorem ygm (l:UInt64):l&&&1=0∨l&&&1=1:=by
  have h:(l&&&1).toNat=l.toNat%2:=by
    rw [UInt64.toNat_and];show l.toNat&&&(2^1-1)=_;rw [Nat.and_two_pow_sub_one_eq_mod]
  have h2:l.toNat%2=0∨l.toNat%2=1:=by omega
  rcases h2 with h2|h2
  ·left;apply UInt64.toNat_inj.1;rw [h,h2];rfl
  ·right;apply UInt64.toNat_inj.1;rw [h,h2];rfl
theorem z6u (a b:UInt64):(a^^^b)&&&1=(a&&&1)^^^(b&&&1):=by
  apply UInt64.toNat_inj.1
  simp only [UInt64.toNat_and,UInt64.toNat_xor]
  apply Nat.eq_of_testBit_eq
  intro i
  simp only [Nat.testBit_and,Nat.testBit_xor]
  cases Nat.testBit a.toNat i<;>cases Nat.testBit b.toNat i<;>cases Nat.testBit (UInt64.toNat 1) i<;>rfl
theorem yb7 (a b:UInt64):msk (a^^^b)=msk a^^^msk b:=by
  unfold msk
  rw [z6u]
  rcases ygm a with h|h<;>rcases ygm b with h'|h'<;>rw [h,h']<;>decide
theorem z13 (a b k:UInt64):(a^^^b)>>>k=a>>>k^^^b>>>k:=by
  apply UInt64.toNat_inj.1
  simp only [UInt64.toNat_xor,UInt64.toNat_shiftRight]
  apply Nat.eq_of_testBit_eq
  intro i
  simp only [Nat.testBit_xor,Nat.testBit_shiftRight]
theorem yaw (a b k:UInt64):(a^^^b)<<<k=a<<<k^^^b<<<k:=by
  apply UInt64.toNat_inj.1
  simp only [UInt64.toNat_xor,UInt64.toNat_shiftLeft]
  apply Nat.eq_of_testBit_eq
  intro i
  simp only [Nat.testBit_xor,Nat.testBit_mod_two_pow,Nat.testBit_shiftLeft]
  cases decide (i<64)<;>cases decide (i≥UInt64.toNat k%64)<;>simp
theorem yd3 {k:Nat} (hk:k<64) (l h:UInt64) (hl:l.toNat<2^k):l|||h<<<UInt64.ofNat k=l^^^h<<<UInt64.ofNat k:=by
  have hk2:(UInt64.ofNat k).toNat=k:=by rw [UInt64.toNat_ofNat'];omega
  apply UInt64.toNat_inj.1
  simp only [UInt64.toNat_xor,UInt64.toNat_or,UInt64.toNat_shiftLeft]
  rw [hk2,Nat.mod_eq_of_lt hk]
  apply Nat.eq_of_testBit_eq
  intro i
  simp only [Nat.testBit_xor,Nat.testBit_or,Nat.testBit_mod_two_pow,Nat.testBit_shiftLeft]
  by_cases hi:i<k
  ·have e:decide (i≥k)=false:=decide_eq_false (by omega)
   rw [e];simp
  ·have e:Nat.testBit l.toNat i=false:=Nat.testBit_lt_two_pow (Nat.lt_of_lt_of_le hl (Nat.pow_le_pow_right (by decide) (by omega)))
   rw [e];simp
theorem zqd (e:El):(yl e).2=e.2>>>1^^^e.1<<<63:=by
  have h:=yd3 (k:=63) (by decide) (e.2>>>1) e.1 (by
    rw [UInt64.toNat_shiftRight];have:=e.2.toNat_lt;show e.2.toNat>>>1<9223372036854775808;rw [Nat.shiftRight_eq_div_pow];omega)
  exact h
theorem z1e (a b:El):yl (xr a b)=xr (yl a) (yl b):=by
  refine Prod.ext ?_ ?_
  ·show (a.1^^^b.1)>>>1^^^msk (a.2^^^b.2)=(a.1>>>1^^^msk a.2)^^^(b.1>>>1^^^msk b.2)
   rw [z13,yb7]
   generalize a.1>>>1=p
   generalize b.1>>>1=q
   generalize msk a.2=r
   generalize msk b.2=s
   rw [UInt64.xor_assoc,UInt64.xor_assoc,←UInt64.xor_assoc q,UInt64.xor_comm q,UInt64.xor_assoc r]
  ·show (yl (xr a b)).2=(yl a).2^^^(yl b).2
   rw [zqd,zqd,zqd]
   show (a.2^^^b.2)>>>1^^^(a.1^^^b.1)<<<63=_
   rw [z13,yaw]
   generalize a.2>>>1=p
   generalize b.2>>>1=q
   generalize a.1<<<63=r
   generalize b.1<<<63=s
   rw [UInt64.xor_assoc,UInt64.xor_assoc,←UInt64.xor_assoc q,UInt64.xor_comm q,UInt64.xor_assoc r]
theorem z4t:yl z0=z0:=by decide
def hf4 (e:El):El:=yl (yl (yl (yl e)))
theorem yej (a b:El):hf4 (xr a b)=xr (hf4 a) (hf4 b):=by
  unfold hf4;simp only [z1e]
def toN (e:El):Nat:=e.1.toNat*18446744073709551616+e.2.toNat
theorem zzz {a b:El} (h:toN a=toN b):a=b:=by
  unfold toN at h
  have h1:=a.2.toNat_lt
  have h2:=b.2.toNat_lt
  have e1:a.1.toNat=b.1.toNat:=by omega
  have e2:a.2.toNat=b.2.toNat:=by omega
  exact Prod.ext (UInt64.toNat_inj.1 e1) (UInt64.toNat_inj.1 e2)
theorem zj6 (x:UInt64) {k:Nat} (h:k<64):(x>>>UInt64.ofNat k).toNat=x.toNat/ 2^k:=by
  have hk:(UInt64.ofNat k).toNat=k:=by rw [UInt64.toNat_ofNat'];omega
  rw [UInt64.toNat_shiftRight,hk,Nat.mod_eq_of_lt h,Nat.shiftRight_eq_div_pow]
theorem orN {l h:UInt64} {k m:Nat} (hl:l.toNat<2^k) (hh:h.toNat=2^k*m):(l|||h).toNat=l.toNat+2^k*m:=by
  rw [UInt64.toNat_or,hh,Nat.or_comm,←Nat.two_pow_add_eq_or_of_lt hl,Nat.add_comm]
theorem zh7 {e:El} (h:e.2.toNat%2=0):toN (yl e)=toN e/ 2:=by
  have hm:msk e.2=0:=by
    unfold msk
    have h1:(e.2&&&1)=0:=by
      apply UInt64.toNat_inj.1
      rw [UInt64.toNat_and];show e.2.toNat&&&(2^1-1)=0;rw [Nat.and_two_pow_sub_one_eq_mod];exact h
    rw [h1];decide
  have e1:(yl e).1=e.1>>>UInt64.ofNat 1:=by
    show e.1>>>1^^^msk e.2=_
    rw [hm,UInt64.xor_zero];rfl
  have s1:=zj6 e.1 (k:=1) (by decide)
  have s2:(e.2>>>1).toNat=e.2.toNat/ 2:=zj6 e.2 (k:=1) (by decide)
  have hl:=e.2.toNat_lt
  have s3:(e.1<<<63).toNat=2^63*(e.1.toNat%2):=by
    rw [UInt64.toNat_shiftLeft,Nat.shiftLeft_eq];show e.1.toNat*9223372036854775808%18446744073709551616=9223372036854775808*_;omega
  have e2:(yl e).2.toNat=e.2.toNat/ 2+9223372036854775808*(e.1.toNat%2):=by
    have:=orN (l:=e.2>>>1) (h:=e.1<<<63) (k:=63) (m:=e.1.toNat%2) (by rw [s2];omega) s3
    rw [s2] at this
    exact this
  unfold toN
  rw [e1,s1,e2]
  omega
def sh4 (e:El):El:=(e.1>>>4,e.2>>>4|||e.1<<<60)
theorem z7f (e:El):toN (sh4 e)=toN e/ 16:=by
  have s1:(e.1>>>4).toNat=e.1.toNat/ 16:=zj6 e.1 (k:=4) (by decide)
  have s2:(e.2>>>4).toNat=e.2.toNat/ 16:=zj6 e.2 (k:=4) (by decide)
  have hl:=e.2.toNat_lt
  have s3:(e.1<<<60).toNat=2^60*(e.1.toNat%16):=by
    rw [UInt64.toNat_shiftLeft,Nat.shiftLeft_eq];show e.1.toNat*1152921504606846976%18446744073709551616=1152921504606846976*_;omega
  have e2:(sh4 e).2.toNat=e.2.toNat/ 16+1152921504606846976*(e.1.toNat%16):=by
    have:=orN (l:=e.2>>>4) (h:=e.1<<<60) (k:=60) (m:=e.1.toNat%16) (by rw [s2];omega) s3
    rw [s2] at this
    exact this
  unfold toN
  rw [e2]
  show (e.1>>>4).toNat*_+_=_
  rw [s1]
  omega
theorem z9l {e:El} (h:e.2.toNat%16=0):hf4 e=sh4 e:=by
  have hN:toN e%16=0:=by unfold toN;omega
  have even: ∀{a:El},toN a%2=0→a.2.toNat%2=0:=fun {a} ha=>by unfold toN at ha;omega
  apply zzz
  have h1:=zh7 (e:=e) (by omega)
  have h2:=zh7 (e:=yl e) (even (by omega))
  have h3:=zh7 (e:=yl (yl e)) (even (by omega))
  have h4:=zh7 (e:=yl (yl (yl e))) (even (by omega))
  unfold hf4
  rw [h4,h3,h2,h1,z7f]
  omega
def zgm (i:Nat):UInt64:=(hf4 (0,UInt64.ofNat i)).1
theorem z31: ∀i,i<16→hf4 (0,UInt64.ofNat i)=(zgm i,0):=by decide
theorem zwh (l:UInt64):(l&&&15).toNat=l.toNat%16:=by
  rw [UInt64.toNat_and];show l.toNat&&&(2^4-1)=_;rw [Nat.and_two_pow_sub_one_eq_mod]
theorem ybh (l:UInt64):(l>>>4)<<<4^^^(l&&&15)=l:=by
  apply UInt64.toNat_inj.1
  rw [UInt64.toNat_xor,UInt64.toNat_and,UInt64.toNat_shiftLeft,UInt64.toNat_shiftRight]
  apply Nat.eq_of_testBit_eq
  intro i
  rw [Nat.testBit_xor,Nat.testBit_and,Nat.testBit_mod_two_pow]
  show ((decide (i<64)&&Nat.testBit ((l.toNat>>>4)<<<4) i) ^^(Nat.testBit l.toNat i&&Nat.testBit (2^4-1) i))=_
  rw [Nat.testBit_shiftLeft,Nat.testBit_shiftRight,Nat.testBit_two_pow_sub_one]
  by_cases h4:i<4
  ·rw [decide_eq_true h4,decide_eq_false (show ¬i≥4 by omega)];simp
  ·rw [decide_eq_false h4,decide_eq_true (show i≥4 by omega)]
   by_cases h64:i<64
   ·rw [decide_eq_true h64,show 4+(i-4)=i by omega];simp
   ·rw [decide_eq_false h64]
    have:Nat.testBit l.toNat i=false:=Nat.testBit_lt_two_pow (Nat.lt_of_lt_of_le l.toNat_lt (Nat.pow_le_pow_right (by decide) (by omega)))
    rw [this];simp
theorem yfr (e:El):hf4 e=((sh4 e).1^^^zgm (e.2&&&15).toNat,(sh4 e).2):=by
  have hs:e=xr (e.1,(e.2>>>4)<<<4) (0,e.2&&&15):=by
    unfold xr
    refine Prod.ext ?_ ?_
    ·show e.1=e.1^^^0;rw [UInt64.xor_zero]
    ·exact (ybh e.2).symm
  have h15:=zwh e.2
  have hq:UInt64.ofNat (e.2&&&15).toNat=e.2&&&15:=UInt64.ofNat_toNat
  have hsm:=z31 (e.2&&&15).toNat (by rw [h15];omega)
  rw [hq] at hsm
  have s2:(e.2>>>4).toNat=e.2.toNat/ 16:=zj6 e.2 (k:=4) (by decide)
  have hl:=e.2.toNat_lt
  have s3:((e.2>>>4)<<<4).toNat=16*(e.2.toNat/ 16):=by
    rw [UInt64.toNat_shiftLeft,s2,Nat.shiftLeft_eq];show e.2.toNat/ 16*16%18446744073709551616=_;omega
  have hev:=z9l (e:=(e.1,(e.2>>>4)<<<4)) (by show ((e.2>>>4)<<<4).toNat%16=0;rw [s3];omega)
  have hsh:sh4 (e.1,(e.2>>>4)<<<4)=sh4 e:=by
    apply zzz
    rw [z7f,z7f]
    unfold toN
    rw [s3]
    show (e.1.toNat*_+_)/ 16=_
    omega
  conv=>lhs;rw [hs]
  rw [yej,hsm,hev,hsh]
  unfold xr
  refine Prod.ext rfl ?_
  show (sh4 e).2^^^0=_
  rw [UInt64.xor_zero]
def zd2 (P:Nat→Bool):El→Nat→El
  |_,0=>z0
  |h,n+1=>xr (if P 0=true then h else z0) (zd2 (fun j=>P (j+1)) (yl h) n)
theorem ycu (c:Bool) (h:El):yl (if c=true then h else z0)=if c=true then yl h else z0:=by
  cases c
  ·exact z4t
  ·rfl
theorem zks (n:Nat): ∀(P:Nat→Bool) (h:El),yl (zd2 P h n)=zd2 P (yl h) n:=by
  induction n with
  |zero=>intro P h;exact z4t
  |succ n ih=>intro P h;simp only [zd2];rw [z1e,ycu,ih]
theorem zvn (n:Nat): ∀(P:Nat→Bool) (h:El),zd2 P h (n+1)=xr (zd2 P h n) (if P n=true then (Nat.repeat yl n h) else z0):=by
  induction n with
  |zero=>intro P h;simp only [zd2,Nat.repeat];rw [yb0,ykx]
  |succ n ih=>
   intro P h
   have hr: ∀m (g:El),Nat.repeat yl m (yl g)=yl (Nat.repeat yl m g):=by
     intro m
     induction m with
     |zero=>intro g;rfl
     |succ m ihm=>intro g;simp only [Nat.repeat];rw [ihm]
   rw [zd2,ih,←zw1,hr]
   rfl
theorem z6i (n:Nat) (P:Nat→Bool) (h:El):
    zd2 P h (n+4)=xr (hf4 (zd2 (fun j=>P (j+4)) h n)) (zd2 P h 4):=by
  have e:hf4 (zd2 (fun j=>P (j+4)) h n)=zd2 (fun j=>P (j+4)) (yl (yl (yl (yl h)))) n:=by
    unfold hf4;rw [zks,zks,zks,zks]
  rw [e,zsz]
  simp only [zd2]
  rw [yb0]
  simp only [zw1]
theorem zlg (n:Nat): ∀{P Q:Nat→Bool} (h:El),(∀j,j<n→P j=Q j)→zd2 P h n=zd2 Q h n:=by
  induction n with
  |zero=>intro P Q h _;rfl
  |succ n ih=>
   intro P Q h hp
   simp only [zd2]
   rw [hp 0 (by omega),ih (yl h) (fun j hj=>hp (j+1) (by omega))]
def g6 (x:List UInt64) (i:Nat):UInt64:=x.getD i 0
def tbI (bit:Nat) (x:El) (T:List UInt64):Nat→List UInt64
  |0=>T
  |i+1=>if i&&&bit=0 then tbI bit x T i else ((tbI bit x T i).set (2*i) (g6 (tbI bit x T i) (2*i)^^^x.1)).set (2*i+1) (g6 ((tbI bit x T i).set (2*i) (g6 (tbI bit x T i) (2*i)^^^x.1)) (2*i+1)^^^x.2)
theorem zjj (bit:Nat) (x:El) (T:List UInt64): ∀i,(tbI bit x T i).length=T.length
  |0=>rfl
  |i+1=>by
   simp only [tbI]
   split
   ·exact zjj bit x T i
   ·rw [List.length_set,List.length_set];exact zjj bit x T i
def ent (T:List UInt64) (d:Nat):El:=(g6 T (2*d),g6 T (2*d+1))
theorem zzw {T:List UInt64} {i j:Nat} {v:UInt64} (h:j<T.length):g6 (T.set j v) i=if i=j then v else g6 T i:=by
  unfold g6
  by_cases e:i=j
  ·rw [if_pos e,e,List.getD_eq_getElem?_getD,List.getElem?_set_self h];rfl
  ·rw [if_neg e,List.getD_eq_getElem?_getD,List.getElem?_set_ne (by omega),←List.getD_eq_getElem?_getD]
theorem ydc {T:List UInt64} (hT:T.length=32) {n:Nat} (hn:n<16) (v w:UInt64) (d:Nat):ent ((T.set (2*n) v).set (2*n+1) w) d=if d=n then (v,w) else ent T d:=by
  have l2:(T.set (2*n) v).length=32:=by rw [List.length_set];exact hT
  have g1: ∀i,g6 ((T.set (2*n) v).set (2*n+1) w) i=if i=2*n+1 then w else if i=2*n then v else g6 T i:=fun i=>by
    rw [zzw (by omega),zzw (by omega)]
  unfold ent
  rw [g1,g1]
  by_cases e:d=n
  ·rw [if_pos e,e,if_neg (by omega),if_pos rfl,if_pos rfl]
  ·rw [if_neg e,if_neg (by omega),if_neg (by omega),if_neg (by omega),if_neg (by omega)]
theorem z0z {bit:Nat} {x:El} {T:List UInt64} (hT:T.length=32) {d:Nat} (hd:d<16): ∀n,n≤16→ent (tbI bit x T n) d=if d<n∧d&&&bit≠0 then xr (ent T d) x else ent T d
  |0,_=>by rw [if_neg (by omega)];rfl
  |n+1,hn=>by
   have ih:=z0z (bit:=bit) (x:=x) hT hd n (by omega)
   have hl:=(zjj bit x T n).trans hT
   by_cases hb:n&&&bit=0
   ·have e:tbI bit x T (n+1)=tbI bit x T n:=by simp only [tbI];rw [if_pos hb]
    rw [e,ih]
    by_cases hdn:d=n
    ·rw [if_neg (fun hh=>hh.2 (by rw [hdn];exact hb)),if_neg (fun hh=>hh.2 (by rw [hdn];exact hb))]
    ·by_cases hc:d<n∧d&&&bit≠0
     ·rw [if_pos hc,if_pos ⟨by omega,hc.2⟩]
     ·rw [if_neg hc,if_neg (fun hh=>hc ⟨by omega,hh.2⟩)]
   ·have e:tbI bit x T (n+1)=((tbI bit x T n).set (2*n) (g6 (tbI bit x T n) (2*n)^^^x.1)).set (2*n+1) (g6 ((tbI bit x T n).set (2*n) (g6 (tbI bit x T n) (2*n)^^^x.1)) (2*n+1)^^^x.2):=by simp only [tbI];rw [if_neg hb]
    have g1:g6 ((tbI bit x T n).set (2*n) (g6 (tbI bit x T n) (2*n)^^^x.1)) (2*n+1)=g6 (tbI bit x T n) (2*n+1):=by
      rw [zzw (by omega),if_neg (by omega)]
    rw [e,g1,ydc hl (by omega)]
    by_cases hdn:d=n
    ·rw [if_pos hdn,if_pos ⟨by omega,by rw [hdn];exact hb⟩]
     rw [if_neg (by omega)] at ih
     rw [←ih,hdn]
     rfl
    ·rw [if_neg hdn,ih]
     by_cases hc:d<n∧d&&&bit≠0
     ·rw [if_pos hc,if_pos ⟨by omega,hc.2⟩]
     ·rw [if_neg hc,if_neg (fun hh=>hc ⟨by omega,hh.2⟩)]
def tbO (h:El):Nat→List UInt64
  |0=>List.replicate 32 0
  |k+1=>tbI (8/ 2^k) (Nat.repeat yl k h) (tbO h k) 16
theorem znc (h:El): ∀k,(tbO h k).length=32
  |0=>rfl
  |k+1=>by rw [tbO,zjj];exact znc h k
def tb (h:El):List UInt64:=tbO h 4
theorem yea (h:El):(tb h).length=32:=znc h 4
theorem yc3 (h:El) {d:Nat} (hd:d<16) (k:Nat):ent (tbO h (k+1)) d=xr (ent (tbO h k) d) (if d&&&(8/ 2^k)≠0 then Nat.repeat yl k h else z0):=by
  rw [tbO,z0z (znc h k) hd 16 (Nat.le_refl _)]
  by_cases hc:d&&&(8/ 2^k)≠0
  ·rw [if_pos ⟨hd,hc⟩,if_pos hc]
  ·rw [if_neg (fun hh=>hc hh.2),if_neg hc,yb0]
def dig (d j:Nat):Bool:=decide (d/ 2^(3-j)%2=1)
theorem yb9: ∀d,d<16→ ∀k,k<4→(dig d k=true↔d&&&(8/ 2^k)≠0):=by decide
theorem ym0 (h:El): ∀d,d<16→ent (List.replicate 32 0) d=z0:=by decide
theorem yfz (h:El) {d:Nat} (hd:d<16):ent (tb h) d=zd2 (dig d) h 4:=by
  have hs: ∀k,k≤4→ent (tbO h k) d=zd2 (dig d) h k:=by
    intro k
    induction k with
    |zero=>intro _;exact ym0 h d hd
    |succ k ih=>
     intro hk
     rw [yc3 h hd,zvn,ih (by omega)]
     congr 1
     have:=yb9 d hd k (by omega)
     by_cases hc:d&&&(8/ 2^k)≠0
     ·rw [if_pos hc,if_pos (this.2 hc)]
     ·rw [if_neg hc,if_neg (fun hh=>hc (this.1 hh))]
  exact hs 4 (Nat.le_refl _)
def fl:List UInt64:=(List.range 16).map zgm
def zi9 (x:El) (i:Nat):UInt64:=if 16≤i then x.1>>>UInt64.ofNat (4*(i%16))&&&15 else x.2>>>UInt64.ofNat (4*(i%16))&&&15
def stp (T F:List UInt64) (z:El) (d:UInt64):El:=
  (z.1>>>4^^^g6 F (z.2&&&15).toNat^^^g6 T (2*d.toNat),(z.2>>>4|||z.1<<<60)^^^g6 T (2*d.toNat+1))
def zk6 (T F:List UInt64) (x:El):Nat→El
  |0=>z0
  |i+1=>stp T F (zk6 T F x i) (zi9 x i)
def zgz (T F:List UInt64) (x:El):El:=zk6 T F x 32
theorem zoz (x:El) (i:Nat):(zi9 x i).toNat<16:=by
  unfold zi9
  split<;>(rw [zwh];omega)
theorem yfs (h z:El) {d:UInt64} (hd:d.toNat<16):stp (tb h) fl z d=xr (hf4 z) (zd2 (dig d.toNat) h 4):=by
  have hf:g6 fl (z.2&&&15).toNat=zgm (z.2&&&15).toNat:=by
    unfold g6 fl
    rw [zij _ _ (by rw [zwh];omega)]
  rw [←yfz h hd,yfr]
  unfold stp
  rw [hf]
  generalize zgm (z.2&&&15).toNat=f
  generalize tb h=T
  unfold xr ent sh4
  rfl
def zli (a:El) (j:Nat):Bool:=if 63<j then decide (a.2.toNat/ 2^(127-j)%2=1) else decide (a.1.toNat/ 2^(63-j)%2=1)
def zpv (h a:El):El:=zd2 (zli a) h 128
theorem yc5 (x:El) {i j:Nat} (hi:i<32) (hj:j<4):dig (zi9 x i).toNat j=zli x (124-4*i+j):=by
  have hw: ∀(y:UInt64) (k m:Nat),k<64→m<4→((y>>>UInt64.ofNat k&&&15).toNat)/ 2^m%2=y.toNat/ 2^(k+m)%2:=by
    intro y k m hk hm
    rw [zwh,zj6 y hk,Nat.pow_add,←Nat.div_div_eq_div_mul]
    generalize y.toNat/ 2^k=q
    have:m=0∨m=1∨m=2∨m=3:=by omega
    rcases this with rfl|rfl|rfl|rfl
    ·show q%16/ 1%2=q/ 1%2;omega
    ·show q%16/ 2%2=q/ 2%2;omega
    ·show q%16/ 4%2=q/ 4%2;omega
    ·show q%16/ 8%2=q/ 8%2;omega
  unfold dig zli zi9
  by_cases h16:16≤i
  ·rw [if_pos h16,if_neg (by omega),hw _ _ _ (by omega) (by omega),show 4*(i%16)+(3-j)=63-(124-4*i+j) by omega]
  ·rw [if_neg h16,if_pos (by omega),hw _ _ _ (by omega) (by omega),show 4*(i%16)+(3-j)=127-(124-4*i+j) by omega]
theorem z7c (h x:El): ∀i,i≤32→zk6 (tb h) fl x i=zd2 (fun j=>zli x (128-4*i+j)) h (4*i)
  |0,_=>rfl
  |i+1,hi=>by
   rw [zk6,yfs h _ (zoz x i),z7c h x i (by omega)]
   refine Eq.trans ?_ (z6i (4*i) (fun j=>zli x (128-4*(i+1)+j)) h).symm
   refine congr (congrArg xr (congrArg hf4 ?_)) ?_
   ·refine zlg _ h fun j hj=>?_
    show zli x _=zli x _
    congr 1;omega
   ·refine zlg _ h fun j hj=>?_
    show dig _ j=zli x _
    rw [yc5 x (by omega) hj]
    congr 1;omega
theorem z0m (h x:El):zgz (tb h) fl x=zpv h x:=by
  unfold zgz zpv
  rw [z7c h x 32 (Nat.le_refl _)]
  refine zlg _ h fun j hj=>?_
  show zli x _=zli x _
  congr 1;omega
def tmA (a:UInt64):Nat→UInt64
  |0=>a
  |i+1=>tmA a i<<<1
def zgl (a:El) (i:Nat):UInt64:=if 63<i then tmA a.2 (i-64)>>>63 else tmA a.1 i>>>63
def tmX (a c:El):Nat→El
  |0=>z0
  |i+1=>if zgl a i=1 then xr (tmX a c i) (Nat.repeat yl i c) else tmX a c i
theorem z0k (a:UInt64): ∀i,(tmA a i).toNat=a.toNat*2^i%18446744073709551616
  |0=>by show a.toNat=_;rw [Nat.pow_zero,Nat.mul_one,Nat.mod_eq_of_lt a.toNat_lt]
  |i+1=>by
   have e:a.toNat*2^(i+1)=a.toNat*2^i*2:=by rw [Nat.pow_succ,Nat.mul_assoc]
   rw [tmA,UInt64.toNat_shiftLeft,z0k a i,Nat.shiftLeft_eq,e]
   generalize a.toNat*2^i=q
   show q%18446744073709551616*2%18446744073709551616=q*2%18446744073709551616
   omega
theorem z0y (a:UInt64) {i:Nat} (h:i<64):(tmA a i>>>63).toNat=a.toNat/ 2^(63-i)%2:=by
  have e:(tmA a i>>>63).toNat=(tmA a i).toNat/ 2^63:=zj6 _ (k:=63) (by decide)
  rw [e,z0k]
  have hp:2^(63-i)*2^i=2^63:=by rw [←Nat.pow_add];congr 1;omega
  have h2:(18446744073709551616:Nat)=2^63*2:=by decide
  rw [h2,Nat.mod_mul_right_div_self,←hp,Nat.mul_div_mul_right _ _ (Nat.pow_pos (by decide))]
theorem z17 (a:El) {i:Nat} (h:i<128):zgl a i=1↔zli a i=true:=by
  have one: ∀x:UInt64,x=1↔x.toNat=1:=fun x=>by rw [←UInt64.toNat_inj];rfl
  unfold zgl zli
  by_cases hi:63<i
  ·rw [if_pos hi,if_pos hi,one,z0y _ (by omega),decide_eq_true_iff,show 63-(i-64)=127-i by omega]
  ·rw [if_neg hi,if_neg hi,one,z0y _ (by omega),decide_eq_true_iff]
theorem zz5 (a c:El): ∀i,i≤128→tmX a c i=zd2 (zli a) c i
  |0,_=>rfl
  |i+1,h=>by
   rw [tmX,zz5 a c i (by omega),zvn]
   have hb:=z17 a (i:=i) (by omega)
   by_cases hc:zgl a i=1
   ·rw [if_pos hc,if_pos (hb.1 hc)]
   ·rw [if_neg hc,if_neg (fun hh=>hc (hb.2 hh)),yb0]
theorem yd1 (a c:El):tmX a c 128=zpv c a:=zz5 a c 128 (Nat.le_refl _)
end Go.Sym.Gcm
