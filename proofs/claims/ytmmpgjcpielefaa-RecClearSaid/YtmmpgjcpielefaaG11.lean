/-
  Contracts of functions of the program, each said of symbolic values, and plain laws; no condition beyond each statement's own.
-/
import Derived.Test.YtmmpgjcpielefaaG10
import Derived.Test.YtmmpgjcpielefaaRows
set_option linter.unusedSimpArgs false
set_option linter.unusedVariables false
namespace Go.Sym.A
open Go.Proofs.Try
set_option maxRecDepth 100000
def ty2:TyI:=⟨(.int .i64),1,8,(.int 0),false⟩
def ty3:TyI:=⟨(.int .i64),1,8,(.int 0),false⟩
theorem ty3_ok:yp prog 3 ty3:=⟨⟨_,z8 Go.Proofs.Try.typeInfo3,rfl,rfl,fun _=>rfl⟩,⟨by simp [ty3,SV.ok,okL],by simp [ty3,Ty.agg],by simp [ty3,SV.size,z6]⟩,Go.Proofs.Try.underlying3,fun h=>by cases h⟩
def ty4:TyI:=⟨.bool,1,1,(.bool false),false⟩
theorem zc3:yp prog 4 ty4:=⟨⟨_,z8 Go.Proofs.Try.typeInfo4,rfl,rfl,fun _=>rfl⟩,⟨by simp [ty4,SV.ok,okL],by simp [ty4,Ty.agg],by simp [ty4,SV.size,z6]⟩,Go.Proofs.Try.underlying4,fun h=>by cases h⟩
def ty5:TyI:=⟨(.int .u8),1,1,(.u8 0),false⟩
theorem zcz:yp prog 5 ty5:=⟨⟨_,z8 Go.Proofs.Try.typeInfo5,rfl,rfl,fun _=>rfl⟩,⟨by simp [ty5,SV.ok,okL],by simp [ty5,Ty.agg],by simp [ty5,SV.size,z6]⟩,Go.Proofs.Try.underlying5,fun h=>by cases h⟩
def ty9:TyI:=⟨.str,1,16,(.str []),false⟩
theorem ty9_ok:yp prog 9 ty9:=⟨⟨_,z8 Go.Proofs.Try.typeInfo9,rfl,rfl,fun _=>rfl⟩,⟨by simp [ty9,SV.ok,okL],by simp [ty9,Ty.agg],by simp [ty9,SV.size,z6]⟩,Go.Proofs.Try.underlying9,fun h=>by cases h⟩
def zv4:TyI:=⟨(.int .i64),1,8,(.int 0),false⟩
def zdh:TyI:=⟨(.int .u64),1,8,(.u64 0),false⟩
theorem zbh:yp prog 34 zdh:=⟨⟨_,z8 Go.Proofs.Try.typeInfo34,rfl,rfl,fun _=>rfl⟩,⟨by simp [zdh,SV.ok,okL],by simp [zdh,Ty.agg],by simp [zdh,SV.size,z6]⟩,Go.Proofs.Try.underlying34,fun h=>by cases h⟩
def zdd:TyI:=⟨(.sl 5),1,24,(.nilsl),false⟩
theorem zbl:yp prog 35 zdd:=⟨⟨_,z8 Go.Proofs.Try.typeInfo35,rfl,rfl,fun _=>rfl⟩,⟨by simp [zdd,SV.ok,okL],by simp [zdd,Ty.agg],by simp [zdd,SV.size,z6]⟩,Go.Proofs.Try.underlying35,fun h=>by cases h⟩
def ziq:TyI:=⟨.ptr,1,8,(.nilptr),false⟩
theorem znu:yp prog 43 ziq:=⟨⟨_,z8 Go.Proofs.Try.typeInfo43,rfl,rfl,fun _=>rfl⟩,⟨by simp [ziq,SV.ok,okL],by simp [ziq,Ty.agg],by simp [ziq,SV.size,z6]⟩,⟨_,Go.Proofs.Try.underlying43⟩,fun h=>by cases h⟩
def zv1:TyI:=⟨(.struct [(0,3),(1,9)]),2,24,(.agg [.int 0,.str []]),true⟩
def zec:TyI:=⟨(.struct [(0,3),(1,9)]),2,24,(.agg [.int 0,.str []]),true⟩
theorem zpw:yp prog 50 zec:=⟨⟨_,z8 Go.Proofs.Try.typeInfo50,rfl,rfl,fun _=>rfl⟩,⟨by simp [zec,SV.ok,okL],by simp [zec,Ty.agg],by simp [zec,SV.size,z6]⟩,⟨_,Go.Proofs.Try.underlying50,rfl,by decide⟩,fun _=>⟨by decide+kernel,Go.Proofs.Try.eqGuardType50⟩⟩
def zma:TyI:=⟨(.sl 3),1,24,(.nilsl),false⟩
theorem z1n:yp prog 58 zma:=⟨⟨_,z8 Go.Proofs.Try.typeInfo58,rfl,rfl,fun _=>rfl⟩,⟨by simp [zma,SV.ok,okL],by simp [zma,Ty.agg],by simp [zma,SV.size,z6]⟩,Go.Proofs.Try.underlying58,fun h=>by cases h⟩
def zkr:TyI:=⟨(.sl 9),1,24,(.nilsl),false⟩
theorem z3c:yp prog 59 zkr:=⟨⟨_,z8 Go.Proofs.Try.typeInfo59,rfl,rfl,fun _=>rfl⟩,⟨by simp [zkr,SV.ok,okL],by simp [zkr,Ty.agg],by simp [zkr,SV.size,z6]⟩,Go.Proofs.Try.underlying59,fun h=>by cases h⟩
def zkp:TyI:=⟨(.sl 50),1,24,(.nilsl),false⟩
theorem z11:yp prog 60 zkp:=⟨⟨_,z8 Go.Proofs.Try.typeInfo60,rfl,rfl,fun _=>rfl⟩,⟨by simp [zkp,SV.ok,okL],by simp [zkp,Ty.agg],by simp [zkp,SV.size,z6]⟩,Go.Proofs.Try.underlying60,fun h=>by cases h⟩
def zv2:TyI:=⟨(.struct [(0,35),(1,35)]),2,48,(.agg [.nilsl,.nilsl]),false⟩
def zl2:TyI:=⟨(.struct [(0,35),(1,35)]),2,48,(.agg [.nilsl,.nilsl]),false⟩
theorem z2l:yp prog 65 zl2:=⟨⟨_,z8 Go.Proofs.Try.typeInfo65,rfl,rfl,fun _=>rfl⟩,⟨by simp [zl2,SV.ok,okL],by simp [zl2,Ty.agg],by simp [zl2,SV.size,z6]⟩,⟨_,Go.Proofs.Try.underlying65,rfl,by decide⟩,fun h=>by cases h⟩
def zjk:TyI:=⟨.ptr,1,8,(.nilptr),false⟩
theorem zuz:yp prog 67 zjk:=⟨⟨_,z8 Go.Proofs.Try.typeInfo67,rfl,rfl,fun _=>rfl⟩,⟨by simp [zjk,SV.ok,okL],by simp [zjk,Ty.agg],by simp [zjk,SV.size,z6]⟩,⟨_,Go.Proofs.Try.underlying67⟩,fun h=>by cases h⟩
def zv6:TyI:=⟨(.struct [(0,9),(1,9),(2,67)]),3,40,(.agg [.str [],.str [],.nilptr]),true⟩
def zkf:TyI:=⟨(.struct [(0,9),(1,9),(2,67)]),3,40,(.agg [.str [],.str [],.nilptr]),true⟩
theorem z1l:yp prog 69 zkf:=⟨⟨_,z8 Go.Proofs.Try.typeInfo69,rfl,rfl,fun _=>rfl⟩,⟨by simp [zkf,SV.ok,okL],by simp [zkf,Ty.agg],by simp [zkf,SV.size,z6]⟩,⟨_,Go.Proofs.Try.underlying69,rfl,by decide⟩,fun _=>⟨by decide+kernel,Go.Proofs.Try.eqGuardType69⟩⟩
def zh7:TyI:=⟨.ptr,1,8,(.nilptr),false⟩
theorem zo7:yp prog 82 zh7:=⟨⟨_,z8 Go.Proofs.Try.typeInfo82,rfl,rfl,fun _=>rfl⟩,⟨by simp [zh7,SV.ok,okL],by simp [zh7,Ty.agg],by simp [zh7,SV.size,z6]⟩,⟨_,Go.Proofs.Try.underlying82⟩,fun h=>by cases h⟩
def zv0:TyI:=⟨(.struct [(0,3),(1,82)]),2,16,(.agg [.int 0,.nilptr]),true⟩
def zid:TyI:=⟨(.struct [(0,3),(1,82)]),2,16,(.agg [.int 0,.nilptr]),true⟩
theorem zo1:yp prog 84 zid:=⟨⟨_,z8 Go.Proofs.Try.typeInfo84,rfl,rfl,fun _=>rfl⟩,⟨by simp [zid,SV.ok,okL],by simp [zid,Ty.agg],by simp [zid,SV.size,z6]⟩,⟨_,Go.Proofs.Try.underlying84,rfl,by decide⟩,fun _=>⟨by decide+kernel,Go.Proofs.Try.eqGuardType84⟩⟩
def zvo:TyI:=⟨(.struct [(0,84),(2,82),(3,9),(4,3)]),5,48,(.agg [.int 0,.nilptr,.nilptr,.str [],.int 0]),true⟩
def zh9:TyI:=⟨(.struct [(0,84),(2,82),(3,9),(4,3)]),5,48,(.agg [.int 0,.nilptr,.nilptr,.str [],.int 0]),true⟩
theorem zod:yp prog 88 zh9:=⟨⟨_,z8 Go.Proofs.Try.typeInfo88,rfl,rfl,fun _=>rfl⟩,⟨by simp [zh9,SV.ok,okL],by simp [zh9,Ty.agg],by simp [zh9,SV.size,z6]⟩,⟨_,Go.Proofs.Try.underlying88,rfl,by decide⟩,fun _=>⟨by decide+kernel,Go.Proofs.Try.eqGuardType88⟩⟩
def x4:TyI:=⟨(.int .u64),1,8,(.u64 0),false⟩
theorem zcy:yp prog 91 x4:=⟨⟨_,z8 Go.Proofs.Try.typeInfo91,rfl,rfl,fun _=>rfl⟩,⟨by simp [x4,SV.ok,okL],by simp [x4,Ty.agg],by simp [x4,SV.size,z6]⟩,Go.Proofs.Try.underlying91,fun h=>by cases h⟩
def zb7:TyI:=⟨(.int .u32),1,4,(.u32 0),false⟩
theorem zcx:yp prog 93 zb7:=⟨⟨_,z8 Go.Proofs.Try.typeInfo93,rfl,rfl,fun _=>rfl⟩,⟨by simp [zb7,SV.ok,okL],by simp [zb7,Ty.agg],by simp [zb7,SV.size,z6]⟩,Go.Proofs.Try.underlying93,fun h=>by cases h⟩
def zla:TyI:=⟨(.sl 140),1,24,(.nilsl),false⟩
theorem z2i:yp prog 96 zla:=⟨⟨_,z8 Go.Proofs.Try.typeInfo96,rfl,rfl,fun _=>rfl⟩,⟨by simp [zla,SV.ok,okL],by simp [zla,Ty.agg],by simp [zla,SV.size,z6]⟩,Go.Proofs.Try.underlying96,fun h=>by cases h⟩
def zdn:TyI:=⟨.ptr,1,8,(.nilptr),false⟩
theorem zln:yp prog 100 zdn:=⟨⟨_,z8 Go.Proofs.Try.typeInfo100,rfl,rfl,fun _=>rfl⟩,⟨by simp [zdn,SV.ok,okL],by simp [zdn,Ty.agg],by simp [zdn,SV.size,z6]⟩,⟨_,Go.Proofs.Try.underlying100⟩,fun h=>by cases h⟩
def zcq:TyI:=⟨(.arr 16 5),16,16,(.arr8 16 (List.replicate 16 0)),true⟩
theorem zgz:yp prog 103 zcq:=⟨⟨_,z8 Go.Proofs.Try.typeInfo103,rfl,rfl,fun _=>rfl⟩,⟨by simp [zcq,SV.ok,okL],by simp [zcq,Ty.agg],by simp [zcq,SV.size,z6]⟩,Go.Proofs.Try.underlying103,fun _=>⟨by decide+kernel,Go.Proofs.Try.eqGuardType103⟩⟩
def zm3:TyI:=⟨(.struct [(0,91),(1,91)]),2,16,(.agg [.u64 0,.u64 0]),true⟩
def za9:TyI:=⟨(.struct [(0,91),(1,91)]),2,16,(.agg [.u64 0,.u64 0]),true⟩
theorem zqa:yp prog 106 za9:=⟨⟨_,z8 Go.Proofs.Try.typeInfo106,rfl,rfl,fun _=>rfl⟩,⟨by simp [za9,SV.ok,okL],by simp [za9,Ty.agg],by simp [za9,SV.size,z6]⟩,⟨_,Go.Proofs.Try.underlying106,rfl,by decide⟩,fun _=>⟨by decide+kernel,Go.Proofs.Try.eqGuardType106⟩⟩
def znc:TyI:=⟨(.struct [(0,100),(1,106)]),3,24,(.agg [.nilptr,.u64 0,.u64 0]),true⟩
def zee:TyI:=⟨(.struct [(0,100),(1,106)]),3,24,(.agg [.nilptr,.u64 0,.u64 0]),true⟩
theorem zqh:yp prog 109 zee:=⟨⟨_,z8 Go.Proofs.Try.typeInfo109,rfl,rfl,fun _=>rfl⟩,⟨by simp [zee,SV.ok,okL],by simp [zee,Ty.agg],by simp [zee,SV.size,z6]⟩,⟨_,Go.Proofs.Try.underlying109,rfl,by decide⟩,fun _=>⟨by decide+kernel,Go.Proofs.Try.eqGuardType109⟩⟩
def zfm:TyI:=⟨.ptr,1,8,(.nilptr),false⟩
theorem z0u:yp prog 111 zfm:=⟨⟨_,z8 Go.Proofs.Try.typeInfo111,rfl,rfl,fun _=>rfl⟩,⟨by simp [zfm,SV.ok,okL],by simp [zfm,Ty.agg],by simp [zfm,SV.size,z6]⟩,⟨_,Go.Proofs.Try.underlying111⟩,fun h=>by cases h⟩
def zfq:TyI:=⟨(.arr 16 106),32,256,(.arr64 32 (List.replicate 32 0)),true⟩
theorem z0h:yp prog 114 zfq:=⟨⟨_,z8 Go.Proofs.Try.typeInfo114,rfl,rfl,fun _=>rfl⟩,⟨by simp [zfq,SV.ok,okL],by simp [zfq,Ty.agg],by simp [zfq,SV.size,z6]⟩,Go.Proofs.Try.underlying114,fun _=>⟨by decide+kernel,Go.Proofs.Try.eqGuardType114⟩⟩
def zfd:TyI:=⟨(.arr 16 91),16,128,(.arr64 16 (List.replicate 16 0)),true⟩
theorem zw2:yp prog 115 zfd:=⟨⟨_,z8 Go.Proofs.Try.typeInfo115,rfl,rfl,fun _=>rfl⟩,⟨by simp [zfd,SV.ok,okL],by simp [zfd,Ty.agg],by simp [zfd,SV.size,z6]⟩,Go.Proofs.Try.underlying115,fun _=>⟨by decide+kernel,Go.Proofs.Try.eqGuardType115⟩⟩
def znr:TyI:=⟨(.struct [(0,114),(32,115),(48,106)]),50,400,(.agg [.arr64 32 (List.replicate 32 0),.arr64 16 (List.replicate 16 0),.u64 0,.u64 0]),true⟩
def zev:TyI:=⟨(.struct [(0,114),(32,115),(48,106)]),50,400,(.agg [.arr64 32 (List.replicate 32 0),.arr64 16 (List.replicate 16 0),.u64 0,.u64 0]),true⟩
theorem zya:yp prog 117 zev:=⟨⟨_,z8 Go.Proofs.Try.typeInfo117,rfl,rfl,fun _=>rfl⟩,⟨by simp [zev,SV.ok,okL],by simp [zev,Ty.agg],by simp [zev,SV.size,z6]⟩,⟨_,Go.Proofs.Try.underlying117,rfl,by decide⟩,fun _=>⟨by decide+kernel,Go.Proofs.Try.eqGuardType117⟩⟩
def ze7:TyI:=⟨(.arr 64 5),64,64,(.arr8 64 (List.replicate 64 0)),true⟩
theorem zzg:yp prog 118 ze7:=⟨⟨_,z8 Go.Proofs.Try.typeInfo118,rfl,rfl,fun _=>rfl⟩,⟨by simp [ze7,SV.ok,okL],by simp [ze7,Ty.agg],by simp [ze7,SV.size,z6]⟩,Go.Proofs.Try.underlying118,fun _=>⟨by decide+kernel,Go.Proofs.Try.eqGuardType118⟩⟩
def ze4:TyI:=⟨(.arr 16 93),16,64,(.arr32 16 (List.replicate 16 0)),true⟩
theorem zxx:yp prog 119 ze4:=⟨⟨_,z8 Go.Proofs.Try.typeInfo119,rfl,rfl,fun _=>rfl⟩,⟨by simp [ze4,SV.ok,okL],by simp [ze4,Ty.agg],by simp [ze4,SV.size,z6]⟩,Go.Proofs.Try.underlying119,fun _=>⟨by decide+kernel,Go.Proofs.Try.eqGuardType119⟩⟩
def zet:TyI:=⟨(.arr 16 93),16,64,(.arr32 16 (List.replicate 16 0)),true⟩
theorem zy9:yp prog 120 zet:=⟨⟨_,z8 Go.Proofs.Try.typeInfo120,rfl,rfl,fun _=>rfl⟩,⟨by simp [zet,SV.ok,okL],by simp [zet,Ty.agg],by simp [zet,SV.size,z6]⟩,Go.Proofs.Try.underlying120,fun _=>⟨by decide+kernel,Go.Proofs.Try.eqGuardType120⟩⟩
def ze0:TyI:=⟨.ptr,1,8,(.nilptr),false⟩
theorem z0z:yp prog 124 ze0:=⟨⟨_,z8 Go.Proofs.Try.typeInfo124,rfl,rfl,fun _=>rfl⟩,⟨by simp [ze0,SV.ok,okL],by simp [ze0,Ty.agg],by simp [ze0,SV.size,z6]⟩,⟨_,Go.Proofs.Try.underlying124⟩,fun h=>by cases h⟩
def zmu:TyI:=⟨(.struct [(0,3),(1,9),(2,9),(3,3)]),4,48,(.agg [.int 0,.str [],.str [],.int 0]),true⟩
def zdp:TyI:=⟨(.struct [(0,3),(1,9),(2,9),(3,3)]),4,48,(.agg [.int 0,.str [],.str [],.int 0]),true⟩
theorem zlk:yp prog 130 zdp:=⟨⟨_,z8 Go.Proofs.Try.typeInfo130,rfl,rfl,fun _=>rfl⟩,⟨by simp [zdp,SV.ok,okL],by simp [zdp,Ty.agg],by simp [zdp,SV.size,z6]⟩,⟨_,Go.Proofs.Try.underlying130,rfl,by decide⟩,fun _=>⟨by decide+kernel,Go.Proofs.Try.eqGuardType130⟩⟩
def zdu:TyI:=⟨.ptr,1,8,(.nilptr),false⟩
theorem zkb:yp prog 134 zdu:=⟨⟨_,z8 Go.Proofs.Try.typeInfo134,rfl,rfl,fun _=>rfl⟩,⟨by simp [zdu,SV.ok,okL],by simp [zdu,Ty.agg],by simp [zdu,SV.size,z6]⟩,⟨_,Go.Proofs.Try.underlying134⟩,fun h=>by cases h⟩
def zbn:TyI:=⟨(.arr 4 5),4,4,(.arr8 4 [0,0,0,0]),true⟩
theorem zzw:yp prog 140 zbn:=⟨⟨_,z8 Go.Proofs.Try.typeInfo140,rfl,rfl,fun _=>rfl⟩,⟨by simp [zbn,SV.ok,okL],by simp [zbn,Ty.agg],by simp [zbn,SV.size,z6]⟩,Go.Proofs.Try.underlying140,fun _=>⟨by decide+kernel,Go.Proofs.Try.eqGuardType140⟩⟩
def zds:TyI:=⟨(.arr 256 5),256,256,(.arr8 256 (List.replicate 256 0)),true⟩
theorem zl1:yp prog 143 zds:=⟨⟨_,z8 Go.Proofs.Try.typeInfo143,rfl,rfl,fun _=>rfl⟩,⟨by simp [zds,SV.ok,okL],by simp [zds,Ty.agg],by simp [zds,SV.size,z6]⟩,Go.Proofs.Try.underlying143,fun _=>⟨by decide+kernel,Go.Proofs.Try.eqGuardType143⟩⟩
def zc5:TyI:=⟨(.sl 103),1,24,(.nilsl),false⟩
theorem zku:yp prog 145 zc5:=⟨⟨_,z8 Go.Proofs.Try.typeInfo145,rfl,rfl,fun _=>rfl⟩,⟨by simp [zc5,SV.ok,okL],by simp [zc5,Ty.agg],by simp [zc5,SV.size,z6]⟩,Go.Proofs.Try.underlying145,fun h=>by cases h⟩
def zmw:TyI:=⟨(.struct [(0,143),(256,145)]),257,280,(.agg [.arr8 256 (List.replicate 256 0),.nilsl]),false⟩
def zdb:TyI:=⟨(.struct [(0,143),(256,145)]),257,280,(.agg [.arr8 256 (List.replicate 256 0),.nilsl]),false⟩
theorem zk7:yp prog 147 zdb:=⟨⟨_,z8 Go.Proofs.Try.typeInfo147,rfl,rfl,fun _=>rfl⟩,⟨by simp [zdb,SV.ok,okL],by simp [zdb,Ty.agg],by simp [zdb,SV.size,z6]⟩,⟨_,Go.Proofs.Try.underlying147,rfl,by decide⟩,fun h=>by cases h⟩
def zeu:TyI:=⟨(.arr 5 91),5,40,(.arr64 5 [0,0,0,0,0]),true⟩
theorem zx8:yp prog 152 zeu:=⟨⟨_,z8 Go.Proofs.Try.typeInfo152,rfl,rfl,fun _=>rfl⟩,⟨by simp [zeu,SV.ok,okL],by simp [zeu,Ty.agg],by simp [zeu,SV.size,z6]⟩,Go.Proofs.Try.underlying152,fun _=>⟨by decide+kernel,Go.Proofs.Try.eqGuardType152⟩⟩
def zez:TyI:=⟨(.arr 5 91),5,40,(.arr64 5 [0,0,0,0,0]),true⟩
theorem zxz:yp prog 153 zez:=⟨⟨_,z8 Go.Proofs.Try.typeInfo153,rfl,rfl,fun _=>rfl⟩,⟨by simp [zez,SV.ok,okL],by simp [zez,Ty.agg],by simp [zez,SV.size,z6]⟩,Go.Proofs.Try.underlying153,fun _=>⟨by decide+kernel,Go.Proofs.Try.eqGuardType153⟩⟩
def zm2:TyI:=⟨(.struct [(0,153),(5,153)]),10,80,(.agg [.arr64 5 [0,0,0,0,0],.arr64 5 [0,0,0,0,0]]),true⟩
def zfw:TyI:=⟨(.struct [(0,153),(5,153)]),10,80,(.agg [.arr64 5 [0,0,0,0,0],.arr64 5 [0,0,0,0,0]]),true⟩
theorem zyf:yp prog 156 zfw:=⟨⟨_,z8 Go.Proofs.Try.typeInfo156,rfl,rfl,fun _=>rfl⟩,⟨by simp [zfw,SV.ok,okL],by simp [zfw,Ty.agg],by simp [zfw,SV.size,z6]⟩,⟨_,Go.Proofs.Try.underlying156,rfl,by decide⟩,fun _=>⟨by decide+kernel,Go.Proofs.Try.eqGuardType156⟩⟩
def ze6:TyI:=⟨.func,1,8,(.nilfn),false⟩
theorem zzc:yp prog 163 ze6:=⟨⟨_,z8 Go.Proofs.Try.typeInfo163,rfl,rfl,fun _=>rfl⟩,⟨by simp [ze6,SV.ok,okL],by simp [ze6,Ty.agg],by simp [ze6,SV.size,z6]⟩,⟨_,_,_,Go.Proofs.Try.underlying163⟩,fun h=>by cases h⟩
def zff:TyI:=⟨.ptr,1,8,(.nilptr),false⟩
theorem zw6:yp prog 173 zff:=⟨⟨_,z8 Go.Proofs.Try.typeInfo173,rfl,rfl,fun _=>rfl⟩,⟨by simp [zff,SV.ok,okL],by simp [zff,Ty.agg],by simp [zff,SV.size,z6]⟩,⟨_,Go.Proofs.Try.underlying173⟩,fun h=>by cases h⟩
def zft:TyI:=⟨(.arr 3 91),3,24,(.arr64 3 [0,0,0]),true⟩
theorem zx7:yp prog 175 zft:=⟨⟨_,z8 Go.Proofs.Try.typeInfo175,rfl,rfl,fun _=>rfl⟩,⟨by simp [zft,SV.ok,okL],by simp [zft,Ty.agg],by simp [zft,SV.size,z6]⟩,Go.Proofs.Try.underlying175,fun _=>⟨by decide+kernel,Go.Proofs.Try.eqGuardType175⟩⟩
def zep:TyI:=⟨.ptr,1,8,(.nilptr),false⟩
theorem zzt:yp prog 177 zep:=⟨⟨_,z8 Go.Proofs.Try.typeInfo177,rfl,rfl,fun _=>rfl⟩,⟨by simp [zep,SV.ok,okL],by simp [zep,Ty.agg],by simp [zep,SV.size,z6]⟩,⟨_,Go.Proofs.Try.underlying177⟩,fun h=>by cases h⟩
def zei:TyI:=⟨.ptr,1,8,(.nilptr),false⟩
theorem zqv:yp prog 183 zei:=⟨⟨_,z8 Go.Proofs.Try.typeInfo183,rfl,rfl,fun _=>rfl⟩,⟨by simp [zei,SV.ok,okL],by simp [zei,Ty.agg],by simp [zei,SV.size,z6]⟩,⟨_,Go.Proofs.Try.underlying183⟩,fun h=>by cases h⟩
def zms:TyI:=⟨(.struct [(0,183),(1,183)]),2,16,(.agg [.nilptr,.nilptr]),true⟩
def zfv:TyI:=⟨(.struct [(0,183),(1,183)]),2,16,(.agg [.nilptr,.nilptr]),true⟩
theorem zym:yp prog 185 zfv:=⟨⟨_,z8 Go.Proofs.Try.typeInfo185,rfl,rfl,fun _=>rfl⟩,⟨by simp [zfv,SV.ok,okL],by simp [zfv,Ty.agg],by simp [zfv,SV.size,z6]⟩,⟨_,Go.Proofs.Try.underlying185,rfl,by decide⟩,fun _=>⟨by decide+kernel,Go.Proofs.Try.eqGuardType185⟩⟩
def zfa:TyI:=⟨(.arr 8 91),8,64,(.arr64 8 [0,0,0,0,0,0,0,0]),true⟩
theorem z0a:yp prog 193 zfa:=⟨⟨_,z8 Go.Proofs.Try.typeInfo193,rfl,rfl,fun _=>rfl⟩,⟨by simp [zfa,SV.ok,okL],by simp [zfa,Ty.agg],by simp [zfa,SV.size,z6]⟩,Go.Proofs.Try.underlying193,fun _=>⟨by decide+kernel,Go.Proofs.Try.eqGuardType193⟩⟩
def zfk:TyI:=⟨(.arr 80 91),80,640,(.arr64 80 (List.replicate 80 0)),true⟩
theorem zye:yp prog 195 zfk:=⟨⟨_,z8 Go.Proofs.Try.typeInfo195,rfl,rfl,fun _=>rfl⟩,⟨by simp [zfk,SV.ok,okL],by simp [zfk,Ty.agg],by simp [zfk,SV.size,z6]⟩,Go.Proofs.Try.underlying195,fun _=>⟨by decide+kernel,Go.Proofs.Try.eqGuardType195⟩⟩
def zm1:TyI:=⟨(.struct [(0,3),(1,193),(9,195),(89,35),(90,91)]),91,744,(.agg [.int 0,.arr64 8 [0,0,0,0,0,0,0,0],.arr64 80 (List.replicate 80 0),.nilsl,.u64 0]),false⟩
def zen:TyI:=⟨(.struct [(0,3),(1,193),(9,195),(89,35),(90,91)]),91,744,(.agg [.int 0,.arr64 8 [0,0,0,0,0,0,0,0],.arr64 80 (List.replicate 80 0),.nilsl,.u64 0]),false⟩
theorem zqs:yp prog 198 zen:=⟨⟨_,z8 Go.Proofs.Try.typeInfo198,rfl,rfl,fun _=>rfl⟩,⟨by simp [zen,SV.ok,okL],by simp [zen,Ty.agg],by simp [zen,SV.size,z6]⟩,⟨_,Go.Proofs.Try.underlying198,rfl,by decide⟩,fun h=>by cases h⟩
def zew:TyI:=⟨(.arr 64 93),64,256,(.arr32 64 (List.replicate 64 0)),true⟩
theorem zzx:yp prog 199 zew:=⟨⟨_,z8 Go.Proofs.Try.typeInfo199,rfl,rfl,fun _=>rfl⟩,⟨by simp [zew,SV.ok,okL],by simp [zew,Ty.agg],by simp [zew,SV.size,z6]⟩,Go.Proofs.Try.underlying199,fun _=>⟨by decide+kernel,Go.Proofs.Try.eqGuardType199⟩⟩
def zfg:TyI:=⟨(.arr 8 93),8,32,(.arr32 8 [0,0,0,0,0,0,0,0]),true⟩
theorem zx4:yp prog 201 zfg:=⟨⟨_,z8 Go.Proofs.Try.typeInfo201,rfl,rfl,fun _=>rfl⟩,⟨by simp [zfg,SV.ok,okL],by simp [zfg,Ty.agg],by simp [zfg,SV.size,z6]⟩,Go.Proofs.Try.underlying201,fun _=>⟨by decide+kernel,Go.Proofs.Try.eqGuardType201⟩⟩
def znf:TyI:=⟨.ptr,1,8,(.nilptr),false⟩
theorem z8b:ty2.sz=1∧ty2.bytes=8∧ty3.sz=1∧ty3.bytes=8∧ty4.sz=1∧ty4.bytes=1∧ty5.sz=1∧ty5.bytes=1∧ty9.sz=1∧ty9.bytes=16∧zv4.sz=1∧zv4.bytes=8∧zdh.sz=1∧zdh.bytes=8∧zdd.sz=1∧zdd.bytes=24∧ziq.sz=1∧ziq.bytes=8∧zv1.sz=2∧zv1.bytes=24∧zec.sz=2∧zec.bytes=24∧zma.sz=1∧zma.bytes=24∧zkr.sz=1∧zkr.bytes=24∧zkp.sz=1∧zkp.bytes=24∧zv2.sz=2∧zv2.bytes=48∧zl2.sz=2∧zl2.bytes=48∧zjk.sz=1∧zjk.bytes=8∧zv6.sz=3∧zv6.bytes=40∧zkf.sz=3∧zkf.bytes=40∧zh7.sz=1∧zh7.bytes=8∧zv0.sz=2∧zv0.bytes=16∧zid.sz=2∧zid.bytes=16∧zvo.sz=5∧zvo.bytes=48∧zh9.sz=5∧zh9.bytes=48∧x4.sz=1∧x4.bytes=8∧zb7.sz=1∧zb7.bytes=4∧zla.sz=1∧zla.bytes=24∧zdn.sz=1∧zdn.bytes=8∧zcq.sz=16∧zcq.bytes=16∧zm3.sz=2∧zm3.bytes=16∧za9.sz=2∧za9.bytes=16∧znc.sz=3∧znc.bytes=24∧zee.sz=3∧zee.bytes=24∧zfm.sz=1∧zfm.bytes=8∧zfq.sz=32∧zfq.bytes=256∧zfd.sz=16∧zfd.bytes=128∧znr.sz=50∧znr.bytes=400∧zev.sz=50∧zev.bytes=400∧ze7.sz=64∧ze7.bytes=64∧ze4.sz=16∧ze4.bytes=64∧zet.sz=16∧zet.bytes=64∧ze0.sz=1∧ze0.bytes=8∧zmu.sz=4∧zmu.bytes=48∧zdp.sz=4∧zdp.bytes=48∧zdu.sz=1∧zdu.bytes=8∧zbn.sz=4∧zbn.bytes=4∧zds.sz=256∧zds.bytes=256∧zc5.sz=1∧zc5.bytes=24∧zmw.sz=257∧zmw.bytes=280∧zdb.sz=257∧zdb.bytes=280∧zeu.sz=5∧zeu.bytes=40∧zez.sz=5∧zez.bytes=40∧zm2.sz=10∧zm2.bytes=80∧zfw.sz=10∧zfw.bytes=80∧ze6.sz=1∧ze6.bytes=8∧zff.sz=1∧zff.bytes=8∧zft.sz=3∧zft.bytes=24∧zep.sz=1∧zep.bytes=8∧zei.sz=1∧zei.bytes=8∧zms.sz=2∧zms.bytes=16∧zfv.sz=2∧zfv.bytes=16∧zfa.sz=8∧zfa.bytes=64∧zfk.sz=80∧zfk.bytes=640∧zm1.sz=91∧zm1.bytes=744∧zen.sz=91∧zen.bytes=744∧zew.sz=64∧zew.bytes=256∧zfg.sz=8∧zfg.bytes=32∧znf.sz=1∧znf.bytes=8:=by
  refine ⟨rfl,rfl,rfl,rfl,rfl,rfl,rfl,rfl,rfl,rfl,rfl,rfl,rfl,rfl,rfl,rfl,rfl,rfl,rfl,rfl,rfl,rfl,rfl,rfl,rfl,rfl,rfl,rfl,rfl,rfl,rfl,rfl,rfl,rfl,rfl,rfl,rfl,rfl,rfl,rfl,rfl,rfl,rfl,rfl,rfl,rfl,rfl,rfl,rfl,rfl,rfl,rfl,rfl,rfl,rfl,rfl,rfl,rfl,rfl,rfl,rfl,rfl,rfl,rfl,rfl,rfl,rfl,rfl,rfl,rfl,rfl,rfl,rfl,rfl,rfl,rfl,rfl,rfl,rfl,rfl,rfl,rfl,rfl,rfl,rfl,rfl,rfl,rfl,rfl,rfl,rfl,rfl,rfl,rfl,rfl,rfl,rfl,rfl,rfl,rfl,rfl,rfl,rfl,rfl,rfl,rfl,rfl,rfl,rfl,rfl,rfl,rfl,rfl,rfl,rfl,rfl,rfl,rfl,rfl,rfl,rfl,rfl,rfl,rfl,rfl,rfl,rfl,rfl,rfl,rfl,rfl,rfl,rfl,rfl,rfl,rfl⟩
theorem z85:(∀{α:Type} {x y:List α},(x++y).length=x.length+y.length)∧(∀{α:Type} {i:Nat} {l:List α},(List.take i l).length=min i l.length)∧(∀{α:Type} {i:Nat} {l:List α},(List.drop i l).length=l.length-i)∧(∀{α:Type},([]:List α).length=0)∧(∀{α:Type} {a:α} {l:List α},(a ::l).length=l.length+1)∧(∀{α:Type} {n:Nat} {a:α},(List.replicate n a).length=n)∧(∀{α:Type} {l:List α} {i:Nat} {a:α},(l.set i a).length=l.length):=
  ⟨List.length_append,List.length_take,List.length_drop,List.length_nil,List.length_cons,List.length_replicate,List.length_set⟩
theorem sz:(∀(o:List (Nat×Nat)) (i e:Nat),off (yc o i e)=off o+i*e)∧(ty2.sz=1∧ty2.bytes=8∧ty3.sz=1∧ty3.bytes=8∧ty4.sz=1∧ty4.bytes=1∧ty5.sz=1∧ty5.bytes=1∧ty9.sz=1∧ty9.bytes=16∧zv4.sz=1∧zv4.bytes=8∧zdh.sz=1∧zdh.bytes=8∧zdd.sz=1∧zdd.bytes=24∧ziq.sz=1∧ziq.bytes=8∧zv1.sz=2∧zv1.bytes=24∧zec.sz=2∧zec.bytes=24∧zma.sz=1∧zma.bytes=24∧zkr.sz=1∧zkr.bytes=24∧zkp.sz=1∧zkp.bytes=24∧zv2.sz=2∧zv2.bytes=48∧zl2.sz=2∧zl2.bytes=48∧zjk.sz=1∧zjk.bytes=8∧zv6.sz=3∧zv6.bytes=40∧zkf.sz=3∧zkf.bytes=40∧zh7.sz=1∧zh7.bytes=8∧zv0.sz=2∧zv0.bytes=16∧zid.sz=2∧zid.bytes=16∧zvo.sz=5∧zvo.bytes=48∧zh9.sz=5∧zh9.bytes=48∧x4.sz=1∧x4.bytes=8∧zb7.sz=1∧zb7.bytes=4∧zla.sz=1∧zla.bytes=24∧zdn.sz=1∧zdn.bytes=8∧zcq.sz=16∧zcq.bytes=16∧zm3.sz=2∧zm3.bytes=16∧za9.sz=2∧za9.bytes=16∧znc.sz=3∧znc.bytes=24∧zee.sz=3∧zee.bytes=24∧zfm.sz=1∧zfm.bytes=8∧zfq.sz=32∧zfq.bytes=256∧zfd.sz=16∧zfd.bytes=128∧znr.sz=50∧znr.bytes=400∧zev.sz=50∧zev.bytes=400∧ze7.sz=64∧ze7.bytes=64∧ze4.sz=16∧ze4.bytes=64∧zet.sz=16∧zet.bytes=64∧ze0.sz=1∧ze0.bytes=8∧zmu.sz=4∧zmu.bytes=48∧zdp.sz=4∧zdp.bytes=48∧zdu.sz=1∧zdu.bytes=8∧zbn.sz=4∧zbn.bytes=4∧zds.sz=256∧zds.bytes=256∧zc5.sz=1∧zc5.bytes=24∧zmw.sz=257∧zmw.bytes=280∧zdb.sz=257∧zdb.bytes=280∧zeu.sz=5∧zeu.bytes=40∧zez.sz=5∧zez.bytes=40∧zm2.sz=10∧zm2.bytes=80∧zfw.sz=10∧zfw.bytes=80∧ze6.sz=1∧ze6.bytes=8∧zff.sz=1∧zff.bytes=8∧zft.sz=3∧zft.bytes=24∧zep.sz=1∧zep.bytes=8∧zei.sz=1∧zei.bytes=8∧zms.sz=2∧zms.bytes=16∧zfv.sz=2∧zfv.bytes=16∧zfa.sz=8∧zfa.bytes=64∧zfk.sz=80∧zfk.bytes=640∧zm1.sz=91∧zm1.bytes=744∧zen.sz=91∧zen.bytes=744∧zew.sz=64∧zew.bytes=256∧zfg.sz=8∧zfg.bytes=32∧znf.sz=1∧znf.bytes=8):=⟨fun o i e=>zv o i e,z8b⟩
theorem szl:((∀(o:List (Nat×Nat)) (i e:Nat),off (yc o i e)=off o+i*e)∧(ty2.sz=1∧ty2.bytes=8∧ty3.sz=1∧ty3.bytes=8∧ty4.sz=1∧ty4.bytes=1∧ty5.sz=1∧ty5.bytes=1∧ty9.sz=1∧ty9.bytes=16∧zv4.sz=1∧zv4.bytes=8∧zdh.sz=1∧zdh.bytes=8∧zdd.sz=1∧zdd.bytes=24∧ziq.sz=1∧ziq.bytes=8∧zv1.sz=2∧zv1.bytes=24∧zec.sz=2∧zec.bytes=24∧zma.sz=1∧zma.bytes=24∧zkr.sz=1∧zkr.bytes=24∧zkp.sz=1∧zkp.bytes=24∧zv2.sz=2∧zv2.bytes=48∧zl2.sz=2∧zl2.bytes=48∧zjk.sz=1∧zjk.bytes=8∧zv6.sz=3∧zv6.bytes=40∧zkf.sz=3∧zkf.bytes=40∧zh7.sz=1∧zh7.bytes=8∧zv0.sz=2∧zv0.bytes=16∧zid.sz=2∧zid.bytes=16∧zvo.sz=5∧zvo.bytes=48∧zh9.sz=5∧zh9.bytes=48∧x4.sz=1∧x4.bytes=8∧zb7.sz=1∧zb7.bytes=4∧zla.sz=1∧zla.bytes=24∧zdn.sz=1∧zdn.bytes=8∧zcq.sz=16∧zcq.bytes=16∧zm3.sz=2∧zm3.bytes=16∧za9.sz=2∧za9.bytes=16∧znc.sz=3∧znc.bytes=24∧zee.sz=3∧zee.bytes=24∧zfm.sz=1∧zfm.bytes=8∧zfq.sz=32∧zfq.bytes=256∧zfd.sz=16∧zfd.bytes=128∧znr.sz=50∧znr.bytes=400∧zev.sz=50∧zev.bytes=400∧ze7.sz=64∧ze7.bytes=64∧ze4.sz=16∧ze4.bytes=64∧zet.sz=16∧zet.bytes=64∧ze0.sz=1∧ze0.bytes=8∧zmu.sz=4∧zmu.bytes=48∧zdp.sz=4∧zdp.bytes=48∧zdu.sz=1∧zdu.bytes=8∧zbn.sz=4∧zbn.bytes=4∧zds.sz=256∧zds.bytes=256∧zc5.sz=1∧zc5.bytes=24∧zmw.sz=257∧zmw.bytes=280∧zdb.sz=257∧zdb.bytes=280∧zeu.sz=5∧zeu.bytes=40∧zez.sz=5∧zez.bytes=40∧zm2.sz=10∧zm2.bytes=80∧zfw.sz=10∧zfw.bytes=80∧ze6.sz=1∧ze6.bytes=8∧zff.sz=1∧zff.bytes=8∧zft.sz=3∧zft.bytes=24∧zep.sz=1∧zep.bytes=8∧zei.sz=1∧zei.bytes=8∧zms.sz=2∧zms.bytes=16∧zfv.sz=2∧zfv.bytes=16∧zfa.sz=8∧zfa.bytes=64∧zfk.sz=80∧zfk.bytes=640∧zm1.sz=91∧zm1.bytes=744∧zen.sz=91∧zen.bytes=744∧zew.sz=64∧zew.bytes=256∧zfg.sz=8∧zfg.bytes=32∧znf.sz=1∧znf.bytes=8))∧(∀{α:Type} {x y:List α},(x++y).length=x.length+y.length)∧(∀{α:Type} {i:Nat} {l:List α},(List.take i l).length=min i l.length)∧(∀{α:Type} {i:Nat} {l:List α},(List.drop i l).length=l.length-i)∧(∀{α:Type},([]:List α).length=0)∧(∀{α:Type} {a:α} {l:List α},(a ::l).length=l.length+1)∧(∀{α:Type} {n:Nat} {a:α},(List.replicate n a).length=n)∧(∀{α:Type} {l:List α} {i:Nat} {a:α},(l.set i a).length=l.length):=⟨sz,z85⟩
theorem pk {a:Array Oper} {b:Ctx} {c:List PStep} (h:zis a b c=true):zis a b c=true:=h
theorem zn {p k:Prop} (h:k) (hp:p:=by first|assumption|omega|exact pk (by kernel_rfl)|(unfold yh;omega)|exact UInt8.toNat_lt _|decide+kernel|(constructor<;>first|assumption|omega)|(simp only [sz,off,zs5]<;>omega)|(simp only [szl,off,zs5]<;>omega)|(constructor<;>first|assumption|(simp only [szl,off,zs5]<;>omega))):Pre p k:=zq hp h
theorem zf {t:Bool} {a b:Prop} (h:a) (e:t=true:=by first|rfl|assumption|(rw [decide_eq_true_eq];omega)|(simp<;>omega)):zr t a b:=zi e h
theorem zg {t:Bool} {a b:Prop} (h:b) (e:t=false:=by first|rfl|assumption|(rw [decide_eq_false_iff_not];omega)|(simp<;>omega)):zr t a b:=zj e h
structure Hid (Q:Prop):Prop where
  out:Q
theorem wk {P Q:Prop} (h:Q) (w:Hid Q→P:=by
    intro h
    repeat ((conv=>whnf);first|refine zn ?_|refine za ?_|refine zf ?_|refine zg ?_)
    conv=>whnf
    exact h.out):P:=w ⟨h⟩
theorem ze {n0:Nat} {r r':SV} {hp hp':List Blk} {K:SV→List Blk→Prop} (gl:List Nat) (hk:K r' hp') (h:zeo n0 gl [(0,r)] hp [(0,r')] hp' True:=by
    repeat ((conv=>whnf);refine za ?_)
    exact trivial):zbg n0 r hp K:=yl gl hk h
end Go.Sym.A

namespace Go.Sym.Aes
open Go.Sym.Lp
def tw (x:UInt8):UInt8:=(x<<<(1:UInt8))^^^((27:UInt8)&&&((0:UInt8)-(x>>>(7:UInt8))))
def rl8 (x:UInt8) (n:Nat):UInt8:=x<<<UInt8.ofNat n|||x>>>UInt8.ofNat (8-n)
def q1 (q:UInt8):UInt8:=q^^^q<<<1
def q2 (q:UInt8):UInt8:=q1 q^^^q1 q<<<2
def q3 (q:UInt8):UInt8:=q2 q^^^q2 q<<<4
def q4 (q:UInt8):UInt8:=q3 q^^^((9:UInt8)&&&((0:UInt8)-(q3 q>>>(7:UInt8))))
def pq:Nat→UInt8×UInt8
  |0=>(1,1)
  |i+1=>((pq i).1^^^tw (pq i).1,q4 (pq i).2)
def sb (q:UInt8):UInt8:=99^^^q^^^rl8 q 1^^^rl8 q 2^^^rl8 q 3^^^rl8 q 4
def znk:Nat→List UInt8
  |0=>99 ::List.replicate 255 0
  |i+1=>(znk i).set (pq (i+1)).1.toNat (sb (pq (i+1)).2)
set_option maxRecDepth 100000
theorem zng: ∀i,(znk i).length=256
  |0=>rfl
  |i+1=>by simp only [znk,List.length_set];exact zng i
def box:List UInt8:= [99,124,119,123,242,107,111,197,48,1,103,43,254,215,171,118,202,130,201,125,250,89,71,240,173,212,162,175,156,164,114,192,183,253,147,38,54,63,247,204,52,165,229,241,113,216,49,21,4,199,35,195,24,150,5,154,7,18,128,226,235,39,178,117,9,131,44,26,27,110,90,160,82,59,214,179,41,227,47,132,83,209,0,237,32,252,177,91,106,203,190,57,74,76,88,207,208,239,170,251,67,77,51,133,69,249,2,127,80,60,159,168,81,163,64,143,146,157,56,245,188,182,218,33,16,255,243,210,205,12,19,236,95,151,68,23,196,167,126,61,100,93,25,115,96,129,79,220,34,42,144,136,70,238,184,20,222,94,11,219,224,50,58,10,73,6,36,92,194,211,172,98,145,149,228,121,231,200,55,109,141,213,78,169,108,86,244,234,101,122,174,8,186,120,37,46,28,166,180,198,232,221,116,31,75,189,139,138,112,62,181,102,72,3,246,14,97,53,87,185,134,193,29,158,225,248,152,17,105,217,142,148,155,30,135,233,206,85,40,223,140,161,137,13,191,230,66,104,65,153,45,15,176,84,187,22]
theorem z32: ∀i,i<255→((pq (i+1)).1=1↔i+1=255):=by decide+kernel
theorem z2k:znk 255=box:=by decide+kernel
end Go.Sym.Aes
namespace Go.Sym.Aes
open Go.Sym.Lp
def rc:Nat→UInt8
  |0=>1
  |k+1=>tw (rc k)
def zb2 (n i:Nat) (t:List UInt8):List UInt8:=
  if i%n=0 then [box.getD (t.getD 1 0).toNat 0^^^rc ((i-1)/ n),box.getD (t.getD 2 0).toNat 0,box.getD (t.getD 3 0).toNat 0,box.getD (t.getD 0 0).toNat 0]
  else if n=8∧i%n=4 then (List.range 4).map fun k=>box.getD (t.getD k 0).toNat 0 else t
def zeg (key:List UInt8) (n i:Nat) (W:List UInt8):List UInt8:=
  if i<n then (key.drop (4*i)).take 4
  else (List.range 4).map fun k=>W.getD (4*(i-n)+k) 0^^^(zb2 n i ((W.drop (4*(i-1))).take 4)).getD k 0
def ks (key:List UInt8) (n:Nat):Nat→List UInt8
  |0=> []
  |i+1=>ks key n i++zeg key n i (ks key n i)
theorem zm8 {key:List UInt8} {n i:Nat} (hk:key.length=4*n) (W:List UInt8):(zeg key n i W).length=4:=by
  unfold zeg
  split
  ·rw [List.length_take,List.length_drop];omega
  ·simp
theorem zci {key:List UInt8} {n:Nat} (hk:key.length=4*n): ∀i,(ks key n i).length=4*i
  |0=>rfl
  |i+1=>by simp only [ks,List.length_append,zci hk i,zm8 hk];omega
end Go.Sym.Aes
namespace Go.Sym.Aes
open Go.Sym.Lp
def kw (key:List UInt8) (n N i:Nat):List UInt8:=ks key n i++List.replicate (N-4*i) 0
section
variable {key:List UInt8} {n N i:Nat} (hk:key.length=4*n)
include hk
theorem zw0 (h:4*i≤N):(kw key n N i).length=N:=by
  unfold kw;rw [List.length_append,zci hk,List.length_replicate];omega
theorem zl4 {j:Nat} (hj:j<4*i):(kw key n N i).getD j 0=(ks key n i).getD j 0:=by
  unfold kw
  rw [List.getD_eq_getElem?_getD,List.getElem?_append_left (by rw [zci hk];exact hj),List.getD_eq_getElem?_getD]
theorem z03 {j:Nat} (hj:j+4≤4*i):((kw key n N i).drop j).take 4=((ks key n i).drop j).take 4:=by
  unfold kw
  rw [List.drop_append_of_le_length (by rw [zci hk];omega),List.take_append_of_le_length (by rw [List.length_drop,zci hk];omega)]
theorem zt3 (h:4*i+4≤N) {v:List UInt8} (hv:v=zeg key n i (ks key n i)):(kw key n N i).take (4*i)++v++(kw key n N i).drop (4*i+4)=kw key n N (i+1):=by
  have hl:=zci hk i
  unfold kw
  subst hv
  rw [List.take_left' hl,List.drop_append,List.drop_eq_nil_of_le (by omega),List.nil_append,hl,List.drop_replicate,show N-4*i-(4*i+4-4*i)=N-4*(i+1) by omega]
  simp only [ks]
end
theorem zys {key:List UInt8} {n N i:Nat} (h:N=4*i):kw key n N i=ks key n i:=by unfold kw;rw [h,Nat.sub_self];simp
theorem zt9 {n i:Nat} (hn:0<n) (hi:n≤i) (h:i%n=0):tw (rc ((i-1)/ n))=rc (i/ n):=by
  obtain ⟨c,rfl⟩:=Nat.dvd_of_mod_eq_zero h
  have hc:0<c:=by
    rcases Nat.eq_zero_or_pos c with rfl|h
    ·omega
    ·exact h
  obtain ⟨d,rfl⟩: ∃d,c=d+1:=⟨c-1,by omega⟩
  have e1:(n*(d+1)-1)/ n=d:=by
    rw [Nat.mul_succ,show n*d+n-1=n*d+(n-1) by omega,Nat.mul_add_div hn,Nat.div_eq_of_lt (show n-1<n by omega),Nat.add_zero]
  rw [e1,Nat.mul_div_cancel_left _ hn]
  rfl
theorem zpo {n i:Nat} (hn:0<n) (h: ¬i%n=0):(i-1)/ n=i/ n:=by
  have h1:=Nat.div_add_mod i n
  have h2:=Nat.mod_lt i hn
  have e:i-1=n*(i/ n)+(i%n-1):=by omega
  rw [e,Nat.mul_add_div hn,Nat.div_eq_of_lt (show i%n-1<n by omega),Nat.add_zero]
theorem zqc {n i:Nat} (h:i<n):(i-1)/ n=i/ n:=by rw [Nat.div_eq_of_lt h,Nat.div_eq_of_lt (by omega)]
end Go.Sym.Aes
namespace Go.Sym.Aes
open Go.Sym.Lp
def kc (W:List UInt8) (i:Nat):List UInt8:=W.take (4*i)++List.replicate (W.length-4*i) 0
theorem zzj {W:List UInt8} {i:Nat} (h:4*i≤W.length):(kc W i).length=W.length:=by unfold kc;simp;omega
theorem zue (W:List UInt8):kc W 0=List.replicate W.length 0:=by unfold kc;simp
theorem zxh {W:List UInt8} {i:Nat} (h:W.length=4*i):kc W i=W:=by unfold kc;rw [h,Nat.sub_self,List.take_of_length_le (by omega)];simp
theorem z19 {W:List UInt8} {i:Nat} (h:4*i+4≤W.length):(kc W i).take (4*i)++(W.drop (4*i)).take 4++(kc W i).drop (4*i+4)=kc W (i+1):=by
  unfold kc
  have hl:(W.take (4*i)).length=4*i:=by rw [List.length_take];omega
  have hd:List.drop (4*i+4) (W.take (4*i))= []:=List.drop_eq_nil_of_le (by omega)
  rw [List.take_left' hl,List.drop_append,hd,List.nil_append,hl,List.drop_replicate,show W.length-4*i-(4*i+4-4*i)=W.length-4*(i+1) by omega]
  congr 1
  rw [Nat.mul_succ,List.take_add]
theorem ze1 {n i:Nat} {t:List UInt8} (h:t.length=4):(zb2 n i t).length=4:=by
  unfold zb2;split
  ·rfl
  ·split
   ·simp
   ·exact h
end Go.Sym.Aes
namespace Go.Sym.Aes
theorem zva:box.length=256:=by decide+kernel
theorem zby (x:UInt8):x.toNat<box.length:=by rw [zva];exact x.toNat_lt
end Go.Sym.Aes
namespace Go.Sym.Aes
open Go.Sym.Lp
def z0i (ks:List UInt8) (r:Nat) (x:List UInt8):List UInt8:=(List.range 16).map fun j=>x.getD j 0^^^ks.getD (16*r+j) 0
def zb9 (x:List UInt8):List UInt8:=(List.range 16).map fun i=>box.getD (x.getD ((i+4*(i%4))%16) 0).toNat 0
def zqm (t:List UInt8) (i:Nat):UInt8:=
  t.getD i 0^^^(t.getD (i/ 4*4) 0^^^t.getD (i/ 4*4+1) 0^^^t.getD (i/ 4*4+2) 0^^^t.getD (i/ 4*4+3) 0^^^tw (t.getD i 0^^^t.getD (i/ 4*4+(i+1)%4) 0))
def zmj (t:List UInt8):List UInt8:=(List.range 16).map (zqm t)
def rnd (ks:List UInt8) (R r:Nat) (x:List UInt8):List UInt8:=z0i ks r (if r<R-1 then zmj (zb9 x) else zb9 x)
def zgd (ks:List UInt8) (R:Nat) (x:List UInt8):Nat→List UInt8
  |0=>z0i ks 0 x
  |r+1=>rnd ks R (r+1) (zgd ks R x r)
def enc (ks:List UInt8) (R:Nat) (x:List UInt8):List UInt8:=zgd ks R x (R-1)
theorem zq1 (ks:List UInt8) (r:Nat) (x:List UInt8):(z0i ks r x).length=16:=z4 _ _
theorem zrk (x:List UInt8):(zb9 x).length=16:=z4 _ _
theorem zxv (x:List UInt8):(zmj x).length=16:=z4 _ _
theorem zm6 (ks:List UInt8) (R:Nat) (x:List UInt8): ∀r,(zgd ks R x r).length=16
  |0=>zq1 _ _ _
  |_+1=>zq1 _ _ _
theorem zjx (ks:List UInt8) (R:Nat) (x:List UInt8):(enc ks R x).length=16:=zm6 _ _ _ _
theorem zxp {T:List UInt8} {g:Nat→UInt8} {a:Nat} (h:a+4≤T.length) {u0 u1 u2 u3:UInt8}
    (h0:T.getD a 0^^^u0=g a) (h1:T.getD (a+1) 0^^^u1=g (a+1)) (h2:T.getD (a+2) 0^^^u2=g (a+2)) (h3:T.getD (a+3) 0^^^u3=g (a+3)) {X0 X1 X2 X3:List UInt8}
    (e0:X0=(ovr T 0 g a).set a ((ovr T 0 g a).getD a 0^^^u0)) (e1:X1=X0.set (a+1) (X0.getD (a+1) 0^^^u1)) (e2:X2=X1.set (a+2) (X1.getD (a+2) 0^^^u2)) (e3:X3=X2.set (a+3) (X2.getD (a+3) 0^^^u3)):
    X3=ovr T 0 g (a+4):=by
  have k0:X0=ovr T 0 g (a+1):=by
    rw [e0,yt (by omega) _ (by omega)]
    exact yb (by omega) h0 (by omega)
  have k1:X1=ovr T 0 g (a+2):=by
    rw [e1,k0,yt (by omega) _ (by omega)]
    exact yb (by omega) h1 (by omega)
  have k2:X2=ovr T 0 g (a+3):=by
    rw [e2,k1,yt (by omega) _ (by omega)]
    exact yb (by omega) h2 (by omega)
  rw [e3,k2,yt (by omega) _ (by omega)]
  exact yb (by omega) h3 (by omega)
end Go.Sym.Aes
namespace Go.Sym.Aes
open Go.Sym.Lp
theorem zjz (T:List UInt8) (c j:Nat) (h:j<4):zqm T (4*c+j)=T.getD (4*c+j) 0^^^(T.getD (4*c) 0^^^T.getD (4*c+1) 0^^^T.getD (4*c+2) 0^^^T.getD (4*c+3) 0^^^tw (T.getD (4*c+j) 0^^^T.getD (4*c+(j+1)%4) 0)):=by
  unfold zqm
  have e1:(4*c+j)/ 4*4=4*c:=by omega
  have e2:(4*c+j+1)%4=(j+1)%4:=by omega
  rw [e1,e2]
theorem zw9 {T:List UInt8} {c:Nat} (h:4*c+4≤T.length) {Y:List UInt8} (hY:Y=ovr T 0 (zqm T) (4*c)) {al:UInt8} (ha:al=Y.getD (4*c) 0^^^Y.getD (4*c+1) 0^^^Y.getD (4*c+2) 0^^^Y.getD (4*c+3) 0)
    {X0 X1 X2 X3:List UInt8} (e0:X0=Y.set (4*c) (Y.getD (4*c) 0^^^(al^^^tw (Y.getD (4*c) 0^^^Y.getD (4*c+1) 0))))
    (e1:X1=X0.set (4*c+1) (X0.getD (4*c+1) 0^^^(al^^^tw (Y.getD (4*c+1) 0^^^Y.getD (4*c+2) 0))))
    (e2:X2=X1.set (4*c+2) (X1.getD (4*c+2) 0^^^(al^^^tw (Y.getD (4*c+2) 0^^^Y.getD (4*c+3) 0))))
    (e3:X3=X2.set (4*c+3) (X2.getD (4*c+3) 0^^^(al^^^tw (Y.getD (4*c+3) 0^^^Y.getD (4*c) 0)))):X3=ovr T 0 (zqm T) (4*(c+1)):=by
  have hg: ∀j,4*c≤j→Y.getD j 0=T.getD j 0:=fun j hj=>by rw [hY];exact yt (by omega) _ (by omega) _
  rw [hg _ (by omega),hg _ (by omega),hg _ (by omega),hg _ (by omega)] at ha
  have m0:=zjz T c 0 (by omega)
  have m1:=zjz T c 1 (by omega)
  have m2:=zjz T c 2 (by omega)
  have m3:=zjz T c 3 (by omega)
  rw [←ha] at m0 m1 m2 m3
  rw [Nat.add_zero] at m0
  refine zxp (by omega) m0.symm m1.symm m2.symm m3.symm (X0:=X0) (X1:=X1) (X2:=X2) ?_ ?_ ?_ ?_
  ·rw [e0,←hY,hg (4*c) (by omega),hg (4*c+1) (by omega)]
  ·rw [e1,hg (4*c+1) (by omega),hg (4*c+2) (by omega)]
  ·rw [e2,hg (4*c+2) (by omega),hg (4*c+3) (by omega)]
  ·rw [e3,hg (4*c+3) (by omega),hg (4*c) (by omega)];rfl
end Go.Sym.Aes
namespace Go.Sym.Aes
open Go.Sym.Lp
end Go.Sym.Aes
namespace Go.Sym.Aes
open Go.Sym.Lp
end Go.Sym.Aes
namespace Go.Sym.Aes
end Go.Sym.Aes
namespace Go.Sym.Aes
end Go.Sym.Aes

namespace Go.Sym.A
open Go Go.Proofs.Try Go.Sym.Lp Go.Sym.Aes
set_option maxRecDepth 100000
def z7v:List (Nat×List PStep):= []
def z9n:List (Nat×List PStep):= []
def z7y:List (Nat×List PStep):= []
def z7x:List (Nat×TyI):= [(3,ty3),(4,ty4),(5,ty5),(9,ty9),(34,zdh),(35,zdd),(103,zcq),(100,zdn),(140,zbn),(96,zla),(145,zc5),(143,zds),(147,zdb)]
theorem zeq: ∀t i,yw z7x t=some i→yp prog t i:=(zc ty3_ok (zc zc3 (zc zcz (zc ty9_ok (zc zbh (zc zbl (zc zgz (zc zln (zc zzw (zc z2i (zc zku (zc zl1 (zc zk7 zao)))))))))))))
def zxl:Spec:=fun args hp K=>match args,hp with
  | [.u8 x,.int k],[]=>Pre (k=1∨k=2∨k=3∨k=4) (K (.u8 (rl8 x k.toNat)) [])
  |_,_=>False
def ztd:Spec:=fun args hp K=>match args,hp with
  | [.u8 x],[]=>K (.u8 (tw x)) []
  |_,_=>False
def zsq:Spec:=fun args hp K=>match args,hp with
  | [],[]=>K (.arr8 256 box) []
  |_,_=>False
theorem z5u:zp prog 118 zxl:=by
  refine zo zeq zk rfl func118 rfl call118 (D:=z7v) ?_ ?_
  ·intro args hp K h
   unfold zxl at h
   split at h
   ·exact Nat.le_of_ble_eq_true rfl
   ·exact h.elim
  ·intro args hp K h
   unfold zxl at h
   split at h
   ·rename_i x k
    obtain ⟨hk,h⟩:=zl h
    rcases hk with rfl|rfl|rfl|rfl
    all_goals
      refine wk ?_
      exact ze (hp':= []) [] h
   ·exact h.elim
theorem zp0:zp prog 97 ztd:=by
  refine zo zeq zk rfl func97 rfl call97 (D:=z9n) ?_ ?_
  ·intro args hp K h
   unfold ztd at h
   split at h
   ·exact Nat.le_of_ble_eq_true rfl
   ·exact h.elim
  ·intro args hp K h
   unfold ztd at h
   split at h
   ·refine wk ?_
    exact ze (hp':= []) [] h
   ·exact h.elim
theorem z16:zp prog 96 zsq:=by
  refine zo zeq (zd zp0 (zd z5u zk)) rfl func96 rfl call96 (D:=z7y) ?_ ?_
  ·intro args hp K h
   unfold zsq at h
   split at h
   ·exact Nat.le_of_ble_eq_true rfl
   ·exact h.elim
  ·intro args hp K h
   unfold zsq at h
   split at h
   ·refine wk ?_
    refine zt (Ix (254)) (fun q=>⟨[(0,.ptr 0 0 0 []),(1,.ptr 1 0 0 []),(2,.u8 (pq q.i).1),(3,.u8 (pq q.i).2)],[.mk 143 [.arr8 256 (List.replicate 256 0)],.mk 143 [.arr8 256 (znk q.i)]]⟩) (fun q=>(254)-q.i) ⟨0,Nat.zero_le _⟩ [0,1] ?_ ?_
    ·repeat ((conv=>whnf);refine za ?_)
     exact trivial
    ·intro q
     have hi:=q.hi
     have hl:=zng q.i
     have he:=z32 q.i (by omega)
     have hu:((pq q.i).1^^^tw (pq q.i).1).toNat<256:=((pq q.i).1^^^tw (pq q.i).1).toNat_lt
     by_cases h4:q.i+1≤254
     ·have hd:decide ((pq (q.i+1)).1=UInt8.ofNat 1)=false:=decide_eq_false (fun e=>by have:=he.1 e;omega)
      repeat ((conv=>whnf);first|refine zn ?_|refine zf ?_|refine zg ?_|refine za ?_|refine zq (by first|exact hd|(rw [hd];rfl)) ?_|refine zi (by first|exact hd|(rw [hd];rfl)) ?_|refine zj (by first|exact hd|(rw [hd];rfl)) ?_)
      conv=>whnf
      refine ⟨⟨q.i+1,h4⟩,[0,1],by show (254)-(q.i+1)<(254)-q.i;omega,?_⟩
      repeat ((conv=>whnf);refine za ?_)
      exact trivial
     ·have e4:q.i=254:=by omega
      have hd:decide ((pq (q.i+1)).1=UInt8.ofNat 1)=true:=decide_eq_true (he.2 (by omega))
      repeat ((conv=>whnf);first|refine zn ?_|refine zf ?_|refine zg ?_|refine za ?_|refine zq (by first|exact hd|(rw [hd];rfl)) ?_|refine zi (by first|exact hd|(rw [hd];rfl)) ?_|refine zj (by first|exact hd|(rw [hd];rfl)) ?_)
      have e5:znk (q.i+1)=box:=by rw [e4];exact z2k
      conv=>whnf
      refine yl (hp':= []) [] h ?_
      repeat ((conv=>whnf);refine za ?_)
      conv=>whnf
      refine zh (congrArg (SV.arr8 256) e5) ?_
      repeat ((conv=>whnf);refine za ?_)
      exact trivial
   ·exact h.elim
end Go.Sym.A

namespace Go.Sym.Gcm
open Go.Sym.Lp
abbrev El:=UInt64×UInt64
def R64:UInt64:=16212958658533785600
def xr (a b:El):El:=(a.1^^^b.1,a.2^^^b.2)
def z0:El:=(0,0)
def msk (l:UInt64):UInt64:=R64&&&(0-(l&&&1))
def y7 (e:El):El:=(e.1>>>1^^^msk e.2,e.2>>>1|||e.1<<<63)
theorem z5o (a:El):xr a z0=a:=by
  unfold xr z0;simp
theorem z9b (a:El):xr z0 a=a:=by
  unfold xr z0;simp
theorem zo0 (a b:El):xr a b=xr b a:=by
  unfold xr;rw [UInt64.xor_comm,UInt64.xor_comm a.2]
theorem zro (a b c:El):xr (xr a b) c=xr a (xr b c):=by
  unfold xr;simp only [UInt64.xor_assoc]
theorem z7j (l:UInt64):l&&&1=0∨l&&&1=1:=by
  have h:(l&&&1).toNat=l.toNat%2:=by
    rw [UInt64.toNat_and];show l.toNat&&&(2^1-1)=_;rw [Nat.and_two_pow_sub_one_eq_mod]
  have h2:l.toNat%2=0∨l.toNat%2=1:=by omega
  rcases h2 with h2|h2
  ·left;apply UInt64.toNat_inj.1;rw [h,h2];rfl
  ·right;apply UInt64.toNat_inj.1;rw [h,h2];rfl
theorem zyc (a b:UInt64):(a^^^b)&&&1=(a&&&1)^^^(b&&&1):=by
  apply UInt64.toNat_inj.1
  simp only [UInt64.toNat_and,UInt64.toNat_xor]
  apply Nat.eq_of_testBit_eq
  intro i
  simp only [Nat.testBit_and,Nat.testBit_xor]
  cases Nat.testBit a.toNat i<;>cases Nat.testBit b.toNat i<;>cases Nat.testBit (UInt64.toNat 1) i<;>rfl
theorem z1y (a b:UInt64):msk (a^^^b)=msk a^^^msk b:=by
  unfold msk
  rw [zyc]
  rcases z7j a with h|h<;>rcases z7j b with h'|h'<;>rw [h,h']<;>decide
theorem zuk (a b k:UInt64):(a^^^b)>>>k=a>>>k^^^b>>>k:=by
  apply UInt64.toNat_inj.1
  simp only [UInt64.toNat_xor,UInt64.toNat_shiftRight]
  apply Nat.eq_of_testBit_eq
  intro i
  simp only [Nat.testBit_xor,Nat.testBit_shiftRight]
theorem z1a (a b k:UInt64):(a^^^b)<<<k=a<<<k^^^b<<<k:=by
  apply UInt64.toNat_inj.1
  simp only [UInt64.toNat_xor,UInt64.toNat_shiftLeft]
  apply Nat.eq_of_testBit_eq
  intro i
  simp only [Nat.testBit_xor,Nat.testBit_mod_two_pow,Nat.testBit_shiftLeft]
  cases decide (i<64)<;>cases decide (i≥UInt64.toNat k%64)<;>simp
theorem z3s {k:Nat} (hk:k<64) (l h:UInt64) (hl:l.toNat<2^k):l|||h<<<UInt64.ofNat k=l^^^h<<<UInt64.ofNat k:=by
  have hk2:(UInt64.ofNat k).toNat=k:=by rw [UInt64.toNat_ofNat'];omega
  apply UInt64.toNat_inj.1
  simp only [UInt64.toNat_xor,UInt64.toNat_or,UInt64.toNat_shiftLeft]
  rw [hk2,Nat.mod_eq_of_lt hk]
  apply Nat.eq_of_testBit_eq
  intro i
  simp only [Nat.testBit_xor,Nat.testBit_or,Nat.testBit_mod_two_pow,Nat.testBit_shiftLeft]
  by_cases hi:i<k
  ·have e:decide (i≥k)=false:=decide_eq_false (by omega)
   rw [e];simp
  ·have e:Nat.testBit l.toNat i=false:=Nat.testBit_lt_two_pow (Nat.lt_of_lt_of_le hl (Nat.pow_le_pow_right (by decide) (by omega)))
   rw [e];simp
theorem zk8 (e:El):(y7 e).2=e.2>>>1^^^e.1<<<63:=by
  have h:=z3s (k:=63) (by decide) (e.2>>>1) e.1 (by
    rw [UInt64.toNat_shiftRight];have:=e.2.toNat_lt;show e.2.toNat>>>1<9223372036854775808;rw [Nat.shiftRight_eq_div_pow];omega)
  exact h
theorem ztt (a b:El):y7 (xr a b)=xr (y7 a) (y7 b):=by
  refine Prod.ext ?_ ?_
  ·show (a.1^^^b.1)>>>1^^^msk (a.2^^^b.2)=(a.1>>>1^^^msk a.2)^^^(b.1>>>1^^^msk b.2)
   rw [zuk,z1y]
   generalize a.1>>>1=p
   generalize b.1>>>1=q
   generalize msk a.2=r
   generalize msk b.2=s
   rw [UInt64.xor_assoc,UInt64.xor_assoc,←UInt64.xor_assoc q,UInt64.xor_comm q,UInt64.xor_assoc r]
  ·show (y7 (xr a b)).2=(y7 a).2^^^(y7 b).2
   rw [zk8,zk8,zk8]
   show (a.2^^^b.2)>>>1^^^(a.1^^^b.1)<<<63=_
   rw [zuk,z1a]
   generalize a.2>>>1=p
   generalize b.2>>>1=q
   generalize a.1<<<63=r
   generalize b.1<<<63=s
   rw [UInt64.xor_assoc,UInt64.xor_assoc,←UInt64.xor_assoc q,UInt64.xor_comm q,UInt64.xor_assoc r]
theorem zzo:y7 z0=z0:=by decide
def hf4 (e:El):El:=y7 (y7 (y7 (y7 e)))
theorem z3r (a b:El):hf4 (xr a b)=xr (hf4 a) (hf4 b):=by
  unfold hf4;simp only [ztt]
def toN (e:El):Nat:=e.1.toNat*18446744073709551616+e.2.toNat
theorem zup {a b:El} (h:toN a=toN b):a=b:=by
  unfold toN at h
  have h1:=a.2.toNat_lt
  have h2:=b.2.toNat_lt
  have e1:a.1.toNat=b.1.toNat:=by omega
  have e2:a.2.toNat=b.2.toNat:=by omega
  exact Prod.ext (UInt64.toNat_inj.1 e1) (UInt64.toNat_inj.1 e2)
theorem zv5 (x:UInt64) {k:Nat} (h:k<64):(x>>>UInt64.ofNat k).toNat=x.toNat/ 2^k:=by
  have hk:(UInt64.ofNat k).toNat=k:=by rw [UInt64.toNat_ofNat'];omega
  rw [UInt64.toNat_shiftRight,hk,Nat.mod_eq_of_lt h,Nat.shiftRight_eq_div_pow]
theorem orN {l h:UInt64} {k m:Nat} (hl:l.toNat<2^k) (hh:h.toNat=2^k*m):(l|||h).toNat=l.toNat+2^k*m:=by
  rw [UInt64.toNat_or,hh,Nat.or_comm,←Nat.two_pow_add_eq_or_of_lt hl,Nat.add_comm]
theorem zf8 {e:El} (h:e.2.toNat%2=0):toN (y7 e)=toN e/ 2:=by
  have hm:msk e.2=0:=by
    unfold msk
    have h1:(e.2&&&1)=0:=by
      apply UInt64.toNat_inj.1
      rw [UInt64.toNat_and];show e.2.toNat&&&(2^1-1)=0;rw [Nat.and_two_pow_sub_one_eq_mod];exact h
    rw [h1];decide
  have e1:(y7 e).1=e.1>>>UInt64.ofNat 1:=by
    show e.1>>>1^^^msk e.2=_
    rw [hm,UInt64.xor_zero];rfl
  have s1:=zv5 e.1 (k:=1) (by decide)
  have s2:(e.2>>>1).toNat=e.2.toNat/ 2:=zv5 e.2 (k:=1) (by decide)
  have hl:=e.2.toNat_lt
  have s3:(e.1<<<63).toNat=2^63*(e.1.toNat%2):=by
    rw [UInt64.toNat_shiftLeft,Nat.shiftLeft_eq];show e.1.toNat*9223372036854775808%18446744073709551616=9223372036854775808*_;omega
  have e2:(y7 e).2.toNat=e.2.toNat/ 2+9223372036854775808*(e.1.toNat%2):=by
    have:=orN (l:=e.2>>>1) (h:=e.1<<<63) (k:=63) (m:=e.1.toNat%2) (by rw [s2];omega) s3
    rw [s2] at this
    exact this
  unfold toN
  rw [e1,s1,e2]
  omega
def sh4 (e:El):El:=(e.1>>>4,e.2>>>4|||e.1<<<60)
theorem zzi (e:El):toN (sh4 e)=toN e/ 16:=by
  have s1:(e.1>>>4).toNat=e.1.toNat/ 16:=zv5 e.1 (k:=4) (by decide)
  have s2:(e.2>>>4).toNat=e.2.toNat/ 16:=zv5 e.2 (k:=4) (by decide)
  have hl:=e.2.toNat_lt
  have s3:(e.1<<<60).toNat=2^60*(e.1.toNat%16):=by
    rw [UInt64.toNat_shiftLeft,Nat.shiftLeft_eq];show e.1.toNat*1152921504606846976%18446744073709551616=1152921504606846976*_;omega
  have e2:(sh4 e).2.toNat=e.2.toNat/ 16+1152921504606846976*(e.1.toNat%16):=by
    have:=orN (l:=e.2>>>4) (h:=e.1<<<60) (k:=60) (m:=e.1.toNat%16) (by rw [s2];omega) s3
    rw [s2] at this
    exact this
  unfold toN
  rw [e2]
  show (e.1>>>4).toNat*_+_=_
  rw [s1]
  omega
theorem zx2 {e:El} (h:e.2.toNat%16=0):hf4 e=sh4 e:=by
  have hN:toN e%16=0:=by unfold toN;omega
  have even: ∀{a:El},toN a%2=0→a.2.toNat%2=0:=fun {a} ha=>by unfold toN at ha;omega
  apply zup
  have h1:=zf8 (e:=e) (by omega)
  have h2:=zf8 (e:=y7 e) (even (by omega))
  have h3:=zf8 (e:=y7 (y7 e)) (even (by omega))
  have h4:=zf8 (e:=y7 (y7 (y7 e))) (even (by omega))
  unfold hf4
  rw [h4,h3,h2,h1,zzi]
  omega
def zgv (i:Nat):UInt64:=(hf4 (0,UInt64.ofNat i)).1
theorem zwd: ∀i,i<16→hf4 (0,UInt64.ofNat i)=(zgv i,0):=by decide
theorem zqw (l:UInt64):(l&&&15).toNat=l.toNat%16:=by
  rw [UInt64.toNat_and];show l.toNat&&&(2^4-1)=_;rw [Nat.and_two_pow_sub_one_eq_mod]
theorem z1c (l:UInt64):(l>>>4)<<<4^^^(l&&&15)=l:=by
  apply UInt64.toNat_inj.1
  rw [UInt64.toNat_xor,UInt64.toNat_and,UInt64.toNat_shiftLeft,UInt64.toNat_shiftRight]
  apply Nat.eq_of_testBit_eq
  intro i
  rw [Nat.testBit_xor,Nat.testBit_and,Nat.testBit_mod_two_pow]
  show ((decide (i<64)&&Nat.testBit ((l.toNat>>>4)<<<4) i) ^^(Nat.testBit l.toNat i&&Nat.testBit (2^4-1) i))=_
  rw [Nat.testBit_shiftLeft,Nat.testBit_shiftRight,Nat.testBit_two_pow_sub_one]
  by_cases h4:i<4
  ·rw [decide_eq_true h4,decide_eq_false (show ¬i≥4 by omega)];simp
  ·rw [decide_eq_false h4,decide_eq_true (show i≥4 by omega)]
   by_cases h64:i<64
   ·rw [decide_eq_true h64,show 4+(i-4)=i by omega];simp
   ·rw [decide_eq_false h64]
    have:Nat.testBit l.toNat i=false:=Nat.testBit_lt_two_pow (Nat.lt_of_lt_of_le l.toNat_lt (Nat.pow_le_pow_right (by decide) (by omega)))
    rw [this];simp
theorem z3v (e:El):hf4 e=((sh4 e).1^^^zgv (e.2&&&15).toNat,(sh4 e).2):=by
  have hs:e=xr (e.1,(e.2>>>4)<<<4) (0,e.2&&&15):=by
    unfold xr
    refine Prod.ext ?_ ?_
    ·show e.1=e.1^^^0;rw [UInt64.xor_zero]
    ·exact (z1c e.2).symm
  have h15:=zqw e.2
  have hq:UInt64.ofNat (e.2&&&15).toNat=e.2&&&15:=UInt64.ofNat_toNat
  have hsm:=zwd (e.2&&&15).toNat (by rw [h15];omega)
  rw [hq] at hsm
  have s2:(e.2>>>4).toNat=e.2.toNat/ 16:=zv5 e.2 (k:=4) (by decide)
  have hl:=e.2.toNat_lt
  have s3:((e.2>>>4)<<<4).toNat=16*(e.2.toNat/ 16):=by
    rw [UInt64.toNat_shiftLeft,s2,Nat.shiftLeft_eq];show e.2.toNat/ 16*16%18446744073709551616=_;omega
  have hev:=zx2 (e:=(e.1,(e.2>>>4)<<<4)) (by show ((e.2>>>4)<<<4).toNat%16=0;rw [s3];omega)
  have hsh:sh4 (e.1,(e.2>>>4)<<<4)=sh4 e:=by
    apply zup
    rw [zzi,zzi]
    unfold toN
    rw [s3]
    show (e.1.toNat*_+_)/ 16=_
    omega
  conv=>lhs;rw [hs]
  rw [z3r,hsm,hev,hsh]
  unfold xr
  refine Prod.ext rfl ?_
  show (sh4 e).2^^^0=_
  rw [UInt64.xor_zero]
def zcm (P:Nat→Bool):El→Nat→El
  |_,0=>z0
  |h,n+1=>xr (if P 0=true then h else z0) (zcm (fun j=>P (j+1)) (y7 h) n)
theorem z2j (c:Bool) (h:El):y7 (if c=true then h else z0)=if c=true then y7 h else z0:=by
  cases c
  ·exact zzo
  ·rfl
theorem zg7 (n:Nat): ∀(P:Nat→Bool) (h:El),y7 (zcm P h n)=zcm P (y7 h) n:=by
  induction n with
  |zero=>intro P h;exact zzo
  |succ n ih=>intro P h;simp only [zcm];rw [ztt,z2j,ih]
theorem zyy (n:Nat): ∀(P:Nat→Bool) (h:El),zcm P h (n+1)=xr (zcm P h n) (if P n=true then (Nat.repeat y7 n h) else z0):=by
  induction n with
  |zero=>intro P h;simp only [zcm,Nat.repeat];rw [z5o,z9b]
  |succ n ih=>
   intro P h
   have hr: ∀m (g:El),Nat.repeat y7 m (y7 g)=y7 (Nat.repeat y7 m g):=by
     intro m
     induction m with
     |zero=>intro g;rfl
     |succ m ihm=>intro g;simp only [Nat.repeat];rw [ihm]
   rw [zcm,ih,←zro,hr]
   rfl
theorem z0t (n:Nat) (P:Nat→Bool) (h:El):
    zcm P h (n+4)=xr (hf4 (zcm (fun j=>P (j+4)) h n)) (zcm P h 4):=by
  have e:hf4 (zcm (fun j=>P (j+4)) h n)=zcm (fun j=>P (j+4)) (y7 (y7 (y7 (y7 h)))) n:=by
    unfold hf4;rw [zg7,zg7,zg7,zg7]
  rw [e,zo0]
  simp only [zcm]
  rw [z5o]
  simp only [zro]
theorem zi7 (n:Nat): ∀{P Q:Nat→Bool} (h:El),(∀j,j<n→P j=Q j)→zcm P h n=zcm Q h n:=by
  induction n with
  |zero=>intro P Q h _;rfl
  |succ n ih=>
   intro P Q h hp
   simp only [zcm]
   rw [hp 0 (by omega),ih (y7 h) (fun j hj=>hp (j+1) (by omega))]
def g6 (x:List UInt64) (i:Nat):UInt64:=x.getD i 0
def tbI (bit:Nat) (x:El) (T:List UInt64):Nat→List UInt64
  |0=>T
  |i+1=>if i&&&bit=0 then tbI bit x T i else ((tbI bit x T i).set (2*i) (g6 (tbI bit x T i) (2*i)^^^x.1)).set (2*i+1) (g6 ((tbI bit x T i).set (2*i) (g6 (tbI bit x T i) (2*i)^^^x.1)) (2*i+1)^^^x.2)
theorem zht (bit:Nat) (x:El) (T:List UInt64): ∀i,(tbI bit x T i).length=T.length
  |0=>rfl
  |i+1=>by
   simp only [tbI]
   split
   ·exact zht bit x T i
   ·rw [List.length_set,List.length_set];exact zht bit x T i
def ent (T:List UInt64) (d:Nat):El:=(g6 T (2*d),g6 T (2*d+1))
theorem zsl {T:List UInt64} {i j:Nat} {v:UInt64} (h:j<T.length):g6 (T.set j v) i=if i=j then v else g6 T i:=by
  unfold g6
  by_cases e:i=j
  ·rw [if_pos e,e,List.getD_eq_getElem?_getD,List.getElem?_set_self h];rfl
  ·rw [if_neg e,List.getD_eq_getElem?_getD,List.getElem?_set_ne (by omega),←List.getD_eq_getElem?_getD]
theorem z1z {T:List UInt64} (hT:T.length=32) {n:Nat} (hn:n<16) (v w:UInt64) (d:Nat):ent ((T.set (2*n) v).set (2*n+1) w) d=if d=n then (v,w) else ent T d:=by
  have l2:(T.set (2*n) v).length=32:=by rw [List.length_set];exact hT
  have g1: ∀i,g6 ((T.set (2*n) v).set (2*n+1) w) i=if i=2*n+1 then w else if i=2*n then v else g6 T i:=fun i=>by
    rw [zsl (by omega),zsl (by omega)]
  unfold ent
  rw [g1,g1]
  by_cases e:d=n
  ·rw [if_pos e,e,if_neg (by omega),if_pos rfl,if_pos rfl]
  ·rw [if_neg e,if_neg (by omega),if_neg (by omega),if_neg (by omega),if_neg (by omega)]
theorem zum {bit:Nat} {x:El} {T:List UInt64} (hT:T.length=32) {d:Nat} (hd:d<16): ∀n,n≤16→ent (tbI bit x T n) d=if d<n∧d&&&bit≠0 then xr (ent T d) x else ent T d
  |0,_=>by rw [if_neg (by omega)];rfl
  |n+1,hn=>by
   have ih:=zum (bit:=bit) (x:=x) hT hd n (by omega)
   have hl:=(zht bit x T n).trans hT
   by_cases hb:n&&&bit=0
   ·have e:tbI bit x T (n+1)=tbI bit x T n:=by simp only [tbI];rw [if_pos hb]
    rw [e,ih]
    by_cases hdn:d=n
    ·rw [if_neg (fun hh=>hh.2 (by rw [hdn];exact hb)),if_neg (fun hh=>hh.2 (by rw [hdn];exact hb))]
    ·by_cases hc:d<n∧d&&&bit≠0
     ·rw [if_pos hc,if_pos ⟨by omega,hc.2⟩]
     ·rw [if_neg hc,if_neg (fun hh=>hc ⟨by omega,hh.2⟩)]
   ·have e:tbI bit x T (n+1)=((tbI bit x T n).set (2*n) (g6 (tbI bit x T n) (2*n)^^^x.1)).set (2*n+1) (g6 ((tbI bit x T n).set (2*n) (g6 (tbI bit x T n) (2*n)^^^x.1)) (2*n+1)^^^x.2):=by simp only [tbI];rw [if_neg hb]
    have g1:g6 ((tbI bit x T n).set (2*n) (g6 (tbI bit x T n) (2*n)^^^x.1)) (2*n+1)=g6 (tbI bit x T n) (2*n+1):=by
      rw [zsl (by omega),if_neg (by omega)]
    rw [e,g1,z1z hl (by omega)]
    by_cases hdn:d=n
    ·rw [if_pos hdn,if_pos ⟨by omega,by rw [hdn];exact hb⟩]
     rw [if_neg (by omega)] at ih
     rw [←ih,hdn]
     rfl
    ·rw [if_neg hdn,ih]
     by_cases hc:d<n∧d&&&bit≠0
     ·rw [if_pos hc,if_pos ⟨by omega,hc.2⟩]
     ·rw [if_neg hc,if_neg (fun hh=>hc ⟨by omega,hh.2⟩)]
def tbO (h:El):Nat→List UInt64
  |0=>List.replicate 32 0
  |k+1=>tbI (8/ 2^k) (Nat.repeat y7 k h) (tbO h k) 16
theorem zjv (h:El): ∀k,(tbO h k).length=32
  |0=>rfl
  |k+1=>by rw [tbO,zht];exact zjv h k
def tb (h:El):List UInt64:=tbO h 4
theorem z51 (h:El):(tb h).length=32:=zjv h 4
theorem z2m (h:El) {d:Nat} (hd:d<16) (k:Nat):ent (tbO h (k+1)) d=xr (ent (tbO h k) d) (if d&&&(8/ 2^k)≠0 then Nat.repeat y7 k h else z0):=by
  rw [tbO,zum (zjv h k) hd 16 (Nat.le_refl _)]
  by_cases hc:d&&&(8/ 2^k)≠0
  ·rw [if_pos ⟨hd,hc⟩,if_pos hc]
  ·rw [if_neg (fun hh=>hc hh.2),if_neg hc,z5o]
def dig (d j:Nat):Bool:=decide (d/ 2^(3-j)%2=1)
theorem z09: ∀d,d<16→ ∀k,k<4→(dig d k=true↔d&&&(8/ 2^k)≠0):=by decide
theorem z9s (h:El): ∀d,d<16→ent (List.replicate 32 0) d=z0:=by decide
theorem z4l (h:El) {d:Nat} (hd:d<16):ent (tb h) d=zcm (dig d) h 4:=by
  have hs: ∀k,k≤4→ent (tbO h k) d=zcm (dig d) h k:=by
    intro k
    induction k with
    |zero=>intro _;exact z9s h d hd
    |succ k ih=>
     intro hk
     rw [z2m h hd,zyy,ih (by omega)]
     congr 1
     have:=z09 d hd k (by omega)
     by_cases hc:d&&&(8/ 2^k)≠0
     ·rw [if_pos hc,if_pos (this.2 hc)]
     ·rw [if_neg hc,if_neg (fun hh=>hc (this.1 hh))]
  exact hs 4 (Nat.le_refl _)
def fl:List UInt64:=(List.range 16).map zgv
def zhc (x:El) (i:Nat):UInt64:=if 16≤i then x.1>>>UInt64.ofNat (4*(i%16))&&&15 else x.2>>>UInt64.ofNat (4*(i%16))&&&15
def stp (T F:List UInt64) (z:El) (d:UInt64):El:=
  (z.1>>>4^^^g6 F (z.2&&&15).toNat^^^g6 T (2*d.toNat),(z.2>>>4|||z.1<<<60)^^^g6 T (2*d.toNat+1))
def zii (T F:List UInt64) (x:El):Nat→El
  |0=>z0
  |i+1=>stp T F (zii T F x i) (zhc x i)
def zcg (T F:List UInt64) (x:El):El:=zii T F x 32
theorem zkn (x:El) (i:Nat):(zhc x i).toNat<16:=by
  unfold zhc
  split<;>(rw [zqw];omega)
theorem z46 (h z:El) {d:UInt64} (hd:d.toNat<16):stp (tb h) fl z d=xr (hf4 z) (zcm (dig d.toNat) h 4):=by
  have hf:g6 fl (z.2&&&15).toNat=zgv (z.2&&&15).toNat:=by
    unfold g6 fl
    rw [zc1 _ _ (by rw [zqw];omega)]
  rw [←z4l h hd,z3v]
  unfold stp
  rw [hf]
  generalize zgv (z.2&&&15).toNat=f
  generalize tb h=T
  unfold xr ent sh4
  rfl
def zmk (a:El) (j:Nat):Bool:=if 63<j then decide (a.2.toNat/ 2^(127-j)%2=1) else decide (a.1.toNat/ 2^(63-j)%2=1)
def z06 (h a:El):El:=zcm (zmk a) h 128
theorem z2v (x:El) {i j:Nat} (hi:i<32) (hj:j<4):dig (zhc x i).toNat j=zmk x (124-4*i+j):=by
  have hw: ∀(y:UInt64) (k m:Nat),k<64→m<4→((y>>>UInt64.ofNat k&&&15).toNat)/ 2^m%2=y.toNat/ 2^(k+m)%2:=by
    intro y k m hk hm
    rw [zqw,zv5 y hk,Nat.pow_add,←Nat.div_div_eq_div_mul]
    generalize y.toNat/ 2^k=q
    have:m=0∨m=1∨m=2∨m=3:=by omega
    rcases this with rfl|rfl|rfl|rfl
    ·show q%16/ 1%2=q/ 1%2;omega
    ·show q%16/ 2%2=q/ 2%2;omega
    ·show q%16/ 4%2=q/ 4%2;omega
    ·show q%16/ 8%2=q/ 8%2;omega
  unfold dig zmk zhc
  by_cases h16:16≤i
  ·rw [if_pos h16,if_neg (by omega),hw _ _ _ (by omega) (by omega),show 4*(i%16)+(3-j)=63-(124-4*i+j) by omega]
  ·rw [if_neg h16,if_pos (by omega),hw _ _ _ (by omega) (by omega),show 4*(i%16)+(3-j)=127-(124-4*i+j) by omega]
theorem zwz (h x:El): ∀i,i≤32→zii (tb h) fl x i=zcm (fun j=>zmk x (128-4*i+j)) h (4*i)
  |0,_=>rfl
  |i+1,hi=>by
   rw [zii,z46 h _ (zkn x i),zwz h x i (by omega)]
   refine Eq.trans ?_ (z0t (4*i) (fun j=>zmk x (128-4*(i+1)+j)) h).symm
   refine congr (congrArg xr (congrArg hf4 ?_)) ?_
   ·refine zi7 _ h fun j hj=>?_
    show zmk x _=zmk x _
    congr 1;omega
   ·refine zi7 _ h fun j hj=>?_
    show dig _ j=zmk x _
    rw [z2v x (by omega) hj]
    congr 1;omega
theorem zuj (h x:El):zcg (tb h) fl x=z06 h x:=by
  unfold zcg z06
  rw [zwz h x 32 (Nat.le_refl _)]
  refine zi7 _ h fun j hj=>?_
  show zmk x _=zmk x _
  congr 1;omega
end Go.Sym.Gcm

namespace Go.Sym.Gcm
open Go.Sym.Lp Go.Sym.Aes
def ldE (s:List UInt8):Nat→El
  |0=>z0
  |i+1=>((ldE s i).1<<<8|||(s.getD i 0).toUInt64,(ldE s i).2<<<8|||(s.getD (8+i) 0).toUInt64)
def ld (s:List UInt8):El:=ldE s 8
def z3a (f g:Nat→UInt8):Nat→List UInt8
  |0=>List.replicate 16 0
  |i+1=>((z3a f g i).set i (f i)).set (8+i) (g i)
theorem zq9 (f g:Nat→UInt8): ∀i,(z3a f g i).length=16
  |0=>rfl
  |i+1=>by simp only [z3a,List.length_set];exact zq9 f g i
def zlp (e:El) (i:Nat):List UInt8:=z3a (fun i=>(e.1>>>UInt64.ofNat (56-8*i)).toUInt8) (fun i=>(e.2>>>UInt64.ofNat (56-8*i)).toUInt8) i
theorem zrc (e:El) (i:Nat):(zlp e i).length=16:=zq9 _ _ i
theorem z4v (e:El) (i:Nat):zlp e (i+1)=((zlp e i).set i (e.1>>>UInt64.ofNat (56-8*i)).toUInt8).set (8+i) (e.2>>>UInt64.ofNat (56-8*i)).toUInt8:=rfl
def wr (e:El):List UInt8:=zlp e 8
theorem zns (e:El):(wr e).length=16:=zrc e 8
def ctr (nonce:List UInt8) (n:UInt32):List UInt8:=nonce++ [(n>>>24).toUInt8,(n>>>16).toUInt8,(n>>>8).toUInt8,n.toUInt8]
theorem zpg {nonce:List UInt8} (h:nonce.length=12) (n:UInt32):(ctr nonce n).length=16:=by unfold ctr;simp [h]
def znz (nonce:List UInt8) (n:UInt32):Nat→List UInt8
  |0=>nonce++ [0,0,0,0]
  |i+1=>(znz nonce n i).set (15-i) (n>>>UInt32.ofNat (8*i)).toUInt8
theorem zrl {nonce:List UInt8} (h:nonce.length=12) (n:UInt32): ∀i,(znz nonce n i).length=16
  |0=>by simp [znz,h]
  |i+1=>by simp only [znz,List.length_set];exact zrl h n i
theorem zxy {x:List UInt8} (h:x.length=12): ∃a0 a1 a2 a3 a4 a5 a6 a7 a8 a9 b0 b1,x= [a0,a1,a2,a3,a4,a5,a6,a7,a8,a9,b0,b1]:=by
  match x,h with
  | [a0,a1,a2,a3,a4,a5,a6,a7,a8,a9,b0,b1],_=>exact ⟨a0,a1,a2,a3,a4,a5,a6,a7,a8,a9,b0,b1,rfl⟩
theorem zxa {nonce:List UInt8} (h:nonce.length=12) (n:UInt32):znz nonce n 4=ctr nonce n:=by
  obtain ⟨a0,a1,a2,a3,a4,a5,a6,a7,a8,a9,b0,b1,rfl⟩:=zxy h
  have e:(n>>>UInt32.ofNat (8*0)).toUInt8=n.toUInt8:=by
    have:n>>>UInt32.ofNat (8*0)=n:=UInt32.shiftRight_zero
    rw [this]
  show [a0,a1,a2,a3,a4,a5,a6,a7,a8,a9,b0,b1,_,_,_,(n>>>UInt32.ofNat (8*0)).toUInt8]=_
  rw [e]
  rfl
def x2 (l:List UInt8):List UInt8:=l++List.replicate (16-l.length) 0
theorem zsi {l:List UInt8} (h:l.length=16):x2 l=l:=by unfold x2;rw [h];simp
def zc4 (T F:List UInt64) (y:El) (B:List UInt8):Nat→El
  |0=>y
  |t+1=>zcg T F (xr (ld (x2 ((B.drop (16*t)).take 16))) (zc4 T F y B t))
def gaB (T F:List UInt64) (y:El) (B:List UInt8):El:=zc4 T F y B ((B.length+15)/ 16)
def zpt (h:El) (s:List UInt8):Nat→El
  |0=>z0
  |t+1=>z06 h (xr (zpt h s t) (ld ((s.drop (16*t)).take 16)))
def x8 (n:Nat):List UInt8:=List.replicate ((16-n%16)%16) 0
theorem zip (n:Nat):(x8 n).length=(16-n%16)%16:=List.length_replicate
theorem zn9 (h:El) (A B C:List UInt8) (y:El) {n:Nat} (hA:A.length=16*n) (hy:y=zpt h (A++(B++x8 B.length)++C) n): ∀t,t≤(B.length+15)/ 16→
    zc4 (tb h) fl y B t=zpt h (A++(B++x8 B.length)++C) (n+t)
  |0,_=>hy
  |t+1,ht=>by
   have ih:=zn9 h A B C y hA hy t (by omega)
   show zcg (tb h) fl (xr (ld (x2 ((B.drop (16*t)).take 16))) (zc4 (tb h) fl y B t))=z06 h (xr (zpt h (A++(B++x8 B.length)++C) (n+t)) (ld (((A++(B++x8 B.length)++C).drop (16*(n+t))).take 16)))
   rw [ih,zuj,zo0]
   congr 3
   have hfl:=zip B.length
   have e1:(A++(B++x8 B.length)++C).drop (16*(n+t))=(B++x8 B.length).drop (16*t)++C:=by
     rw [List.append_assoc,show 16*(n+t)=A.length+16*t by omega,List.drop_append]
     have h1:List.drop (A.length+16*t) A= []:=List.drop_eq_nil_of_le (by omega)
     rw [h1,List.nil_append,show A.length+16*t-A.length=16*t by omega,List.drop_append_of_le_length (by rw [List.length_append,hfl];omega)]
   have hl2:((B++x8 B.length).drop (16*t)).length=B.length+(x8 B.length).length-16*t:=by rw [List.length_drop,List.length_append]
   rw [e1,List.take_append_of_le_length (by rw [hl2,hfl];omega)]
   unfold x2
   by_cases h16:16*t+16≤B.length
   ·rw [List.drop_append_of_le_length (by omega),List.take_append_of_le_length (by rw [List.length_drop];omega)]
    rw [show 16-((B.drop (16*t)).take 16).length=0 by rw [List.length_take,List.length_drop];omega]
    simp
   ·have e2:(B.drop (16*t)).take 16=B.drop (16*t):=List.take_of_length_le (by rw [List.length_drop];omega)
    rw [e2,List.drop_append_of_le_length (by omega),List.take_of_length_le (by rw [List.length_append,List.length_drop,hfl];omega)]
    unfold x8
    rw [List.length_drop]
    congr 2
    omega
def zyd (aad b:List UInt8):List UInt8:=aad++x8 aad.length++(b++x8 b.length)++wr (UInt64.ofNat (8*aad.length),UInt64.ofNat (8*b.length))
def gN (aad b:List UInt8):Nat:=(aad.length+15)/ 16+(b.length+15)/ 16+1
theorem z5l (h:El) (aad b:List UInt8):
    zcg (tb h) fl (xr (ld (wr (UInt64.ofNat (8*aad.length),UInt64.ofNat (8*b.length)))) (gaB (tb h) fl (gaB (tb h) fl z0 aad) b))=zpt h (zyd aad b) (gN aad b):=by
  obtain ⟨L,hL⟩: ∃L,L=wr (UInt64.ofNat (8*aad.length),UInt64.ofNat (8*b.length)):=⟨_,rfl⟩
  have hLl:L.length=16:=by rw [hL];exact zns _
  have h1:=zip aad.length
  have h2:=zip b.length
  have p1:=zn9 h [] aad ((b++x8 b.length)++L) z0 (n:=0) rfl rfl ((aad.length+15)/ 16) (Nat.le_refl _)
  have hA:(aad++x8 aad.length).length=16*((aad.length+15)/ 16):=by rw [List.length_append,h1];omega
  have e1: []++(aad++x8 aad.length)++((b++x8 b.length)++L)=aad++x8 aad.length++(b++x8 b.length)++L:=by
    rw [List.nil_append,List.append_assoc (aad++x8 aad.length)]
  rw [e1,Nat.zero_add] at p1
  have p2:=zn9 h (aad++x8 aad.length) b L (gaB (tb h) fl z0 aad) (n:=(aad.length+15)/ 16) hA p1 ((b.length+15)/ 16) (Nat.le_refl _)
  have hT:zyd aad b=aad++x8 aad.length++(b++x8 b.length)++L:=by unfold zyd;rw [hL]
  rw [←hL,hT]
  show _=z06 h (xr (zpt h _ ((aad.length+15)/ 16+(b.length+15)/ 16)) (ld ((List.drop (16*((aad.length+15)/ 16+(b.length+15)/ 16)) _).take 16)))
  rw [←p2,zuj,zo0]
  have hd:List.drop (16*((aad.length+15)/ 16+(b.length+15)/ 16)) (aad++x8 aad.length++(b++x8 b.length)++L)=L:=by
    apply List.drop_left'
    simp only [List.length_append]
    omega
  rw [hd,List.take_of_length_le (by omega)]
  rfl
end Go.Sym.Gcm

namespace Go.Sym.A
open Go Go.Proofs.Try Go.Sym.Lp Go.Sym.Gcm
set_option maxRecDepth 100000
attribute [local irreducible] ldE zlp
def z74:List (Nat×List PStep):= [(5,[⟨0,[]⟩,⟨1,[]⟩,⟨2,[]⟩,⟨3,[0,1,2]⟩,⟨4,[0,1,2,3]⟩,⟨5,[0,1,2]⟩,⟨6,[0,1,2]⟩,⟨7,[0,1,2]⟩,⟨8,[]⟩,⟨9,[]⟩,⟨10,[]⟩]),(6,[⟨0,[]⟩,⟨1,[]⟩,⟨2,[]⟩,⟨3,[0,1,2]⟩,⟨4,[0,1,2,3]⟩,⟨5,[0,1,2,3]⟩,⟨6,[0,1,2]⟩,⟨7,[0,1,2]⟩,⟨8,[0,1,2]⟩,⟨9,[]⟩,⟨10,[]⟩,⟨11,[]⟩])]
def z80:List (Nat×List PStep):= []
def z8q:List (Nat×List PStep):= [(5,[⟨0,[]⟩,⟨1,[0]⟩,⟨2,[0]⟩,⟨3,[0,1,2]⟩,⟨4,[0,1,2]⟩,⟨5,[0,1,2,3,4]⟩,⟨6,[0,1,2,3,4]⟩,⟨7,[0,1,2,3,4]⟩,⟨8,[0,1,2]⟩,⟨9,[0,1,2]⟩,⟨10,[0,1,2,3,4,5,6,7,8,9]⟩,⟨11,[0,1,2,3,4,5,6,7,8,9]⟩,⟨12,[0,1,2,3,4,5,6,7,8,9,10,11]⟩,⟨13,[0,1,2,3,4,5,6,7,8,9,10,11]⟩,⟨14,[0,1,2,3,4,5,6,7,8,9,10,11]⟩,⟨15,[0,1,2,3,4,5,6,7,8,9]⟩,⟨16,[0,1,2,3,4,5,6,7,8,9]⟩,⟨17,[1,2,10,11,12,13,14,15,16]⟩,⟨18,[1,2,10,11,12,13,14,15,16]⟩,⟨19,[]⟩,⟨20,[]⟩])]
def z6v:List (Nat×TyI):= [(3,ty3),(4,ty4),(5,ty5),(9,ty9),(34,zdh),(91,x4),(93,zb7),(35,zdd),(103,zcq),(106,za9),(117,zev),(111,zfm),(114,zfq),(115,zfd),(109,zee),(67,zjk),(100,zdn),(147,zdb),(145,zc5),(143,zds)]
theorem xk: ∀t i,yw z6v t=some i→yp prog t i:=(zc ty3_ok (zc zc3 (zc zcz (zc ty9_ok (zc zbh (zc zcy (zc zcx (zc zbl (zc zgz (zc zqa (zc zya (zc z0u (zc z0h (zc zw2 (zc zqh (zc zuz (zc zln (zc zk7 (zc zku (zc zl1 zao))))))))))))))))))))
def zs3:Spec:=fun args hp K=>match args,hp with
  | [.sl 0 0 0 o n c],[.mk t [.arr8 m l]]=>Pre (16≤n∧off o+n≤l.length) (K (.agg [.u64 (ld ((l.drop (off o)).take 16)).1,.u64 (ld ((l.drop (off o)).take 16)).2]) [.mk t [.arr8 m l]])
  |_,_=>False
theorem zt8:zp prog 67 zs3:=by
  refine zo xk zk rfl func67 rfl call67 (D:=z74) ?_ ?_
  ·intro args hp K h
   unfold zs3 at h
   split at h
   ·exact Nat.le_of_ble_eq_true rfl
   ·exact h.elim
  ·intro args hp K h
   unfold zs3 at h
   split at h
   ·rename_i o n c t m l
    obtain ⟨⟨hn,hl⟩,h⟩:=zl h
    refine wk ?_
    refine zt (Ix (8)) (fun q=>⟨[(0,.sl 0 0 0 o n c),(2,.ptr 1 0 0 []),(3,.ptr 2 0 0 []),(5,.int q.i)],[.mk t [.arr8 m l],.mk 106 [.u64 0,.u64 0],.mk 106 [.u64 (ldE ((l.drop (off o)).take 16) q.i).1,.u64 (ldE ((l.drop (off o)).take 16) q.i).2]]⟩) (fun q=>(8)-q.i) ⟨0,Nat.zero_le _⟩ [0,1,2] ?_ ?_
    ·repeat ((conv=>whnf);refine za ?_)
     conv=>whnf
     refine zh (congrArg (fun e:El=>SV.agg [SV.u64 e.1,SV.u64 e.2]) (show z0=ldE _ 0 by unfold ldE;rfl)) ?_
     repeat ((conv=>whnf);refine za ?_)
     exact trivial
    ·intro q
     have hi:=q.hi
     have hA:off (yc o ((q.i:Int)).toNat ty5.sz)=off o+q.i:=by rw [zv];show off o+((q.i:Int)).toNat*1=_;omega
     have hB:off (yc o ((8:Int)+(q.i:Int)).toNat ty5.sz)=off o+(8+q.i):=by rw [zv];show off o+((8:Int)+(q.i:Int)).toNat*1=_;omega
     by_cases h4:q.i<8
     ·refine wk ?_
      refine ⟨⟨q.i+1,h4⟩,[0,1,2],by show (8)-(q.i+1)<(8)-q.i;omega,?_⟩
      repeat ((conv=>whnf);refine za ?_)
      conv=>whnf
      refine zh (congrArg (fun e:El=>SV.agg [SV.u64 e.1,SV.u64 e.2]) (show (_,_)=ldE ((l.drop (off o)).take 16) (q.i+1) by simp only [ldE];rw [zhp (by omega),zhp (by omega),←hA,←hB];rfl)) ?_
      repeat ((conv=>whnf);refine za ?_)
      exact trivial
     ·have e4:q.i=8:=by omega
      rw [e4]
      refine wk ?_
      exact ze (hp':= [.mk t [.arr8 m l]]) [0] h
   ·exact h.elim
def zr9:Spec:=fun args hp K=>match args,hp with
  | [.agg [.u64 a,.u64 b]],[]=>K (.agg [.u64 (y7 (a,b)).1,.u64 (y7 (a,b)).2]) []
  |_,_=>False
theorem z23:zp prog 98 zr9:=by
  refine zo xk zk rfl func98 rfl call98 (D:=z80) ?_ ?_
  ·intro args hp K h
   unfold zr9 at h
   split at h
   ·exact Nat.le_of_ble_eq_true rfl
   ·exact h.elim
  ·intro args hp K h
   unfold zr9 at h
   split at h
   ·rename_i a b
    refine wk ?_
    conv=>whnf
    exact ze (hp':= []) [] h
   ·exact h.elim
def zoo:Spec:=fun args hp K=>match args,hp with
  | [.agg [.u64 a,.u64 b]],[]=>K (.arr8 16 (wr (a,b))) []
  |_,_=>False
theorem z0m:zp prog 71 zoo:=by
  refine zo xk zk rfl func71 rfl call71 (D:=z8q) ?_ ?_
  ·intro args hp K h
   unfold zoo at h
   split at h
   ·exact Nat.le_of_ble_eq_true rfl
   ·exact h.elim
  ·intro args hp K h
   unfold zoo at h
   split at h
   ·rename_i a b
    refine wk ?_
    refine zt (Ix (8)) (fun q=>⟨[(0,.agg [.u64 a,.u64 b]),(1,.ptr 0 0 0 []),(2,.ptr 1 0 0 []),(3,.ptr 2 0 0 []),(5,.int q.i)],[.mk 106 [.u64 a,.u64 b],.mk 103 [.arr8 16 (List.replicate 16 0)],.mk 103 [.arr8 16 (zlp (a,b) q.i)]]⟩) (fun q=>(8)-q.i) ⟨0,Nat.zero_le _⟩ [0,1,2] ?_ ?_
    ·repeat ((conv=>whnf);refine za ?_)
     conv=>whnf
     refine zh (congrArg (fun x=>SV.agg [SV.arr8 16 x]) (show List.replicate 16 0=zlp (a,b) 0 by unfold zlp;rfl)) ?_
     repeat ((conv=>whnf);refine za ?_)
     exact trivial
    ·intro q
     have hi:=q.hi
     have hl:=zrc (a,b) q.i
     have hA:off (yc [] ((q.i:Int)).toNat ty5.sz)=q.i:=by rw [zv];show 0+((q.i:Int)).toNat*1=_;omega
     have hB:off (yc [] ((8:Int)+(q.i:Int)).toNat ty5.sz)=(8+q.i):=by rw [zv];show 0+((8:Int)+(q.i:Int)).toNat*1=_;omega
     have hK:((56:Int)-8*(q.i:Int)).toNat=56-8*q.i:=by omega
     by_cases h4:q.i<8
     ·refine wk ?_
      refine ⟨⟨q.i+1,h4⟩,[0,1,2],by show (8)-(q.i+1)<(8)-q.i;omega,?_⟩
      repeat ((conv=>whnf);refine za ?_)
      conv=>whnf
      refine zh (congrArg (fun x=>SV.agg [SV.arr8 16 x]) (show _=zlp (a,b) (q.i+1) by rw [z4v,hA,hB,hK])) ?_
      repeat ((conv=>whnf);refine za ?_)
      exact trivial
     ·have e4:q.i=8:=by omega
      rw [e4]
      refine wk ?_
      exact ze (hp':= []) [] h
   ·exact h.elim
end Go.Sym.A

namespace Go.Sym.A
open Go Go.Proofs.Try Go.Sym.Lp Go.Sym.Gcm
set_option maxRecDepth 100000
attribute [local irreducible] ldE zlp ld y7 hf4 zgv
def z8k:List (Nat×List PStep):= [(2,[⟨0,[]⟩,⟨1,[0]⟩,⟨2,[0]⟩,⟨3,[]⟩]),(9,[⟨0,[]⟩,⟨1,[0]⟩,⟨2,[1]⟩,⟨3,[1]⟩,⟨4,[]⟩,⟨5,[]⟩,⟨6,[]⟩,⟨7,[0,1,2,3,4,5,6]⟩,⟨8,[0,1,2,3,4,5,6]⟩,⟨9,[]⟩,⟨10,[1,2,3,4,5,6,7,8,9]⟩,⟨11,[1,2,3,4,5,6,7,8,9]⟩,⟨12,[]⟩,⟨13,[]⟩,⟨14,[]⟩]),(10,[⟨0,[]⟩,⟨1,[0]⟩,⟨2,[1]⟩,⟨3,[1]⟩,⟨4,[]⟩,⟨5,[]⟩,⟨6,[]⟩,⟨7,[0,1,2,3,4,5,6]⟩,⟨8,[0,1,2,3,4,5,6]⟩,⟨9,[]⟩,⟨10,[1,2,3,4,5,6,7,8,9]⟩,⟨11,[1,2,3,4,5,6,7,8,9]⟩,⟨12,[]⟩,⟨13,[]⟩,⟨14,[]⟩]),(22,[⟨0,[]⟩,⟨1,[0]⟩,⟨2,[0,1]⟩,⟨3,[0,1]⟩,⟨4,[1,2,3]⟩,⟨5,[1,2,3]⟩,⟨6,[]⟩,⟨7,[]⟩])]
def z76:List (Nat×List PStep):= [(1,[⟨0,[]⟩,⟨1,[]⟩,⟨2,[0,1]⟩,⟨3,[0,1]⟩,⟨4,[0,1]⟩,⟨5,[0,1]⟩,⟨6,[0,1]⟩,⟨7,[]⟩,⟨8,[]⟩,⟨9,[]⟩]),(2,[⟨0,[]⟩,⟨1,[]⟩,⟨2,[0,1]⟩,⟨3,[0,1]⟩,⟨4,[0,1]⟩,⟨5,[0,1]⟩,⟨6,[0,1]⟩,⟨7,[]⟩,⟨8,[]⟩,⟨9,[]⟩]),(10,[⟨0,[]⟩,⟨1,[]⟩,⟨2,[]⟩,⟨3,[0,1,2]⟩,⟨4,[0,1,2,3]⟩,⟨5,[0,1,2,3]⟩,⟨6,[0,1,2,3]⟩,⟨7,[0,1,2,4,5,6]⟩,⟨8,[0,1,2,4,5,6]⟩,⟨9,[0,1,2]⟩,⟨10,[0,1,2]⟩,⟨11,[]⟩,⟨12,[0,1,2,3,4,5,6,7,8,9,10,11]⟩,⟨13,[0,1,2,3,4,5,6,7,8,9,10,11]⟩,⟨14,[0,1,2,3,4,5,6,7,8,9,10,11]⟩,⟨15,[0,1,2,3,4,5,6,7,8,9,10,11,12,13,14]⟩,⟨16,[0,1,2,3,4,5,6,7,8,9,10,11,12,13,14]⟩,⟨17,[0,1,2,3,4,5,6,7,8,9,10,11,12,13,14]⟩,⟨18,[0,1,2,3,4,5,6,7,8,9,10,11]⟩,⟨19,[]⟩,⟨20,[]⟩]),(11,[⟨0,[]⟩,⟨1,[]⟩,⟨2,[0,1]⟩,⟨3,[0,1,2]⟩,⟨4,[0,1,3]⟩,⟨5,[0,1,3]⟩,⟨6,[0,1]⟩,⟨7,[0,1]⟩,⟨8,[0,1]⟩,⟨9,[]⟩,⟨10,[]⟩,⟨11,[]⟩]),(12,[⟨0,[]⟩,⟨1,[]⟩,⟨2,[0,1]⟩,⟨3,[0,1,2]⟩,⟨4,[0,1,3]⟩,⟨5,[0,1,3]⟩,⟨6,[0,1]⟩,⟨7,[0,1]⟩,⟨8,[0,1]⟩,⟨9,[]⟩,⟨10,[]⟩,⟨11,[]⟩])]
theorem zwq: ∀k,k<4→ ∀i:Nat,i<16→ya .and (i:Int) ((8/ 2^k:Nat):Int)=((i&&&8/ 2^k:Nat):Int):=by decide+kernel
theorem zvd (n:Nat):UInt64.ofInt (n:Int)=UInt64.ofNat n:=by
  apply UInt64.toNat_inj.1
  unfold UInt64.ofInt
  rw [UInt64.toNat_ofNat',UInt64.toNat_ofNat']
  omega
def zzu:Spec:=fun args hp K=>match args,hp with
  | [.agg [.u64 a,.u64 b]],[]=>K (.ptr 0 0 0 []) [.mk 117 [.arr64 32 (tb (a,b)),.arr64 16 fl,.u64 0,.u64 0]]
  |_,_=>False
set_option maxHeartbeats 4000000 in
theorem z4i:zp prog 69 zzu:=by
  refine zo xk (zd z23 zk) rfl func69 rfl call69 (D:=z8k) ?_ ?_
  ·intro args hp K h
   unfold zzu at h
   split at h
   ·exact Nat.le_of_ble_eq_true rfl
   ·exact h.elim
  ·intro args hp K h
   unfold zzu at h
   split at h
   ·rename_i a b
    refine wk ?_
    refine zt (Ix (4)) (fun q=>⟨[(3,.ptr 1 0 0 []),(4,.int ((8/ 2^q.i:Nat):Int)),(5,.ptr 2 0 0 [])],[.mk 106 [.u64 a,.u64 b],.mk 117 [.arr64 32 (tbO (a,b) q.i),.arr64 16 (List.replicate 16 0),.u64 0,.u64 0],.mk 106 [.u64 (Nat.repeat y7 q.i (a,b)).1,.u64 (Nat.repeat y7 q.i (a,b)).2]]⟩) (fun q=>(4)-q.i) ⟨0,Nat.zero_le _⟩ [0,1,2] ?_ ?_
    ·repeat ((conv=>whnf);refine za ?_)
     exact trivial
    ·intro q
     have hi:=q.hi
     by_cases h4:q.i<4
     ·have hb:0<8/ 2^q.i:=by
        have:q.i=0∨q.i=1∨q.i=2∨q.i=3:=by omega
        rcases this with e|e|e|e<;>rw [e]<;>decide
      generalize hB:8/ 2^q.i=bit at*
      refine wk ?_
      obtain ⟨bn,hbn⟩: ∃bn,bn=8/ 2^(q.i+1):=⟨_,rfl⟩
      have hb8:bn≤8:=by rw [hbn];exact Nat.div_le_self _ _
      have hbt:(bit:Int).tdiv 2=(bn:Int):=by
        rw [hbn,Int.tdiv_eq_ediv_of_nonneg (by omega),Nat.pow_succ,←Nat.div_div_eq_div_mul,hB]
        omega
      have hand: ∀i:Nat,i<16→ya .and (i:Int) (bit:Int)=((i&&&bit:Nat):Int):=by rw [←hB];exact zwq q.i h4
      refine zt (Ix (16)) (fun r=>⟨[(3,.ptr 1 0 0 []),(4,.int (bit:Int)),(5,.ptr 2 0 0 []),(18,.int r.i)],[.mk 106 [.u64 a,.u64 b],.mk 117 [.arr64 32 (tbI bit (Nat.repeat y7 q.i (a,b)) (tbO (a,b) q.i) r.i),.arr64 16 (List.replicate 16 0),.u64 0,.u64 0],.mk 106 [.u64 (Nat.repeat y7 q.i (a,b)).1,.u64 (Nat.repeat y7 q.i (a,b)).2]]⟩) (fun r=>(16)-r.i) ⟨0,Nat.zero_le _⟩ [0,1,2] ?_ ?_
      ·repeat ((conv=>whnf);refine za ?_)
       exact trivial
      ·intro r
       have hri:=r.hi
       have hlr:=(zht bit (Nat.repeat y7 q.i (a,b)) (tbO (a,b) q.i) r.i).trans (zjv (a,b) q.i)
       have hA:off (yc [] ((r.i:Int)).toNat za9.sz)=2*r.i:=by rw [zv];show 0+((r.i:Int)).toNat*2=_;omega
       have hA2:off (yc (yc [] ((r.i:Int)).toNat za9.sz) (0+1) 1)=2*r.i+1:=by rw [zv,hA]
       by_cases h5:r.i<16
       ·have hbb:=hand r.i h5
        by_cases h6:r.i&&&bit=0
        ·have hd:decide (ya .and (r.i:Int) (bit:Int)≠0)=false:=decide_eq_false (by rw [hbb,h6];simp)
         repeat ((conv=>whnf);first|refine zn ?_|refine zf ?_|refine zg ?_|refine za ?_|refine zq (by first|exact hd) ?_|refine zi (by first|exact hd) ?_|refine zj (by first|exact hd) ?_)
         conv=>whnf
         refine ⟨⟨r.i+1,h5⟩,[0,1,2],by show (16)-(r.i+1)<(16)-r.i;omega,?_⟩
         repeat ((conv=>whnf);refine za ?_)
         conv=>whnf
         refine zh (congrArg (fun x=>SV.agg [SV.arr64 32 x,SV.arr64 16 (List.replicate 16 0),SV.u64 0,SV.u64 0]) (show tbI bit (Nat.repeat y7 q.i (a,b)) (tbO (a,b) q.i) r.i=tbI bit (Nat.repeat y7 q.i (a,b)) (tbO (a,b) q.i) (r.i+1) by simp only [tbI];rw [if_pos h6])) ?_
         repeat ((conv=>whnf);refine za ?_)
         exact trivial
        ·have hd:decide (ya .and (r.i:Int) (bit:Int)≠0)=true:=decide_eq_true (by rw [hbb];omega)
         repeat ((conv=>whnf);first|refine zn ?_|refine zf ?_|refine zg ?_|refine za ?_|refine zq (by first|exact hd) ?_|refine zi (by first|exact hd) ?_|refine zj (by first|exact hd) ?_)
         conv=>whnf
         conv=>whnf
         refine ⟨⟨r.i+1,h5⟩,[0,1,2],by show (16)-(r.i+1)<(16)-r.i;omega,?_⟩
         repeat ((conv=>whnf);refine za ?_)
         conv=>whnf
         refine zh (congrArg (fun x=>SV.agg [SV.arr64 32 x,SV.arr64 16 (List.replicate 16 0),SV.u64 0,SV.u64 0]) (show _=tbI bit (Nat.repeat y7 q.i (a,b)) (tbO (a,b) q.i) (r.i+1) by simp only [tbI];rw [if_neg h6,hA,hA2];rfl)) ?_
         repeat ((conv=>whnf);refine za ?_)
         exact trivial
       ·have e5:r.i=16:=by omega
        rw [e5]
        have hp2:(2:Int)≠0∧yh ((bit:Int).tdiv 2):=⟨by decide,by rw [hbt];unfold yh;omega⟩
        refine wk ?_
        conv=>whnf
        refine ⟨⟨q.i+1,h4⟩,[0,1,3],by show (4)-(q.i+1)<(4)-q.i;omega,?_⟩
        repeat ((conv=>whnf);refine za ?_)
        conv=>whnf
        refine zh (congrArg (fun x=>SV.agg [SV.arr64 32 x,SV.arr64 16 (List.replicate 16 0),SV.u64 0,SV.u64 0]) (show tbI bit (Nat.repeat y7 q.i (a,b)) (tbO (a,b) q.i) 16=tbI (8/ 2^q.i) (Nat.repeat y7 q.i (a,b)) (tbO (a,b) q.i) 16 by rw [hB])) ?_
        repeat ((conv=>whnf);refine za ?_)
        conv=>whnf
        refine zh (congrArg SV.int (show (bit:Int).tdiv 2=((8/ 2^(q.i+1):Nat):Int) by rw [hbt,hbn])) ?_
        repeat ((conv=>whnf);refine za ?_)
        exact trivial
     ·have e4:q.i=4:=by omega
      rw [e4]
      refine wk ?_
      refine zt (Ix (16)) (fun r=>⟨[(3,.ptr 1 0 0 []),(55,.int r.i)],[.mk 106 [.u64 a,.u64 b],.mk 117 [.arr64 32 (tbO (a,b) 4),.arr64 16 (ovr (List.replicate 16 0) 0 zgv r.i),.u64 0,.u64 0],.mk 106 [.u64 (Nat.repeat y7 4 (a,b)).1,.u64 (Nat.repeat y7 4 (a,b)).2]]⟩) (fun r=>(16)-r.i) ⟨0,Nat.zero_le _⟩ [0,1,2] ?_ ?_
      ·repeat ((conv=>whnf);refine za ?_)
       exact trivial
      ·intro r
       have hri:=r.hi
       by_cases h5:r.i<16
       ·have hlo:=yn (l:=List.replicate 16 (0:UInt64)) (a:=0) (i:=r.i) (by rw [List.length_replicate];omega) zgv
        rw [List.length_replicate] at hlo
        have hI:((r.i:Int)).toNat=r.i:=Int.toNat_natCast _
        refine wk ?_
        rw [zvd]
        refine zt (Ix (4)) (fun s=>⟨[(3,.ptr 1 0 0 []),(55,.int r.i),(7,.int r.i),(8,.ptr 3 0 0 []),(61,.int s.i)],[.mk 106 [.u64 a,.u64 b],.mk 117 [.arr64 32 (tbO (a,b) 4),.arr64 16 (ovr (List.replicate 16 0) 0 zgv r.i),.u64 0,.u64 0],.mk 106 [.u64 (Nat.repeat y7 4 (a,b)).1,.u64 (Nat.repeat y7 4 (a,b)).2],.mk 106 [.u64 (Nat.repeat y7 s.i (0,UInt64.ofNat r.i)).1,.u64 (Nat.repeat y7 s.i (0,UInt64.ofNat r.i)).2]]⟩) (fun s=>(4)-s.i) ⟨0,Nat.zero_le _⟩ [0,1,2,3] ?_ ?_
        ·repeat ((conv=>whnf);refine za ?_)
         exact trivial
        ·intro s
         have hsi:=s.hi
         by_cases h6:s.i<4
         ·refine wk ?_
          refine ⟨⟨s.i+1,h6⟩,[0,1,2,3],by show (4)-(s.i+1)<(4)-s.i;omega,?_⟩
          repeat ((conv=>whnf);refine za ?_)
          exact trivial
         ·have e6:s.i=4:=by omega
          rw [e6]
          refine wk ?_
          refine ⟨⟨r.i+1,h5⟩,[0,1,2],by show (16)-(r.i+1)<(16)-r.i;omega,?_⟩
          repeat ((conv=>whnf);refine za ?_)
          conv=>whnf
          refine zh (congrArg (fun x=>SV.agg [SV.arr64 32 (tbO (a,b) 4),SV.arr64 16 x,SV.u64 0,SV.u64 0]) (yb (by rw [List.length_replicate];omega) ?hv ?hkk)) ?_
          case hkk=>show ((r.i:Int)).toNat=0+r.i;omega
          case hv=>unfold zgv hf4;rfl
          repeat ((conv=>whnf);refine za ?_)
          exact trivial
       ·have e5:r.i=16:=by omega
        have hfl:ovr (List.replicate 16 0) 0 zgv 16=fl:=xu List.length_replicate zgv
        rw [e5,hfl]
        refine wk ?_
        conv=>whnf
        exact ze (hp':= [.mk 117 [.arr64 32 (tb (a,b)),.arr64 16 fl,.u64 0,.u64 0]]) [1] h
   ·exact h.elim
def zy8:Spec:=fun args hp K=>match args,hp with
  | [.ptr 0 0 0 [],.sl 1 0 0 o n c],[.mk t0 [.arr64 32 T,.arr64 16 F,.u64 y1,.u64 y2],.mk t [.arr8 m l]]=>Pre (T.length=32∧F.length=16∧16≤n∧off o+n≤l.length)
      (K (.tup []) [.mk t0 [.arr64 32 T,.arr64 16 F,.u64 (zcg T F (xr (ld ((l.drop (off o)).take 16)) (y1,y2))).1,.u64 (zcg T F (xr (ld ((l.drop (off o)).take 16)) (y1,y2))).2],.mk t [.arr8 m l]])
  |_,_=>False
set_option maxHeartbeats 4000000 in
theorem z0l:zp prog 72 zy8:=by
  refine zo xk (zd zt8 zk) rfl func72 rfl call72 (D:=z76) ?_ ?_
  ·intro args hp K h
   unfold zy8 at h
   split at h
   ·exact Nat.le_of_ble_eq_true rfl
   ·exact h.elim
  ·intro args hp K h
   unfold zy8 at h
   split at h
   ·rename_i o n c t0 T F y1 y2 t m l
    obtain ⟨⟨hT,hF,hn,hl⟩,h⟩:=zl h
    refine wk ?_
    obtain ⟨X,hX⟩: ∃X,X=xr (ld ((l.drop (off o)).take 16)) (y1,y2):=⟨_,rfl⟩
    have hX1:(ld ((l.drop (off o)).take 16)).1^^^y1=X.1:=by rw [hX];rfl
    have hX2:(ld ((l.drop (off o)).take 16)).2^^^y2=X.2:=by rw [hX];rfl
    rw [←hX] at h
    rw [hX1,hX2]
    refine zt (Ix (32)) (fun q=>⟨[(0,.ptr 0 0 0 []),(4,.ptr 2 0 0 []),(5,.ptr 3 0 0 []),(28,.int q.i)],[.mk t0 [.arr64 32 T,.arr64 16 F,.u64 y1,.u64 y2],.mk t [.arr8 m l],.mk 106 [.u64 X.1,.u64 X.2],.mk 106 [.u64 (zii T F X q.i).1,.u64 (zii T F X q.i).2]]⟩) (fun q=>(32)-q.i) ⟨0,Nat.zero_le _⟩ [0,1,2,3] ?_ ?_
    ·repeat ((conv=>whnf);refine za ?_)
     exact trivial
    ·intro q
     have hi:=q.hi
     have hm:(q.i:Int).tmod 16=((q.i%16:Nat):Int):=by rw [Int.tmod_eq_emod_of_nonneg (by omega)];omega
     have hk:(4*(q.i:Int).tmod 16).toNat=4*(q.i%16):=by omega
     have hP:((zii T F X q.i).2&&&UInt64.ofNat 15).toNat<16:=by have:=zqw (zii T F X q.i).2;exact this ▸ Nat.mod_lt _ (by decide)
     by_cases h4:q.i<32
     ·by_cases h16:16≤q.i
      ·have hdg:X.1>>>UInt64.ofNat (4*(q.i:Int).tmod 16).toNat&&&UInt64.ofNat 15=zhc X q.i:=by unfold zhc;rw [if_pos h16,hk];rfl
       have hdl:=zkn X q.i
       rw [←hdg] at hdl
       have hO:off (yc [] (X.1>>>UInt64.ofNat (4*(q.i:Int).tmod 16).toNat&&&UInt64.ofNat 15).toNat za9.sz)=2*(X.1>>>UInt64.ofNat (4*(q.i:Int).tmod 16).toNat&&&UInt64.ofNat 15).toNat:=by rw [zv];show 0+_*2=_;omega
       have hO2:off (yc (yc [] (X.1>>>UInt64.ofNat (4*(q.i:Int).tmod 16).toNat&&&UInt64.ofNat 15).toNat za9.sz) (0+1) 1)=2*(X.1>>>UInt64.ofNat (4*(q.i:Int).tmod 16).toNat&&&UInt64.ofNat 15).toNat+1:=by rw [zv,hO]
       refine wk ?_
       conv=>whnf
       refine ⟨⟨q.i+1,h4⟩,[0,1,2,3],by show (32)-(q.i+1)<(32)-q.i;omega,?_⟩
       repeat ((conv=>whnf);refine za ?_)
       conv=>whnf
       refine zh (congrArg (fun e:El=>SV.agg [SV.u64 e.1,SV.u64 e.2]) (show (_,_)=zii T F X (q.i+1) by simp only [zii,stp];rw [←hdg,hO,hO2];rfl)) ?_
       repeat ((conv=>whnf);refine za ?_)
       exact trivial
      ·have hdg:X.2>>>UInt64.ofNat (4*(q.i:Int).tmod 16).toNat&&&UInt64.ofNat 15=zhc X q.i:=by unfold zhc;rw [if_neg h16,hk];rfl
       have hdl:=zkn X q.i
       rw [←hdg] at hdl
       have hO:off (yc [] (X.2>>>UInt64.ofNat (4*(q.i:Int).tmod 16).toNat&&&UInt64.ofNat 15).toNat za9.sz)=2*(X.2>>>UInt64.ofNat (4*(q.i:Int).tmod 16).toNat&&&UInt64.ofNat 15).toNat:=by rw [zv];show 0+_*2=_;omega
       have hO2:off (yc (yc [] (X.2>>>UInt64.ofNat (4*(q.i:Int).tmod 16).toNat&&&UInt64.ofNat 15).toNat za9.sz) (0+1) 1)=2*(X.2>>>UInt64.ofNat (4*(q.i:Int).tmod 16).toNat&&&UInt64.ofNat 15).toNat+1:=by rw [zv,hO]
       refine wk ?_
       conv=>whnf
       refine ⟨⟨q.i+1,h4⟩,[0,1,2,3],by show (32)-(q.i+1)<(32)-q.i;omega,?_⟩
       repeat ((conv=>whnf);refine za ?_)
       conv=>whnf
       refine zh (congrArg (fun e:El=>SV.agg [SV.u64 e.1,SV.u64 e.2]) (show (_,_)=zii T F X (q.i+1) by simp only [zii,stp];rw [←hdg,hO,hO2];rfl)) ?_
       repeat ((conv=>whnf);refine za ?_)
       exact trivial
     ·have e4:q.i=32:=by omega
      rw [e4]
      have hpm:zii T F X 32=zcg T F X:=by unfold zcg;rfl
      rw [hpm]
      refine wk ?_
      exact ze (hp':= [.mk t0 [.arr64 32 T,.arr64 16 F,.u64 (zcg T F X).1,.u64 (zcg T F X).2],.mk t [.arr8 m l]]) [0,1] h
   ·exact h.elim
end Go.Sym.A

namespace Go.Sym.Gcm
open Go.Sym Go.Sym.Lp
theorem zk1 {v:List UInt8} (hv:v.length≤16):zx (List.replicate 16 0) (off []) (List.take (min v.length 16) v)=x2 v:=by
  have h1:List.take (min v.length 16) v=v:=List.take_of_length_le (by omega)
  rw [h1]
  unfold zx x2
  show List.take 0 _++v++List.drop (0+v.length) _=_
  rw [List.take_zero,List.nil_append,List.drop_replicate,Nat.zero_add]
theorem znj {v:List UInt8} (hv:v.length≤16):(x2 v).length=16:=by
  unfold x2;rw [List.length_append,List.length_replicate];omega
theorem zxw {l:List UInt8} {n a:Nat} (h:a+16≤n) (hl:n≤l.length):x2 (((l.take n).drop a).take 16)=(l.drop a).take 16:=by
  rw [List.drop_take,List.take_take,Nat.min_eq_left (by omega)]
  exact zsi (by rw [List.length_take,List.length_drop];omega)
theorem ztu (T F:List UInt64) (y:El) {l:List UInt8} {n t:Nat} (h:16*t+16≤n) (hl:n≤l.length):
    zc4 T F y (l.take n) (t+1)=zcg T F (xr (ld ((l.drop (16*t)).take 16)) (zc4 T F y (l.take n) t)):=by
  rw [zc4,zxw h hl]
theorem zty (T F:List UInt64) (y:El) {l:List UInt8} {n t k:Nat} (h:k+16*t=n) (h0:0<k) (hk:k<16) (hl:n≤l.length):
    gaB T F y (l.take n)=zcg T F (xr (ld (x2 ((l.drop (16*t)).take k))) (zc4 T F y (l.take n) t)):=by
  unfold gaB
  rw [List.length_take,show (min n l.length+15)/ 16=t+1 by omega,zc4,List.drop_take,List.take_take,show min 16 (n-16*t)=k by omega]
theorem zut (T F:List UInt64) (y:El) {l:List UInt8} {n t:Nat} (h:16*t=n) (hl:n≤l.length):gaB T F y (l.take n)=zc4 T F y (l.take n) t:=by
  unfold gaB
  rw [List.length_take,show (min n l.length+15)/ 16=t by omega]
end Go.Sym.Gcm

namespace Go.Sym.A
open Go Go.Proofs.Try Go.Sym.Lp Go.Sym.Gcm
set_option maxRecDepth 100000
attribute [local irreducible] ldE zlp ld y7 hf4 zgv zcg x2
def z70:List (Nat×List PStep):= []
def z8w:List (Nat×List PStep):= []
structure Gs (n:Nat) where
  t:Nat
  x:Nat
  k:Nat
  c:Nat
  hn:k+16*t=n
  hx:0<k→x=16*t
  hc:k≤c
def z02:Spec:=fun args hp K=>match args,hp with
  | [.ptr 0 0 0 [],.sl 1 0 0 [] n c],[.mk t0 [.arr64 32 T,.arr64 16 F,.u64 y1,.u64 y2],.mk t [.arr8 m l]]=>Pre (T.length=32∧F.length=16∧n≤l.length∧n≤c)
      (K (.tup []) [.mk t0 [.arr64 32 T,.arr64 16 F,.u64 (gaB T F (y1,y2) (l.take n)).1,.u64 (gaB T F (y1,y2) (l.take n)).2],.mk t [.arr8 m l]])
  |_,_=>False
set_option maxHeartbeats 4000000 in
theorem z36:zp prog 70 z02:=by
  refine zo xk (zd z0l zk) rfl func70 rfl call70 (D:=z70) ?_ ?_
  ·intro args hp K h
   unfold z02 at h
   split at h
   ·exact Nat.le_of_ble_eq_true rfl
   ·exact h.elim
  ·intro args hp K h
   unfold z02 at h
   split at h
   ·rename_i n c t0 T F y1 y2 t m l
    obtain ⟨⟨hT,hF,hl,hc⟩,h⟩:=zl h
    have hB:(l.take n).length=n:=by rw [List.length_take];omega
    refine wk ?_
    refine zt (Option (Gs n)) (fun q=>match q with
      |none=>⟨[(0,.ptr 0 0 0 []),(1,.sl 1 0 0 [] n c)],[.mk t0 [.arr64 32 T,.arr64 16 F,.u64 y1,.u64 y2],.mk t [.arr8 m l]]⟩
      |some s=>⟨[(0,.ptr 0 0 0 []),(1,.sl 1 0 0 [(s.x,1)] s.k s.c)],[.mk t0 [.arr64 32 T,.arr64 16 F,.u64 (zc4 T F (y1,y2) (l.take n) s.t).1,.u64 (zc4 T F (y1,y2) (l.take n) s.t).2],.mk t [.arr8 m l]]⟩)
      (fun q=>match q with|none=>n+1|some s=>s.k) none [0,1] ?_ ?_
    ·repeat ((conv=>whnf);refine za ?_)
     exact trivial
    ·intro q
     cases q with
     |none=>
      by_cases h4:16≤n
      ·have hp4:T.length=32∧F.length=16∧16≤n∧off []+n≤l.length:=⟨hT,hF,h4,by show 0+_≤_;omega⟩
       refine wk ?_
       rw [show zcg T F (xr (ld ((l.drop (off [])).take 16)) (y1,y2))=zc4 T F (y1,y2) (l.take n) (0+1) by rw [ztu T F (y1,y2) (by omega) hl];rfl]
       refine ⟨some ⟨0+1,slO c 16,n-16,c-16,by omega,fun h0=>by
         have hne:c≠16:=by omega
         rw [xa hne],by omega⟩,[0,1],by show n-16<n+1;omega,?_⟩
       repeat ((conv=>whnf);refine za ?_)
       exact trivial
      ·by_cases h0:0<n
       ·have hvl:(List.take n (List.drop (off []) l)).length=n:=by rw [List.length_take,List.length_drop];show min n (l.length-0)=n;omega
        have hsp:=zk1 (v:=List.take n (List.drop (off []) l)) (by omega)
        have hpl:=znj (v:=List.take n (List.drop (off []) l)) (by omega)
        have hpp:T.length=32∧F.length=16∧16≤16∧off []+16≤(x2 (List.take n (List.drop (off []) l))).length:=⟨hT,hF,by decide,by rw [hpl];decide⟩
        have htk:List.take 16 (List.drop (off []) (x2 (List.take n (List.drop (off []) l))))=x2 (List.take n (List.drop (off []) l)):=by show List.take 16 (x2 _)=_;exact List.take_of_length_le (by omega)
        have hla:=zty T F (y1,y2) (l:=l) (n:=n) (t:=0) (k:=n) (by omega) (by omega) (by omega) hl
        rw [hla] at h
        skip
        refine wk ?_
        rw [hsp]
        refine wk ?_
        rw [htk]
        conv=>whnf
        exact ze (hp':= [.mk t0 [.arr64 32 T,.arr64 16 F,.u64 (zcg T F (xr (ld (x2 ((l.drop (off [])).take n))) (y1,y2))).1,.u64 (zcg T F (xr (ld (x2 ((l.drop (off [])).take n))) (y1,y2))).2],.mk t [.arr8 m l]]) [0,1] h
       ·have hno:=zut T F (y1,y2) (l:=l) (n:=n) (t:=0) (by omega) hl
        rw [hno] at h
        refine wk ?_
        exact ze (hp':= [.mk t0 [.arr64 32 T,.arr64 16 F,.u64 y1,.u64 y2],.mk t [.arr8 m l]]) [0,1] h
     |some s=>
      have hsn:=s.hn
      have hsx:=s.hx
      have hsc:=s.hc
      by_cases h4:16≤s.k
      ·have hp4:T.length=32∧F.length=16∧16≤s.k∧off [(s.x,1)]+s.k≤l.length:=⟨hT,hF,h4,by have:=hsx (by omega);show s.x+_≤_;omega⟩
       have hX:=hsx (by omega)
       refine wk ?_
       rw [show zcg T F (xr (ld ((l.drop (off [(s.x,1)])).take 16)) ((zc4 T F (y1,y2) (l.take n) s.t).1,(zc4 T F (y1,y2) (l.take n) s.t).2))=zc4 T F (y1,y2) (l.take n) (s.t+1) by rw [ztu T F (y1,y2) (by omega) hl];rw [←hX];rfl]
       refine ⟨some ⟨s.t+1,s.x+slO s.c 16,s.k-16,s.c-16,by omega,fun h0=>by
         have hne:s.c≠16:=by omega
         rw [xa hne];omega,by omega⟩,[0,1],by show s.k-16<s.k;omega,?_⟩
       repeat ((conv=>whnf);refine za ?_)
       exact trivial
      ·by_cases h0:0<s.k
       ·have hX:=hsx h0
        have hvl:(List.take s.k (List.drop (off [(s.x,1)]) l)).length=s.k:=by rw [List.length_take,List.length_drop];show min s.k (l.length-s.x)=s.k;omega
        have hsp:=zk1 (v:=List.take s.k (List.drop (off [(s.x,1)]) l)) (by omega)
        have hpl:=znj (v:=List.take s.k (List.drop (off [(s.x,1)]) l)) (by omega)
        have hpp:T.length=32∧F.length=16∧16≤16∧off []+16≤(x2 (List.take s.k (List.drop (off [(s.x,1)]) l))).length:=⟨hT,hF,by decide,by rw [hpl];decide⟩
        have htk:List.take 16 (List.drop (off []) (x2 (List.take s.k (List.drop (off [(s.x,1)]) l))))=x2 (List.take s.k (List.drop (off [(s.x,1)]) l)):=by show List.take 16 (x2 _)=_;exact List.take_of_length_le (by omega)
        have hla:=zty T F (y1,y2) (l:=l) (n:=n) (t:=s.t) (k:=s.k) (by omega) (by omega) (by omega) hl
        rw [hla] at h
        rw [←hX] at h
        refine wk ?_
        rw [hsp]
        refine wk ?_
        rw [htk]
        conv=>whnf
        exact ze (hp':= [.mk t0 [.arr64 32 T,.arr64 16 F,.u64 (zcg T F (xr (ld (x2 ((l.drop (off [(s.x,1)])).take s.k))) (zc4 T F (y1,y2) (l.take n) s.t))).1,.u64 (zcg T F (xr (ld (x2 ((l.drop (off [(s.x,1)])).take s.k))) (zc4 T F (y1,y2) (l.take n) s.t))).2],.mk t [.arr8 m l]]) [0,1] h
       ·have hno:=zut T F (y1,y2) (l:=l) (n:=n) (t:=s.t) (by omega) hl
        rw [hno] at h
        refine wk ?_
        exact ze (hp':= [.mk t0 [.arr64 32 T,.arr64 16 F,.u64 (zc4 T F (y1,y2) (l.take n) s.t).1,.u64 (zc4 T F (y1,y2) (l.take n) s.t).2],.mk t [.arr8 m l]]) [0,1] h
   ·exact h.elim
def zi8:Spec:=fun args hp K=>match args,hp with
  | [.str nonce,.u32 n],[]=>Pre (nonce.length=12) (K (.arr8 16 (ctr nonce n)) [])
  |_,_=>False
theorem zkt:zp prog 68 zi8:=by
  refine zo xk zk rfl func68 rfl call68 (D:=z8w) ?_ ?_
  ·intro args hp K h
   unfold zi8 at h
   split at h
   ·exact Nat.le_of_ble_eq_true rfl
   ·exact h.elim
  ·intro args hp K h
   unfold zi8 at h
   split at h
   ·rename_i nonce n
    obtain ⟨hn,h⟩:=zl h
    have hsp:zx (List.replicate 16 0) (off []) (List.take (min nonce.length 16) nonce)=znz nonce n 0:=by
      obtain ⟨a0,a1,a2,a3,a4,a5,a6,a7,a8,a9,b0,b1,rfl⟩:=zxy hn
      rfl
    refine wk ?_
    rw [hsp]
    refine zt (Ix (4)) (fun q=>⟨[(0,.str nonce),(1,.u32 n),(4,.ptr 0 0 0 []),(5,.ptr 1 0 0 []),(10,.int q.i)],[.mk 103 [.arr8 16 (List.replicate 16 0)],.mk 103 [.arr8 16 (znz nonce n q.i)]]⟩) (fun q=>(4)-q.i) ⟨0,Nat.zero_le _⟩ [0,1] ?_ ?_
    ·repeat ((conv=>whnf);refine za ?_)
     exact trivial
    ·intro q
     have hi:=q.hi
     have hl:=zrl hn n q.i
     have hA:((15:Int)-(q.i:Int)).toNat=15-q.i:=by omega
     have hB:(8*(q.i:Int)).toNat=8*q.i:=by omega
     by_cases h4:q.i<4
     ·refine wk ?_
      refine ⟨⟨q.i+1,h4⟩,[0,1],by show (4)-(q.i+1)<(4)-q.i;omega,?_⟩
      repeat ((conv=>whnf);refine za ?_)
      conv=>whnf
      refine zh (congrArg (fun x=>SV.agg [SV.arr8 16 x]) (show _=znz nonce n (q.i+1) by simp only [znz];rw [←hA,←hB];rfl)) ?_
      repeat ((conv=>whnf);refine za ?_)
      exact trivial
     ·have e4:q.i=4:=by omega
      rw [←zxa hn n] at h
      rw [e4]
      refine wk ?_
      conv=>whnf
      exact ze (hp':= []) [] h
   ·exact h.elim
end Go.Sym.A

namespace Go.Sym.A
open Go Go.Proofs.Try Go.Sym.Lp Go.Sym.Aes
set_option maxRecDepth 100000
attribute [local irreducible] box rc
def z9w:List (Nat×List PStep):= [(11,[⟨0,[]⟩,⟨1,[0]⟩,⟨2,[]⟩,⟨3,[]⟩,⟨4,[0,1,2,3]⟩,⟨5,[0,1,2,3,4]⟩,⟨6,[0,1,2,3,4]⟩,⟨7,[0,1,2,3]⟩,⟨8,[]⟩]),(14,[⟨0,[]⟩,⟨1,[0]⟩,⟨2,[0]⟩,⟨3,[1,2]⟩,⟨4,[1,2]⟩,⟨5,[]⟩,⟨6,[]⟩,⟨7,[0,1,2,3,4,5,6]⟩,⟨8,[]⟩,⟨9,[0,1,2,3,4,5,6,7,8]⟩,⟨10,[0,1,2,3,4,5,6,7,8,9]⟩,⟨11,[0,1,2,3,4,5,6,7,8,9]⟩,⟨12,[0,1,2,3,4,5,6,7,8,10,11]⟩,⟨13,[0,1,2,3,4,5,6,7,8,10,11]⟩,⟨14,[0,1,2,3,4,5,6,7,8]⟩,⟨15,[0,1,2,3,4,5,6,7,8]⟩,⟨16,[0,1,2,3,4,5,6,7,8,9,10,11,12,13,14,15]⟩,⟨17,[0,1,2,3,4,5,6,7,8,9,10,11,12,13,14,15,16]⟩,⟨18,[0,1,2,3,4,5,6,7,8,9,10,11,12,13,14,15,16]⟩,⟨19,[0,1,2,3,4,5,6,7,8,9,10,11,12,13,14,15,17,18]⟩,⟨20,[0,1,2,3,4,5,6,7,8,9,10,11,12,13,14,15,17,18]⟩,⟨21,[0,1,2,3,4,5,6,7,8,9,10,11,12,13,14,15]⟩,⟨22,[0,1,2,3,4,5,6,7,8,9,10,11,12,13,14,15]⟩,⟨23,[0,1,2,3,4,5,6,7,8,9,10,11,12,13,14,15,16,17,18,19,20,21,22]⟩,⟨24,[0,1,2,3,4,5,6,7,8,9,10,11,12,13,14,15,16,17,18,19,20,21,22,23]⟩,⟨25,[0,1,2,3,4,5,6,7,8,9,10,11,12,13,14,15,16,17,18,19,20,21,22,23]⟩,⟨26,[0,1,2,3,4,5,6,7,8,9,10,11,12,13,14,15,16,17,18,19,20,21,22,24,25]⟩,⟨27,[0,1,2,3,4,5,6,7,8,9,10,11,12,13,14,15,16,17,18,19,20,21,22,24,25]⟩,⟨28,[0,1,2,3,4,5,6,7,8,9,10,11,12,13,14,15,16,17,18,19,20,21,22]⟩,⟨29,[0,1,2,3,4,5,6,7,8,9,10,11,12,13,14,15,16,17,18,19,20,21,22]⟩,⟨30,[]⟩,⟨31,[]⟩]),(20,[⟨0,[]⟩,⟨1,[0]⟩,⟨2,[0,1]⟩,⟨3,[0,1]⟩,⟨4,[0,1]⟩,⟨5,[0,2,3,4]⟩,⟨6,[0,2,3,4]⟩,⟨7,[0]⟩,⟨8,[0]⟩,⟨9,[]⟩,⟨10,[]⟩]),(25,[⟨0,[]⟩,⟨1,[0]⟩,⟨2,[0,1]⟩,⟨3,[0,1,2]⟩,⟨4,[0,1,2,3]⟩,⟨5,[0,1,2,3,4]⟩,⟨6,[0,1,2,3]⟩,⟨7,[0,1,2,3,4,5,6]⟩,⟨8,[0,1,2,7]⟩,⟨9,[0,1,2]⟩,⟨10,[0,1,2]⟩,⟨11,[0,1,2,3,4,5,6,7,8,9,10]⟩,⟨12,[0,1,2,3,4,5,6,7,8,9,10]⟩,⟨13,[0,1,2,3,4,5,6,7,8,9,10]⟩,⟨14,[0,1,2]⟩,⟨15,[2,3,4,5,6,7,8,9,10,11,12,13,14]⟩,⟨16,[]⟩,⟨17,[]⟩]),(32,[⟨0,[]⟩,⟨1,[]⟩,⟨2,[]⟩,⟨3,[]⟩,⟨4,[0,1,2,3]⟩,⟨5,[0,1,2,3]⟩,⟨6,[]⟩,⟨7,[0,1,2,3,4,5,6]⟩,⟨8,[0,1,2,3,4,5,6]⟩,⟨9,[0,1,2,3,4,5,6]⟩,⟨10,[]⟩,⟨11,[0,1,2,3,4,5,6,7,8,9,10]⟩,⟨12,[0,1,2,3,4,5,6,7,8,9,10,11]⟩,⟨13,[0,1,2,3,4,5,6,7,8,9,10]⟩,⟨14,[0,1,2,3,4,5,6,7,8,9,10]⟩,⟨15,[]⟩])]
def zp6:Spec:=fun args hp K=>match args,hp with
  | [.str key],[]=>zr (decide (key.length=16∨key.length=32))
      (K (.tup [.ptr 0 0 0 [],.bool true]) [.mk 147 [.arr8 256 box,.sl 1 0 0 [] (key.length/ 4+7) (key.length/ 4+7)],.mk 103 [.arr8 (16*(key.length/ 4+7)) (ks key (key.length/ 4) (4*(key.length/ 4+7)))]])
      (K (.tup [.nilptr,.bool false]) [])
  |_,_=>False
theorem zmv {key:List UInt8} {n N i k:Nat} (hk:key.length=4*n) (h:4*i+4≤N) {v:List UInt8} (hv:v=zeg key n i (ks key n i)) (hkk:k=4*i):zx (kw key n N i) k v=kw key n N (i+1):=by
  subst hkk
  have hl:v.length=4:=by rw [hv];exact zm8 hk _
  unfold zx
  rw [hl]
  exact zt3 hk h hv
theorem zm0 {W:List UInt8} {i k:Nat} (h:4*i+4≤W.length) {v:List UInt8} (hv:v=(W.drop (4*i)).take 4) (hkk:k=4*i):zx (kc W i) k v=kc W (i+1):=by
  subst hkk
  have hl:v.length=4:=by rw [hv,List.length_take,List.length_drop];omega
  unfold zx
  rw [hl,hv]
  exact z19 h
theorem zlb {key:List UInt8} {n N i:Nat} (hk:key.length=4*n) (h:4*i+4≤N) {g:Nat→UInt8} (hv:(List.range 4).map g=zeg key n i (ks key n i)):ovr (kw key n N i) (4*i) g 4=kw key n N (i+1):=zt3 hk h hv
set_option maxHeartbeats 8000000 in
theorem zxr:zp prog 65 zp6:=by
  refine zo zeq (zd z16 (zd zp0 zk)) rfl func65 rfl call65 (D:=z9w) ?_ ?_
  ·intro args hp K h
   unfold zp6 at h
   split at h
   ·exact Nat.le_of_ble_eq_true rfl
   ·exact h.elim
  ·intro args hp K h
   unfold zp6 at h
   split at h
   ·rename_i key
    obtain ⟨ht,hn⟩:=zu h
    by_cases hk:key.length=16
    ·have h:=ht (decide_eq_true (.inl hk))
     have hkn:key.length=4*4:=hk
     rw [hk] at h
     have hq:(key.length:Int).tdiv 4=4:=by rw [hk];rfl
     have hf:yh ((key.length:Int).tdiv 4):=by rw [hq];unfold yh;omega
     have hf2:(4:Int)≠0∧yh ((key.length:Int).tdiv 4):=⟨by decide,hf⟩
     refine wk ?_
     rw [hq]
     refine wk ?_
     refine zt (Ix (44)) (fun q=>⟨[(0,.str key),(2,.nilptr),(3,.bool false),(4,.ptr 0 0 0 []),(5,.int 4),(6,.sl 1 0 0 [] 44 44),(7,.u8 (rc ((q.i-1)/ 4))),(32,.int 44),(33,.int q.i)],[.mk 147 [.arr8 256 box,.nilsl],.mk 140 [.arr8 176 (kw key 4 176 q.i)]]⟩) (fun q=>(44)-q.i) ⟨0,Nat.zero_le _⟩ [0,1] ?_ ?_
     ·repeat ((conv=>whnf);refine za ?_)
      conv=>whnf
      refine zh (congrArg SV.u8 (by unfold rc;rfl)) ?_
      repeat ((conv=>whnf);refine za ?_)
      exact trivial
     ·intro q
      have hi:=q.hi
      have hl:=zw0 hkn (N:=176) (i:=q.i) (by omega)
      have hI:((q.i:Int)).toNat=q.i:=Int.toNat_natCast _
      by_cases h4:q.i<44
      ·by_cases h5:q.i<4
       ·refine wk ?_
        refine ⟨⟨q.i+1,h4⟩,[0,1],by show (44)-(q.i+1)<(44)-q.i;omega,?_⟩
        repeat ((conv=>whnf);refine za ?_)
        conv=>whnf
        refine zh (congrArg (fun x=>SV.agg [SV.arr8 176 x]) (zmv hkn (by omega) ?hv ?hkk)) ?_
        case hkk=>show q.i*4=4*q.i;omega
        case hv=>
          unfold zeg
          rw [if_pos h5,show (4*(q.i:Int)).toNat=4*q.i by omega,List.length_drop,Nat.min_eq_right (by omega)]
        repeat ((conv=>whnf);refine za ?_)
        conv=>whnf
        refine zh (congrArg SV.u8 (by show rc ((q.i-1)/ 4)=rc ((q.i+1-1)/ 4);rw [zqc h5,Nat.add_sub_cancel])) ?_
        repeat ((conv=>whnf);refine za ?_)
        exact trivial
       ·have hm0:((q.i:Int)).tmod 4=((q.i%4:Nat):Int):=by rw [Int.tmod_eq_emod_of_nonneg (by omega)];omega
        obtain ⟨T,hT⟩: ∃T,T=((ks key 4 q.i).drop (4*(q.i-1))).take 4:=⟨_,rfl⟩
        have hTl:T.length=4:=by rw [hT,List.length_take,List.length_drop,zci hkn];omega
        have tT:List.take zbn.sz (List.drop (off (yc [] ((q.i:Int)-1).toNat zbn.sz)) (kw key 4 176 q.i))=T:=by
          rw [hT,←z03 hkn (N:=176) (by omega)]
          show List.take 4 (List.drop (((q.i:Int)-1).toNat*4) _)=_
          rw [show ((q.i:Int)-1).toNat*4=4*(q.i-1) by omega]
        have hnx:(List.range 4).map (fun k=>(ks key 4 q.i).getD (4*(q.i-4)+k) 0^^^(zb2 4 q.i T).getD k 0)=zeg key 4 q.i (ks key 4 q.i):=by
          unfold zeg;rw [if_neg h5,←hT]
        by_cases h6:q.i%4=0
        ·refine wk ?_
         rw [tT]
         repeat ((conv=>whnf);first|refine zn ?_|refine zf ?_|refine zg ?_|refine za ?_|refine zq (by first|exact zby _) ?_|refine zi (by first|exact zby _) ?_|refine zj (by first|exact zby _) ?_)
         conv=>whnf
         refine zt (Ix (4)) (fun r=>⟨[(0,.str key),(2,.nilptr),(3,.bool false),(4,.ptr 0 0 0 []),(5,.int 4),(6,.sl 1 0 0 [] 44 44),(7,.u8 (tw (rc ((q.i-1)/ 4)))),(32,.int 44),(33,.int q.i),(8,.int q.i),(9,.ptr 2 0 0 []),(112,.int r.i)],[.mk 147 [.arr8 256 box,.nilsl],.mk 140 [.arr8 176 (ovr (kw key 4 176 q.i) (4*q.i) (fun k=>(ks key 4 q.i).getD (4*(q.i-4)+k) 0^^^(zb2 4 q.i T).getD k 0) r.i)],.mk 140 [.arr8 4 (zb2 4 q.i T)]]⟩) (fun r=>(4)-r.i) ⟨0,Nat.zero_le _⟩ [0,1,2] ?_ ?_
         ·repeat ((conv=>whnf);refine za ?_)
          conv=>whnf
          refine zh (congrArg (fun x=>SV.agg [SV.arr8 176 x]) (zbv _ _ _).symm) ?_
          repeat ((conv=>whnf);refine za ?_)
          conv=>whnf
          refine zh (congrArg (fun x=>SV.agg [SV.arr8 4 x]) (by unfold zb2;rw [if_pos h6];rfl)) ?_
          repeat ((conv=>whnf);refine za ?_)
          exact trivial
         ·intro r
          have hri:=r.hi
          have hJ:((r.i:Int)).toNat=r.i:=Int.toNat_natCast _
          have hTW:=ze1 (n:=4) (i:=q.i) hTl
          have hlo:=yn (l:=kw key 4 176 q.i) (a:=4*q.i) (i:=r.i) (by omega) (fun k=>(ks key 4 q.i).getD (4*(q.i-4)+k) 0^^^(zb2 4 q.i T).getD k 0)
          by_cases h7:r.i<4
          ·refine wk ?_
           refine ⟨⟨r.i+1,h7⟩,[0,1,2],by show (4)-(r.i+1)<(4)-r.i;omega,?_⟩
           repeat ((conv=>whnf);refine za ?_)
           conv=>whnf
           refine zh (congrArg (fun x=>SV.agg [SV.arr8 176 x]) (yb (by omega) ?hv ?hkk)) ?_
           case hkk=>show q.i*4+r.i=4*q.i+r.i;omega
           case hv=>
             show (ovr _ _ _ _).getD (((q.i:Int)-4).toNat*4+r.i) 0^^^_=_
             rw [yt (by omega) _ (by omega),zl4 hkn (by omega),show ((q.i:Int)-4).toNat*4+r.i=4*(q.i-4)+r.i by omega]
             rfl
           repeat ((conv=>whnf);refine za ?_)
           exact trivial
          ·have e7:r.i=4:=by omega
           rw [e7,zlb hkn (by omega) hnx]
           refine wk ?_
           refine ⟨⟨q.i+1,h4⟩,[0,1],by show (44)-(q.i+1)<(44)-q.i;omega,?_⟩
           repeat ((conv=>whnf);refine za ?_)
           conv=>whnf
           refine zh (congrArg SV.u8 (by show (tw (rc ((q.i-1)/ 4)))=rc ((q.i+1-1)/ 4);rw [Nat.add_sub_cancel,zt9 (by omega) (by omega) h6])) ?_
           repeat ((conv=>whnf);refine za ?_)
           exact trivial
        ·refine wk ?_
         rw [tT]
         refine zt (Ix (4)) (fun r=>⟨[(0,.str key),(2,.nilptr),(3,.bool false),(4,.ptr 0 0 0 []),(5,.int 4),(6,.sl 1 0 0 [] 44 44),(7,.u8 (rc ((q.i-1)/ 4))),(32,.int 44),(33,.int q.i),(8,.int q.i),(9,.ptr 2 0 0 []),(112,.int r.i)],[.mk 147 [.arr8 256 box,.nilsl],.mk 140 [.arr8 176 (ovr (kw key 4 176 q.i) (4*q.i) (fun k=>(ks key 4 q.i).getD (4*(q.i-4)+k) 0^^^(zb2 4 q.i T).getD k 0) r.i)],.mk 140 [.arr8 4 (zb2 4 q.i T)]]⟩) (fun r=>(4)-r.i) ⟨0,Nat.zero_le _⟩ [0,1,2] ?_ ?_
         ·repeat ((conv=>whnf);refine za ?_)
          conv=>whnf
          refine zh (congrArg (fun x=>SV.agg [SV.arr8 176 x]) (zbv _ _ _).symm) ?_
          repeat ((conv=>whnf);refine za ?_)
          conv=>whnf
          refine zh (congrArg (fun x=>SV.agg [SV.arr8 4 x]) (by unfold zb2;rw [if_neg h6,if_neg (fun h=>absurd h.1 (by decide))])) ?_
          repeat ((conv=>whnf);refine za ?_)
          exact trivial
         ·intro r
          have hri:=r.hi
          have hJ:((r.i:Int)).toNat=r.i:=Int.toNat_natCast _
          have hTW:=ze1 (n:=4) (i:=q.i) hTl
          have hlo:=yn (l:=kw key 4 176 q.i) (a:=4*q.i) (i:=r.i) (by omega) (fun k=>(ks key 4 q.i).getD (4*(q.i-4)+k) 0^^^(zb2 4 q.i T).getD k 0)
          by_cases h7:r.i<4
          ·refine wk ?_
           refine ⟨⟨r.i+1,h7⟩,[0,1,2],by show (4)-(r.i+1)<(4)-r.i;omega,?_⟩
           repeat ((conv=>whnf);refine za ?_)
           conv=>whnf
           refine zh (congrArg (fun x=>SV.agg [SV.arr8 176 x]) (yb (by omega) ?hv ?hkk)) ?_
           case hkk=>show q.i*4+r.i=4*q.i+r.i;omega
           case hv=>
             show (ovr _ _ _ _).getD (((q.i:Int)-4).toNat*4+r.i) 0^^^_=_
             rw [yt (by omega) _ (by omega),zl4 hkn (by omega),show ((q.i:Int)-4).toNat*4+r.i=4*(q.i-4)+r.i by omega]
             rfl
           repeat ((conv=>whnf);refine za ?_)
           exact trivial
          ·have e7:r.i=4:=by omega
           rw [e7,zlb hkn (by omega) hnx]
           refine wk ?_
           refine ⟨⟨q.i+1,h4⟩,[0,1],by show (44)-(q.i+1)<(44)-q.i;omega,?_⟩
           repeat ((conv=>whnf);refine za ?_)
           conv=>whnf
           refine zh (congrArg SV.u8 (by show (rc ((q.i-1)/ 4))=rc ((q.i+1-1)/ 4);rw [Nat.add_sub_cancel,zpo (by omega) h6])) ?_
           repeat ((conv=>whnf);refine za ?_)
           exact trivial
      ·have e4:q.i=44:=by omega
       rw [e4,zys (by rfl)]
       have hW:=zci hkn 44
       generalize ks key 4 44=W at*
       refine wk ?_
       refine zt (Ix (44)) (fun u=>⟨[(0,.str key),(2,.nilptr),(3,.bool false),(4,.ptr 0 0 0 []),(5,.int 4),(6,.sl 1 0 0 [] 44 44),(141,.int 44),(142,.int u.i)],[.mk 147 [.arr8 256 box,.sl 2 0 0 [] 11 11],.mk 140 [.arr8 176 W],.mk 103 [.arr8 176 (kc W u.i)]]⟩) (fun u=>(44)-u.i) ⟨0,Nat.zero_le _⟩ [0,1,2] ?_ ?_
       ·repeat ((conv=>whnf);refine za ?_)
        conv=>whnf
        refine zh (congrArg (fun x=>SV.agg [SV.arr8 176 x]) (by rw [zue,hW];rfl)) ?_
        repeat ((conv=>whnf);refine za ?_)
        exact trivial
       ·intro u
        have hui:=u.hi
        have hlk:=zzj (W:=W) (i:=u.i) (by omega)
        have hU:((u.i:Int)).toNat=u.i:=Int.toNat_natCast _
        have hd:(u.i:Int).tdiv 4=((u.i/ 4:Nat):Int):=by rw [Int.tdiv_eq_ediv_of_nonneg (by omega)];omega
        have hm:(u.i:Int).tmod 4=((u.i%4:Nat):Int):=by rw [Int.tmod_eq_emod_of_nonneg (by omega)];omega
        have hpd:(4:Int)≠0∧yh ((u.i:Int).tdiv 4):=⟨by decide,by unfold yh;omega⟩
        by_cases h8:u.i<44
        ·have hs:slO 16 (4*(u.i:Int).tmod 4).toNat=4*(u.i%4):=by rw [xa (by omega)];omega
         have hv4:(List.take 4 (List.drop (off (yc [] ((u.i:Int)).toNat zbn.sz)) W))=(W.drop (4*u.i)).take 4:=by
           show List.take 4 (List.drop (((u.i:Int)).toNat*4) W)=_
           rw [hU,Nat.mul_comm]
         have hv5:((W.drop (4*u.i)).take 4).length=4:=by rw [List.length_take,List.length_drop];omega
         refine wk ?_
         rw [hs,hv4,hv5,Nat.min_eq_left (show 4≤16-(4*(u.i:Int).tmod 4).toNat by omega)]
         conv=>whnf
         refine ⟨⟨u.i+1,h8⟩,[0,1,2],by show (44)-(u.i+1)<(44)-u.i;omega,?_⟩
         repeat ((conv=>whnf);refine za ?_)
         conv=>whnf
         refine zh (congrArg (fun x=>SV.agg [SV.arr8 176 x]) (zm0 (by omega) ?hv ?hkk)) ?_
         case hkk=>show ((u.i:Int).tdiv 4).toNat*16+4*(u.i%4)=4*u.i;omega
         case hv=>exact List.take_of_length_le (by omega)
         repeat ((conv=>whnf);refine za ?_)
         exact trivial
        ·have e8:u.i=44:=by omega
         rw [e8,zxh (by omega)]
         refine wk ?_
         exact ze (hp':= [.mk 147 [.arr8 256 box,.sl 1 0 0 [] 11 11],.mk 103 [.arr8 176 W]]) [0,2] h
    ·by_cases hk2:key.length=32
     ·have h:=ht (decide_eq_true (.inr hk2))
      have hk:=hk2
      have hkn:key.length=4*8:=hk2
      rw [hk2] at h
      have hq:(key.length:Int).tdiv 4=8:=by rw [hk];rfl
      have hf:yh ((key.length:Int).tdiv 4):=by rw [hq];unfold yh;omega
      have hf2:(4:Int)≠0∧yh ((key.length:Int).tdiv 4):=⟨by decide,hf⟩
      refine wk ?_
      rw [hq]
      refine wk ?_
      refine zt (Ix (60)) (fun q=>⟨[(0,.str key),(2,.nilptr),(3,.bool false),(4,.ptr 0 0 0 []),(5,.int 8),(6,.sl 1 0 0 [] 60 60),(7,.u8 (rc ((q.i-1)/ 8))),(32,.int 60),(33,.int q.i)],[.mk 147 [.arr8 256 box,.nilsl],.mk 140 [.arr8 240 (kw key 8 240 q.i)]]⟩) (fun q=>(60)-q.i) ⟨0,Nat.zero_le _⟩ [0,1] ?_ ?_
      ·repeat ((conv=>whnf);refine za ?_)
       conv=>whnf
       refine zh (congrArg SV.u8 (by unfold rc;rfl)) ?_
       repeat ((conv=>whnf);refine za ?_)
       exact trivial
      ·intro q
       have hi:=q.hi
       have hl:=zw0 hkn (N:=240) (i:=q.i) (by omega)
       have hI:((q.i:Int)).toNat=q.i:=Int.toNat_natCast _
       by_cases h4:q.i<60
       ·by_cases h5:q.i<8
        ·refine wk ?_
         refine ⟨⟨q.i+1,h4⟩,[0,1],by show (60)-(q.i+1)<(60)-q.i;omega,?_⟩
         repeat ((conv=>whnf);refine za ?_)
         conv=>whnf
         refine zh (congrArg (fun x=>SV.agg [SV.arr8 240 x]) (zmv hkn (by omega) ?hv ?hkk)) ?_
         case hkk=>show q.i*4=4*q.i;omega
         case hv=>
           unfold zeg
           rw [if_pos h5,show (4*(q.i:Int)).toNat=4*q.i by omega,List.length_drop,Nat.min_eq_right (by omega)]
         repeat ((conv=>whnf);refine za ?_)
         conv=>whnf
         refine zh (congrArg SV.u8 (by show rc ((q.i-1)/ 8)=rc ((q.i+1-1)/ 8);rw [zqc h5,Nat.add_sub_cancel])) ?_
         repeat ((conv=>whnf);refine za ?_)
         exact trivial
        ·have hm0:((q.i:Int)).tmod 8=((q.i%8:Nat):Int):=by rw [Int.tmod_eq_emod_of_nonneg (by omega)];omega
         obtain ⟨T,hT⟩: ∃T,T=((ks key 8 q.i).drop (4*(q.i-1))).take 4:=⟨_,rfl⟩
         have hTl:T.length=4:=by rw [hT,List.length_take,List.length_drop,zci hkn];omega
         have tT:List.take zbn.sz (List.drop (off (yc [] ((q.i:Int)-1).toNat zbn.sz)) (kw key 8 240 q.i))=T:=by
           rw [hT,←z03 hkn (N:=240) (by omega)]
           show List.take 4 (List.drop (((q.i:Int)-1).toNat*4) _)=_
           rw [show ((q.i:Int)-1).toNat*4=4*(q.i-1) by omega]
         have hnx:(List.range 4).map (fun k=>(ks key 8 q.i).getD (4*(q.i-8)+k) 0^^^(zb2 8 q.i T).getD k 0)=zeg key 8 q.i (ks key 8 q.i):=by
           unfold zeg;rw [if_neg h5,←hT]
         by_cases h6:q.i%8=0
         ·refine wk ?_
          rw [tT]
          repeat ((conv=>whnf);first|refine zn ?_|refine zf ?_|refine zg ?_|refine za ?_|refine zq (by first|exact zby _) ?_|refine zi (by first|exact zby _) ?_|refine zj (by first|exact zby _) ?_)
          conv=>whnf
          refine zt (Ix (4)) (fun r=>⟨[(0,.str key),(2,.nilptr),(3,.bool false),(4,.ptr 0 0 0 []),(5,.int 8),(6,.sl 1 0 0 [] 60 60),(7,.u8 (tw (rc ((q.i-1)/ 8)))),(32,.int 60),(33,.int q.i),(8,.int q.i),(9,.ptr 2 0 0 []),(112,.int r.i)],[.mk 147 [.arr8 256 box,.nilsl],.mk 140 [.arr8 240 (ovr (kw key 8 240 q.i) (4*q.i) (fun k=>(ks key 8 q.i).getD (4*(q.i-8)+k) 0^^^(zb2 8 q.i T).getD k 0) r.i)],.mk 140 [.arr8 4 (zb2 8 q.i T)]]⟩) (fun r=>(4)-r.i) ⟨0,Nat.zero_le _⟩ [0,1,2] ?_ ?_
          ·repeat ((conv=>whnf);refine za ?_)
           conv=>whnf
           refine zh (congrArg (fun x=>SV.agg [SV.arr8 240 x]) (zbv _ _ _).symm) ?_
           repeat ((conv=>whnf);refine za ?_)
           conv=>whnf
           refine zh (congrArg (fun x=>SV.agg [SV.arr8 4 x]) (by unfold zb2;rw [if_pos h6];rfl)) ?_
           repeat ((conv=>whnf);refine za ?_)
           exact trivial
          ·intro r
           have hri:=r.hi
           have hJ:((r.i:Int)).toNat=r.i:=Int.toNat_natCast _
           have hTW:=ze1 (n:=8) (i:=q.i) hTl
           have hlo:=yn (l:=kw key 8 240 q.i) (a:=4*q.i) (i:=r.i) (by omega) (fun k=>(ks key 8 q.i).getD (4*(q.i-8)+k) 0^^^(zb2 8 q.i T).getD k 0)
           by_cases h7:r.i<4
           ·refine wk ?_
            refine ⟨⟨r.i+1,h7⟩,[0,1,2],by show (4)-(r.i+1)<(4)-r.i;omega,?_⟩
            repeat ((conv=>whnf);refine za ?_)
            conv=>whnf
            refine zh (congrArg (fun x=>SV.agg [SV.arr8 240 x]) (yb (by omega) ?hv ?hkk)) ?_
            case hkk=>show q.i*4+r.i=4*q.i+r.i;omega
            case hv=>
              show (ovr _ _ _ _).getD (((q.i:Int)-8).toNat*4+r.i) 0^^^_=_
              rw [yt (by omega) _ (by omega),zl4 hkn (by omega),show ((q.i:Int)-8).toNat*4+r.i=4*(q.i-8)+r.i by omega]
              rfl
            repeat ((conv=>whnf);refine za ?_)
            exact trivial
           ·have e7:r.i=4:=by omega
            rw [e7,zlb hkn (by omega) hnx]
            refine wk ?_
            refine ⟨⟨q.i+1,h4⟩,[0,1],by show (60)-(q.i+1)<(60)-q.i;omega,?_⟩
            repeat ((conv=>whnf);refine za ?_)
            conv=>whnf
            refine zh (congrArg SV.u8 (by show (tw (rc ((q.i-1)/ 8)))=rc ((q.i+1-1)/ 8);rw [Nat.add_sub_cancel,zt9 (by omega) (by omega) h6])) ?_
            repeat ((conv=>whnf);refine za ?_)
            exact trivial
         ·by_cases h9:q.i%8=4
          ·refine wk ?_
           rw [tT]
           refine wk ?_
           refine zt (Ix (4)) (fun k=>⟨[(0,.str key),(2,.nilptr),(3,.bool false),(4,.ptr 0 0 0 []),(5,.int 8),(6,.sl 1 0 0 [] 60 60),(7,.u8 (rc ((q.i-1)/ 8))),(32,.int 60),(33,.int q.i),(8,.int q.i),(9,.ptr 2 0 0 []),(98,.int k.i)],[.mk 147 [.arr8 256 box,.nilsl],.mk 140 [.arr8 240 (kw key 8 240 q.i)],.mk 140 [.arr8 4 (ovr T 0 (fun j=>box.getD (T.getD j 0).toNat 0) k.i)]]⟩) (fun k=>(4)-k.i) ⟨0,Nat.zero_le _⟩ [0,1,2] ?_ ?_
           ·repeat ((conv=>whnf);refine za ?_)
            exact trivial
           ·intro k
            have hki:=k.hi
            have hKK:((k.i:Int)).toNat=k.i:=Int.toNat_natCast _
            have hlo:=yn (l:=T) (a:=0) (i:=k.i) (by omega) (fun j=>box.getD (T.getD j 0).toNat 0)
            by_cases h10:k.i<4
            ·repeat ((conv=>whnf);first|refine zn ?_|refine zf ?_|refine zg ?_|refine za ?_|refine zq (by first|exact zby _) ?_|refine zi (by first|exact zby _) ?_|refine zj (by first|exact zby _) ?_)
             conv=>whnf
             refine ⟨⟨k.i+1,h10⟩,[0,1,2],by show (4)-(k.i+1)<(4)-k.i;omega,?_⟩
             repeat ((conv=>whnf);refine za ?_)
             conv=>whnf
             refine zh (congrArg (fun x=>SV.agg [SV.arr8 4 x]) (yb (by omega) ?hv ?hkk)) ?_
             case hkk=>show k.i=0+k.i;omega
             case hv=>
               show box.getD (UInt8.toNat ((ovr _ _ _ _).getD k.i 0)) 0=box.getD (T.getD k.i 0).toNat 0
               rw [yt (by omega) _ (by omega)]
             repeat ((conv=>whnf);refine za ?_)
             exact trivial
            ·have e10:k.i=4:=by omega
             rw [e10]
             refine wk ?_
             refine zt (Ix (4)) (fun r=>⟨[(0,.str key),(2,.nilptr),(3,.bool false),(4,.ptr 0 0 0 []),(5,.int 8),(6,.sl 1 0 0 [] 60 60),(7,.u8 (rc ((q.i-1)/ 8))),(32,.int 60),(33,.int q.i),(8,.int q.i),(9,.ptr 2 0 0 []),(112,.int r.i)],[.mk 147 [.arr8 256 box,.nilsl],.mk 140 [.arr8 240 (ovr (kw key 8 240 q.i) (4*q.i) (fun k=>(ks key 8 q.i).getD (4*(q.i-8)+k) 0^^^(zb2 8 q.i T).getD k 0) r.i)],.mk 140 [.arr8 4 (zb2 8 q.i T)]]⟩) (fun r=>(4)-r.i) ⟨0,Nat.zero_le _⟩ [0,1,2] ?_ ?_
             ·repeat ((conv=>whnf);refine za ?_)
              conv=>whnf
              refine zh (congrArg (fun x=>SV.agg [SV.arr8 240 x]) (zbv _ _ _).symm) ?_
              repeat ((conv=>whnf);refine za ?_)
              conv=>whnf
              refine zh (congrArg (fun x=>SV.agg [SV.arr8 4 x]) (by unfold zb2;rw [if_neg h6,if_pos ⟨rfl,h9⟩];exact xu hTl _)) ?_
              repeat ((conv=>whnf);refine za ?_)
              exact trivial
             ·intro r
              have hri:=r.hi
              have hJ:((r.i:Int)).toNat=r.i:=Int.toNat_natCast _
              have hTW:=ze1 (n:=8) (i:=q.i) hTl
              have hlo:=yn (l:=kw key 8 240 q.i) (a:=4*q.i) (i:=r.i) (by omega) (fun k=>(ks key 8 q.i).getD (4*(q.i-8)+k) 0^^^(zb2 8 q.i T).getD k 0)
              by_cases h7:r.i<4
              ·refine wk ?_
               refine ⟨⟨r.i+1,h7⟩,[0,1,2],by show (4)-(r.i+1)<(4)-r.i;omega,?_⟩
               repeat ((conv=>whnf);refine za ?_)
               conv=>whnf
               refine zh (congrArg (fun x=>SV.agg [SV.arr8 240 x]) (yb (by omega) ?hv ?hkk)) ?_
               case hkk=>show q.i*4+r.i=4*q.i+r.i;omega
               case hv=>
                 show (ovr _ _ _ _).getD (((q.i:Int)-8).toNat*4+r.i) 0^^^_=_
                 rw [yt (by omega) _ (by omega),zl4 hkn (by omega),show ((q.i:Int)-8).toNat*4+r.i=4*(q.i-8)+r.i by omega]
                 rfl
               repeat ((conv=>whnf);refine za ?_)
               exact trivial
              ·have e7:r.i=4:=by omega
               rw [e7,zlb hkn (by omega) hnx]
               refine wk ?_
               refine ⟨⟨q.i+1,h4⟩,[0,1],by show (60)-(q.i+1)<(60)-q.i;omega,?_⟩
               repeat ((conv=>whnf);refine za ?_)
               conv=>whnf
               refine zh (congrArg SV.u8 (by show (rc ((q.i-1)/ 8))=rc ((q.i+1-1)/ 8);rw [Nat.add_sub_cancel,zpo (by omega) h6])) ?_
               repeat ((conv=>whnf);refine za ?_)
               exact trivial
          ·refine wk ?_
           rw [tT]
           refine zt (Ix (4)) (fun r=>⟨[(0,.str key),(2,.nilptr),(3,.bool false),(4,.ptr 0 0 0 []),(5,.int 8),(6,.sl 1 0 0 [] 60 60),(7,.u8 (rc ((q.i-1)/ 8))),(32,.int 60),(33,.int q.i),(8,.int q.i),(9,.ptr 2 0 0 []),(112,.int r.i)],[.mk 147 [.arr8 256 box,.nilsl],.mk 140 [.arr8 240 (ovr (kw key 8 240 q.i) (4*q.i) (fun k=>(ks key 8 q.i).getD (4*(q.i-8)+k) 0^^^(zb2 8 q.i T).getD k 0) r.i)],.mk 140 [.arr8 4 (zb2 8 q.i T)]]⟩) (fun r=>(4)-r.i) ⟨0,Nat.zero_le _⟩ [0,1,2] ?_ ?_
           ·repeat ((conv=>whnf);refine za ?_)
            conv=>whnf
            refine zh (congrArg (fun x=>SV.agg [SV.arr8 240 x]) (zbv _ _ _).symm) ?_
            repeat ((conv=>whnf);refine za ?_)
            conv=>whnf
            refine zh (congrArg (fun x=>SV.agg [SV.arr8 4 x]) (by unfold zb2;rw [if_neg h6,if_neg (fun h=>h9 h.2)])) ?_
            repeat ((conv=>whnf);refine za ?_)
            exact trivial
           ·intro r
            have hri:=r.hi
            have hJ:((r.i:Int)).toNat=r.i:=Int.toNat_natCast _
            have hTW:=ze1 (n:=8) (i:=q.i) hTl
            have hlo:=yn (l:=kw key 8 240 q.i) (a:=4*q.i) (i:=r.i) (by omega) (fun k=>(ks key 8 q.i).getD (4*(q.i-8)+k) 0^^^(zb2 8 q.i T).getD k 0)
            by_cases h7:r.i<4
            ·refine wk ?_
             refine ⟨⟨r.i+1,h7⟩,[0,1,2],by show (4)-(r.i+1)<(4)-r.i;omega,?_⟩
             repeat ((conv=>whnf);refine za ?_)
             conv=>whnf
             refine zh (congrArg (fun x=>SV.agg [SV.arr8 240 x]) (yb (by omega) ?hv ?hkk)) ?_
             case hkk=>show q.i*4+r.i=4*q.i+r.i;omega
             case hv=>
               show (ovr _ _ _ _).getD (((q.i:Int)-8).toNat*4+r.i) 0^^^_=_
               rw [yt (by omega) _ (by omega),zl4 hkn (by omega),show ((q.i:Int)-8).toNat*4+r.i=4*(q.i-8)+r.i by omega]
               rfl
             repeat ((conv=>whnf);refine za ?_)
             exact trivial
            ·have e7:r.i=4:=by omega
             rw [e7,zlb hkn (by omega) hnx]
             refine wk ?_
             refine ⟨⟨q.i+1,h4⟩,[0,1],by show (60)-(q.i+1)<(60)-q.i;omega,?_⟩
             repeat ((conv=>whnf);refine za ?_)
             conv=>whnf
             refine zh (congrArg SV.u8 (by show (rc ((q.i-1)/ 8))=rc ((q.i+1-1)/ 8);rw [Nat.add_sub_cancel,zpo (by omega) h6])) ?_
             repeat ((conv=>whnf);refine za ?_)
             exact trivial
       ·have e4:q.i=60:=by omega
        rw [e4,zys (by rfl)]
        have hW:=zci hkn 60
        generalize ks key 8 60=W at*
        refine wk ?_
        refine zt (Ix (60)) (fun u=>⟨[(0,.str key),(2,.nilptr),(3,.bool false),(4,.ptr 0 0 0 []),(5,.int 8),(6,.sl 1 0 0 [] 60 60),(141,.int 60),(142,.int u.i)],[.mk 147 [.arr8 256 box,.sl 2 0 0 [] 15 15],.mk 140 [.arr8 240 W],.mk 103 [.arr8 240 (kc W u.i)]]⟩) (fun u=>(60)-u.i) ⟨0,Nat.zero_le _⟩ [0,1,2] ?_ ?_
        ·repeat ((conv=>whnf);refine za ?_)
         conv=>whnf
         refine zh (congrArg (fun x=>SV.agg [SV.arr8 240 x]) (by rw [zue,hW];rfl)) ?_
         repeat ((conv=>whnf);refine za ?_)
         exact trivial
        ·intro u
         have hui:=u.hi
         have hlk:=zzj (W:=W) (i:=u.i) (by omega)
         have hU:((u.i:Int)).toNat=u.i:=Int.toNat_natCast _
         have hd:(u.i:Int).tdiv 4=((u.i/ 4:Nat):Int):=by rw [Int.tdiv_eq_ediv_of_nonneg (by omega)];omega
         have hm:(u.i:Int).tmod 4=((u.i%4:Nat):Int):=by rw [Int.tmod_eq_emod_of_nonneg (by omega)];omega
         have hpd:(4:Int)≠0∧yh ((u.i:Int).tdiv 4):=⟨by decide,by unfold yh;omega⟩
         by_cases h8:u.i<60
         ·have hs:slO 16 (4*(u.i:Int).tmod 4).toNat=4*(u.i%4):=by rw [xa (by omega)];omega
          have hv4:(List.take 4 (List.drop (off (yc [] ((u.i:Int)).toNat zbn.sz)) W))=(W.drop (4*u.i)).take 4:=by
            show List.take 4 (List.drop (((u.i:Int)).toNat*4) W)=_
            rw [hU,Nat.mul_comm]
          have hv5:((W.drop (4*u.i)).take 4).length=4:=by rw [List.length_take,List.length_drop];omega
          refine wk ?_
          rw [hs,hv4,hv5,Nat.min_eq_left (show 4≤16-(4*(u.i:Int).tmod 4).toNat by omega)]
          conv=>whnf
          refine ⟨⟨u.i+1,h8⟩,[0,1,2],by show (60)-(u.i+1)<(60)-u.i;omega,?_⟩
          repeat ((conv=>whnf);refine za ?_)
          conv=>whnf
          refine zh (congrArg (fun x=>SV.agg [SV.arr8 240 x]) (zm0 (by omega) ?hv ?hkk)) ?_
          case hkk=>show ((u.i:Int).tdiv 4).toNat*16+4*(u.i%4)=4*u.i;omega
          case hv=>exact List.take_of_length_le (by omega)
          repeat ((conv=>whnf);refine za ?_)
          exact trivial
         ·have e8:u.i=60:=by omega
          rw [e8,zxh (by omega)]
          refine wk ?_
          exact ze (hp':= [.mk 147 [.arr8 256 box,.sl 1 0 0 [] 15 15],.mk 103 [.arr8 240 W]]) [0,2] h
     ·have h:=hn (decide_eq_false (fun h=>h.elim hk hk2))
      refine wk ?_
      exact ze (hp':= []) [] h
   ·exact h.elim
end Go.Sym.A
