/-
  Contracts of functions of the program, each said of symbolic values, and plain laws; no condition beyond each statement's own.
-/
import Derived.Test.YtmmpgjcpielefaaG9
import Derived.Test.YtmmpgjcpielefaaRows
set_option linter.unusedSimpArgs false
set_option linter.unusedVariables false
namespace Go.Sym.A
open Go.Proofs.Try
set_option maxRecDepth 100000
def ty2 : TyI := ⟨(.int .i64), 1, 8, (.int 0), false⟩
theorem ty2_ok : TyOK prog 2 ty2 := ⟨⟨_, info_of Go.Proofs.Try.typeInfo2, rfl, rfl, fun _ => rfl⟩, ⟨by simp [ty2, SV.ok, okL], by simp [ty2, Ty.agg], by simp [ty2, SV.size, sizeL]⟩, Go.Proofs.Try.underlying2, fun h => by cases h⟩
def ty3 : TyI := ⟨(.int .i64), 1, 8, (.int 0), false⟩
theorem ty3_ok : TyOK prog 3 ty3 := ⟨⟨_, info_of Go.Proofs.Try.typeInfo3, rfl, rfl, fun _ => rfl⟩, ⟨by simp [ty3, SV.ok, okL], by simp [ty3, Ty.agg], by simp [ty3, SV.size, sizeL]⟩, Go.Proofs.Try.underlying3, fun h => by cases h⟩
def ty4 : TyI := ⟨.bool, 1, 1, (.bool false), false⟩
theorem ty4_ok : TyOK prog 4 ty4 := ⟨⟨_, info_of Go.Proofs.Try.typeInfo4, rfl, rfl, fun _ => rfl⟩, ⟨by simp [ty4, SV.ok, okL], by simp [ty4, Ty.agg], by simp [ty4, SV.size, sizeL]⟩, Go.Proofs.Try.underlying4, fun h => by cases h⟩
def ty5 : TyI := ⟨(.int .u8), 1, 1, (.u8 0), false⟩
theorem ty5_ok : TyOK prog 5 ty5 := ⟨⟨_, info_of Go.Proofs.Try.typeInfo5, rfl, rfl, fun _ => rfl⟩, ⟨by simp [ty5, SV.ok, okL], by simp [ty5, Ty.agg], by simp [ty5, SV.size, sizeL]⟩, Go.Proofs.Try.underlying5, fun h => by cases h⟩
def ty9 : TyI := ⟨.str, 1, 16, (.str []), false⟩
theorem ty9_ok : TyOK prog 9 ty9 := ⟨⟨_, info_of Go.Proofs.Try.typeInfo9, rfl, rfl, fun _ => rfl⟩, ⟨by simp [ty9, SV.ok, okL], by simp [ty9, Ty.agg], by simp [ty9, SV.size, sizeL]⟩, Go.Proofs.Try.underlying9, fun h => by cases h⟩
def ty22 : TyI := ⟨(.int .i64), 1, 8, (.int 0), false⟩
theorem ty22_ok : TyOK prog 22 ty22 := ⟨⟨_, info_of Go.Proofs.Try.typeInfo22, rfl, rfl, fun _ => rfl⟩, ⟨by simp [ty22, SV.ok, okL], by simp [ty22, Ty.agg], by simp [ty22, SV.size, sizeL]⟩, Go.Proofs.Try.underlying22, fun h => by cases h⟩
def ty34 : TyI := ⟨(.int .u64), 1, 8, (.u64 0), false⟩
theorem ty34_ok : TyOK prog 34 ty34 := ⟨⟨_, info_of Go.Proofs.Try.typeInfo34, rfl, rfl, fun _ => rfl⟩, ⟨by simp [ty34, SV.ok, okL], by simp [ty34, Ty.agg], by simp [ty34, SV.size, sizeL]⟩, Go.Proofs.Try.underlying34, fun h => by cases h⟩
def ty35 : TyI := ⟨(.sl 5), 1, 24, (.nilsl), false⟩
theorem ty35_ok : TyOK prog 35 ty35 := ⟨⟨_, info_of Go.Proofs.Try.typeInfo35, rfl, rfl, fun _ => rfl⟩, ⟨by simp [ty35, SV.ok, okL], by simp [ty35, Ty.agg], by simp [ty35, SV.size, sizeL]⟩, Go.Proofs.Try.underlying35, fun h => by cases h⟩
def ty43 : TyI := ⟨.ptr, 1, 8, (.nilptr), false⟩
theorem ty43_ok : TyOK prog 43 ty43 := ⟨⟨_, info_of Go.Proofs.Try.typeInfo43, rfl, rfl, fun _ => rfl⟩, ⟨by simp [ty43, SV.ok, okL], by simp [ty43, Ty.agg], by simp [ty43, SV.size, sizeL]⟩, ⟨_, Go.Proofs.Try.underlying43⟩, fun h => by cases h⟩
def ty49 : TyI := ⟨(.struct [(0, 3), (1, 9)]), 2, 24, (.agg [.int 0, .str []]), true⟩
theorem ty49_ok : TyOK prog 49 ty49 := ⟨⟨_, info_of Go.Proofs.Try.typeInfo49, rfl, rfl, fun _ => rfl⟩, ⟨by simp [ty49, SV.ok, okL], by simp [ty49, Ty.agg], by simp [ty49, SV.size, sizeL]⟩, ⟨_, Go.Proofs.Try.underlying49, rfl, by decide⟩, fun _ => ⟨by decide +kernel, Go.Proofs.Try.eqGuardType49⟩⟩
def ty50 : TyI := ⟨(.struct [(0, 3), (1, 9)]), 2, 24, (.agg [.int 0, .str []]), true⟩
theorem ty50_ok : TyOK prog 50 ty50 := ⟨⟨_, info_of Go.Proofs.Try.typeInfo50, rfl, rfl, fun _ => rfl⟩, ⟨by simp [ty50, SV.ok, okL], by simp [ty50, Ty.agg], by simp [ty50, SV.size, sizeL]⟩, ⟨_, Go.Proofs.Try.underlying50, rfl, by decide⟩, fun _ => ⟨by decide +kernel, Go.Proofs.Try.eqGuardType50⟩⟩
def ty58 : TyI := ⟨(.sl 3), 1, 24, (.nilsl), false⟩
theorem ty58_ok : TyOK prog 58 ty58 := ⟨⟨_, info_of Go.Proofs.Try.typeInfo58, rfl, rfl, fun _ => rfl⟩, ⟨by simp [ty58, SV.ok, okL], by simp [ty58, Ty.agg], by simp [ty58, SV.size, sizeL]⟩, Go.Proofs.Try.underlying58, fun h => by cases h⟩
def ty59 : TyI := ⟨(.sl 9), 1, 24, (.nilsl), false⟩
theorem ty59_ok : TyOK prog 59 ty59 := ⟨⟨_, info_of Go.Proofs.Try.typeInfo59, rfl, rfl, fun _ => rfl⟩, ⟨by simp [ty59, SV.ok, okL], by simp [ty59, Ty.agg], by simp [ty59, SV.size, sizeL]⟩, Go.Proofs.Try.underlying59, fun h => by cases h⟩
def ty60 : TyI := ⟨(.sl 50), 1, 24, (.nilsl), false⟩
theorem ty60_ok : TyOK prog 60 ty60 := ⟨⟨_, info_of Go.Proofs.Try.typeInfo60, rfl, rfl, fun _ => rfl⟩, ⟨by simp [ty60, SV.ok, okL], by simp [ty60, Ty.agg], by simp [ty60, SV.size, sizeL]⟩, Go.Proofs.Try.underlying60, fun h => by cases h⟩
def ty64 : TyI := ⟨(.struct [(0, 35), (1, 35)]), 2, 48, (.agg [.nilsl, .nilsl]), false⟩
theorem ty64_ok : TyOK prog 64 ty64 := ⟨⟨_, info_of Go.Proofs.Try.typeInfo64, rfl, rfl, fun _ => rfl⟩, ⟨by simp [ty64, SV.ok, okL], by simp [ty64, Ty.agg], by simp [ty64, SV.size, sizeL]⟩, ⟨_, Go.Proofs.Try.underlying64, rfl, by decide⟩, fun h => by cases h⟩
def ty65 : TyI := ⟨(.struct [(0, 35), (1, 35)]), 2, 48, (.agg [.nilsl, .nilsl]), false⟩
theorem ty65_ok : TyOK prog 65 ty65 := ⟨⟨_, info_of Go.Proofs.Try.typeInfo65, rfl, rfl, fun _ => rfl⟩, ⟨by simp [ty65, SV.ok, okL], by simp [ty65, Ty.agg], by simp [ty65, SV.size, sizeL]⟩, ⟨_, Go.Proofs.Try.underlying65, rfl, by decide⟩, fun h => by cases h⟩
def ty67 : TyI := ⟨.ptr, 1, 8, (.nilptr), false⟩
theorem ty67_ok : TyOK prog 67 ty67 := ⟨⟨_, info_of Go.Proofs.Try.typeInfo67, rfl, rfl, fun _ => rfl⟩, ⟨by simp [ty67, SV.ok, okL], by simp [ty67, Ty.agg], by simp [ty67, SV.size, sizeL]⟩, ⟨_, Go.Proofs.Try.underlying67⟩, fun h => by cases h⟩
def ty68 : TyI := ⟨(.struct [(0, 9), (1, 9), (2, 67)]), 3, 40, (.agg [.str [], .str [], .nilptr]), true⟩
theorem ty68_ok : TyOK prog 68 ty68 := ⟨⟨_, info_of Go.Proofs.Try.typeInfo68, rfl, rfl, fun _ => rfl⟩, ⟨by simp [ty68, SV.ok, okL], by simp [ty68, Ty.agg], by simp [ty68, SV.size, sizeL]⟩, ⟨_, Go.Proofs.Try.underlying68, rfl, by decide⟩, fun _ => ⟨by decide +kernel, Go.Proofs.Try.eqGuardType68⟩⟩
def ty69 : TyI := ⟨(.struct [(0, 9), (1, 9), (2, 67)]), 3, 40, (.agg [.str [], .str [], .nilptr]), true⟩
theorem ty69_ok : TyOK prog 69 ty69 := ⟨⟨_, info_of Go.Proofs.Try.typeInfo69, rfl, rfl, fun _ => rfl⟩, ⟨by simp [ty69, SV.ok, okL], by simp [ty69, Ty.agg], by simp [ty69, SV.size, sizeL]⟩, ⟨_, Go.Proofs.Try.underlying69, rfl, by decide⟩, fun _ => ⟨by decide +kernel, Go.Proofs.Try.eqGuardType69⟩⟩
def ty82 : TyI := ⟨.ptr, 1, 8, (.nilptr), false⟩
theorem ty82_ok : TyOK prog 82 ty82 := ⟨⟨_, info_of Go.Proofs.Try.typeInfo82, rfl, rfl, fun _ => rfl⟩, ⟨by simp [ty82, SV.ok, okL], by simp [ty82, Ty.agg], by simp [ty82, SV.size, sizeL]⟩, ⟨_, Go.Proofs.Try.underlying82⟩, fun h => by cases h⟩
def ty83 : TyI := ⟨(.struct [(0, 3), (1, 82)]), 2, 16, (.agg [.int 0, .nilptr]), true⟩
theorem ty83_ok : TyOK prog 83 ty83 := ⟨⟨_, info_of Go.Proofs.Try.typeInfo83, rfl, rfl, fun _ => rfl⟩, ⟨by simp [ty83, SV.ok, okL], by simp [ty83, Ty.agg], by simp [ty83, SV.size, sizeL]⟩, ⟨_, Go.Proofs.Try.underlying83, rfl, by decide⟩, fun _ => ⟨by decide +kernel, Go.Proofs.Try.eqGuardType83⟩⟩
def ty84 : TyI := ⟨(.struct [(0, 3), (1, 82)]), 2, 16, (.agg [.int 0, .nilptr]), true⟩
theorem ty84_ok : TyOK prog 84 ty84 := ⟨⟨_, info_of Go.Proofs.Try.typeInfo84, rfl, rfl, fun _ => rfl⟩, ⟨by simp [ty84, SV.ok, okL], by simp [ty84, Ty.agg], by simp [ty84, SV.size, sizeL]⟩, ⟨_, Go.Proofs.Try.underlying84, rfl, by decide⟩, fun _ => ⟨by decide +kernel, Go.Proofs.Try.eqGuardType84⟩⟩
def ty87 : TyI := ⟨(.struct [(0, 84), (2, 82), (3, 9), (4, 3)]), 5, 48, (.agg [.int 0, .nilptr, .nilptr, .str [], .int 0]), true⟩
theorem ty87_ok : TyOK prog 87 ty87 := ⟨⟨_, info_of Go.Proofs.Try.typeInfo87, rfl, rfl, fun _ => rfl⟩, ⟨by simp [ty87, SV.ok, okL], by simp [ty87, Ty.agg], by simp [ty87, SV.size, sizeL]⟩, ⟨_, Go.Proofs.Try.underlying87, rfl, by decide⟩, fun _ => ⟨by decide +kernel, Go.Proofs.Try.eqGuardType87⟩⟩
def ty88 : TyI := ⟨(.struct [(0, 84), (2, 82), (3, 9), (4, 3)]), 5, 48, (.agg [.int 0, .nilptr, .nilptr, .str [], .int 0]), true⟩
theorem ty88_ok : TyOK prog 88 ty88 := ⟨⟨_, info_of Go.Proofs.Try.typeInfo88, rfl, rfl, fun _ => rfl⟩, ⟨by simp [ty88, SV.ok, okL], by simp [ty88, Ty.agg], by simp [ty88, SV.size, sizeL]⟩, ⟨_, Go.Proofs.Try.underlying88, rfl, by decide⟩, fun _ => ⟨by decide +kernel, Go.Proofs.Try.eqGuardType88⟩⟩
def ty91 : TyI := ⟨(.int .u64), 1, 8, (.u64 0), false⟩
theorem ty91_ok : TyOK prog 91 ty91 := ⟨⟨_, info_of Go.Proofs.Try.typeInfo91, rfl, rfl, fun _ => rfl⟩, ⟨by simp [ty91, SV.ok, okL], by simp [ty91, Ty.agg], by simp [ty91, SV.size, sizeL]⟩, Go.Proofs.Try.underlying91, fun h => by cases h⟩
def ty93 : TyI := ⟨(.int .u32), 1, 4, (.u32 0), false⟩
theorem ty93_ok : TyOK prog 93 ty93 := ⟨⟨_, info_of Go.Proofs.Try.typeInfo93, rfl, rfl, fun _ => rfl⟩, ⟨by simp [ty93, SV.ok, okL], by simp [ty93, Ty.agg], by simp [ty93, SV.size, sizeL]⟩, Go.Proofs.Try.underlying93, fun h => by cases h⟩
def ty96 : TyI := ⟨(.sl 140), 1, 24, (.nilsl), false⟩
theorem ty96_ok : TyOK prog 96 ty96 := ⟨⟨_, info_of Go.Proofs.Try.typeInfo96, rfl, rfl, fun _ => rfl⟩, ⟨by simp [ty96, SV.ok, okL], by simp [ty96, Ty.agg], by simp [ty96, SV.size, sizeL]⟩, Go.Proofs.Try.underlying96, fun h => by cases h⟩
def ty100 : TyI := ⟨.ptr, 1, 8, (.nilptr), false⟩
theorem ty100_ok : TyOK prog 100 ty100 := ⟨⟨_, info_of Go.Proofs.Try.typeInfo100, rfl, rfl, fun _ => rfl⟩, ⟨by simp [ty100, SV.ok, okL], by simp [ty100, Ty.agg], by simp [ty100, SV.size, sizeL]⟩, ⟨_, Go.Proofs.Try.underlying100⟩, fun h => by cases h⟩
def ty103 : TyI := ⟨(.arr 16 5), 16, 16, (.arr8 16 (List.replicate 16 0)), true⟩
theorem ty103_ok : TyOK prog 103 ty103 := ⟨⟨_, info_of Go.Proofs.Try.typeInfo103, rfl, rfl, fun _ => rfl⟩, ⟨by simp [ty103, SV.ok, okL], by simp [ty103, Ty.agg], by simp [ty103, SV.size, sizeL]⟩, Go.Proofs.Try.underlying103, fun _ => ⟨by decide +kernel, Go.Proofs.Try.eqGuardType103⟩⟩
def ty105 : TyI := ⟨(.struct [(0, 91), (1, 91)]), 2, 16, (.agg [.u64 0, .u64 0]), true⟩
theorem ty105_ok : TyOK prog 105 ty105 := ⟨⟨_, info_of Go.Proofs.Try.typeInfo105, rfl, rfl, fun _ => rfl⟩, ⟨by simp [ty105, SV.ok, okL], by simp [ty105, Ty.agg], by simp [ty105, SV.size, sizeL]⟩, ⟨_, Go.Proofs.Try.underlying105, rfl, by decide⟩, fun _ => ⟨by decide +kernel, Go.Proofs.Try.eqGuardType105⟩⟩
def ty106 : TyI := ⟨(.struct [(0, 91), (1, 91)]), 2, 16, (.agg [.u64 0, .u64 0]), true⟩
theorem ty106_ok : TyOK prog 106 ty106 := ⟨⟨_, info_of Go.Proofs.Try.typeInfo106, rfl, rfl, fun _ => rfl⟩, ⟨by simp [ty106, SV.ok, okL], by simp [ty106, Ty.agg], by simp [ty106, SV.size, sizeL]⟩, ⟨_, Go.Proofs.Try.underlying106, rfl, by decide⟩, fun _ => ⟨by decide +kernel, Go.Proofs.Try.eqGuardType106⟩⟩
def ty108 : TyI := ⟨(.struct [(0, 100), (1, 106)]), 3, 24, (.agg [.nilptr, .u64 0, .u64 0]), true⟩
theorem ty108_ok : TyOK prog 108 ty108 := ⟨⟨_, info_of Go.Proofs.Try.typeInfo108, rfl, rfl, fun _ => rfl⟩, ⟨by simp [ty108, SV.ok, okL], by simp [ty108, Ty.agg], by simp [ty108, SV.size, sizeL]⟩, ⟨_, Go.Proofs.Try.underlying108, rfl, by decide⟩, fun _ => ⟨by decide +kernel, Go.Proofs.Try.eqGuardType108⟩⟩
def ty109 : TyI := ⟨(.struct [(0, 100), (1, 106)]), 3, 24, (.agg [.nilptr, .u64 0, .u64 0]), true⟩
theorem ty109_ok : TyOK prog 109 ty109 := ⟨⟨_, info_of Go.Proofs.Try.typeInfo109, rfl, rfl, fun _ => rfl⟩, ⟨by simp [ty109, SV.ok, okL], by simp [ty109, Ty.agg], by simp [ty109, SV.size, sizeL]⟩, ⟨_, Go.Proofs.Try.underlying109, rfl, by decide⟩, fun _ => ⟨by decide +kernel, Go.Proofs.Try.eqGuardType109⟩⟩
def ty111 : TyI := ⟨.ptr, 1, 8, (.nilptr), false⟩
theorem ty111_ok : TyOK prog 111 ty111 := ⟨⟨_, info_of Go.Proofs.Try.typeInfo111, rfl, rfl, fun _ => rfl⟩, ⟨by simp [ty111, SV.ok, okL], by simp [ty111, Ty.agg], by simp [ty111, SV.size, sizeL]⟩, ⟨_, Go.Proofs.Try.underlying111⟩, fun h => by cases h⟩
def ty114 : TyI := ⟨(.arr 16 106), 32, 256, (.arr64 32 (List.replicate 32 0)), true⟩
theorem ty114_ok : TyOK prog 114 ty114 := ⟨⟨_, info_of Go.Proofs.Try.typeInfo114, rfl, rfl, fun _ => rfl⟩, ⟨by simp [ty114, SV.ok, okL], by simp [ty114, Ty.agg], by simp [ty114, SV.size, sizeL]⟩, Go.Proofs.Try.underlying114, fun _ => ⟨by decide +kernel, Go.Proofs.Try.eqGuardType114⟩⟩
def ty115 : TyI := ⟨(.arr 16 91), 16, 128, (.arr64 16 (List.replicate 16 0)), true⟩
theorem ty115_ok : TyOK prog 115 ty115 := ⟨⟨_, info_of Go.Proofs.Try.typeInfo115, rfl, rfl, fun _ => rfl⟩, ⟨by simp [ty115, SV.ok, okL], by simp [ty115, Ty.agg], by simp [ty115, SV.size, sizeL]⟩, Go.Proofs.Try.underlying115, fun _ => ⟨by decide +kernel, Go.Proofs.Try.eqGuardType115⟩⟩
def ty116 : TyI := ⟨(.struct [(0, 114), (32, 115), (48, 106)]), 50, 400, (.agg [.arr64 32 (List.replicate 32 0), .arr64 16 (List.replicate 16 0), .u64 0, .u64 0]), true⟩
theorem ty116_ok : TyOK prog 116 ty116 := ⟨⟨_, info_of Go.Proofs.Try.typeInfo116, rfl, rfl, fun _ => rfl⟩, ⟨by simp [ty116, SV.ok, okL], by simp [ty116, Ty.agg], by simp [ty116, SV.size, sizeL]⟩, ⟨_, Go.Proofs.Try.underlying116, rfl, by decide⟩, fun _ => ⟨by decide +kernel, Go.Proofs.Try.eqGuardType116⟩⟩
def ty117 : TyI := ⟨(.struct [(0, 114), (32, 115), (48, 106)]), 50, 400, (.agg [.arr64 32 (List.replicate 32 0), .arr64 16 (List.replicate 16 0), .u64 0, .u64 0]), true⟩
theorem ty117_ok : TyOK prog 117 ty117 := ⟨⟨_, info_of Go.Proofs.Try.typeInfo117, rfl, rfl, fun _ => rfl⟩, ⟨by simp [ty117, SV.ok, okL], by simp [ty117, Ty.agg], by simp [ty117, SV.size, sizeL]⟩, ⟨_, Go.Proofs.Try.underlying117, rfl, by decide⟩, fun _ => ⟨by decide +kernel, Go.Proofs.Try.eqGuardType117⟩⟩
def ty118 : TyI := ⟨(.arr 64 5), 64, 64, (.arr8 64 (List.replicate 64 0)), true⟩
theorem ty118_ok : TyOK prog 118 ty118 := ⟨⟨_, info_of Go.Proofs.Try.typeInfo118, rfl, rfl, fun _ => rfl⟩, ⟨by simp [ty118, SV.ok, okL], by simp [ty118, Ty.agg], by simp [ty118, SV.size, sizeL]⟩, Go.Proofs.Try.underlying118, fun _ => ⟨by decide +kernel, Go.Proofs.Try.eqGuardType118⟩⟩
def ty119 : TyI := ⟨(.arr 16 93), 16, 64, (.arr32 16 (List.replicate 16 0)), true⟩
theorem ty119_ok : TyOK prog 119 ty119 := ⟨⟨_, info_of Go.Proofs.Try.typeInfo119, rfl, rfl, fun _ => rfl⟩, ⟨by simp [ty119, SV.ok, okL], by simp [ty119, Ty.agg], by simp [ty119, SV.size, sizeL]⟩, Go.Proofs.Try.underlying119, fun _ => ⟨by decide +kernel, Go.Proofs.Try.eqGuardType119⟩⟩
def ty120 : TyI := ⟨(.arr 16 93), 16, 64, (.arr32 16 (List.replicate 16 0)), true⟩
theorem ty120_ok : TyOK prog 120 ty120 := ⟨⟨_, info_of Go.Proofs.Try.typeInfo120, rfl, rfl, fun _ => rfl⟩, ⟨by simp [ty120, SV.ok, okL], by simp [ty120, Ty.agg], by simp [ty120, SV.size, sizeL]⟩, Go.Proofs.Try.underlying120, fun _ => ⟨by decide +kernel, Go.Proofs.Try.eqGuardType120⟩⟩
def ty124 : TyI := ⟨.ptr, 1, 8, (.nilptr), false⟩
theorem ty124_ok : TyOK prog 124 ty124 := ⟨⟨_, info_of Go.Proofs.Try.typeInfo124, rfl, rfl, fun _ => rfl⟩, ⟨by simp [ty124, SV.ok, okL], by simp [ty124, Ty.agg], by simp [ty124, SV.size, sizeL]⟩, ⟨_, Go.Proofs.Try.underlying124⟩, fun h => by cases h⟩
def ty129 : TyI := ⟨(.struct [(0, 3), (1, 9), (2, 9), (3, 3)]), 4, 48, (.agg [.int 0, .str [], .str [], .int 0]), true⟩
theorem ty129_ok : TyOK prog 129 ty129 := ⟨⟨_, info_of Go.Proofs.Try.typeInfo129, rfl, rfl, fun _ => rfl⟩, ⟨by simp [ty129, SV.ok, okL], by simp [ty129, Ty.agg], by simp [ty129, SV.size, sizeL]⟩, ⟨_, Go.Proofs.Try.underlying129, rfl, by decide⟩, fun _ => ⟨by decide +kernel, Go.Proofs.Try.eqGuardType129⟩⟩
def ty130 : TyI := ⟨(.struct [(0, 3), (1, 9), (2, 9), (3, 3)]), 4, 48, (.agg [.int 0, .str [], .str [], .int 0]), true⟩
theorem ty130_ok : TyOK prog 130 ty130 := ⟨⟨_, info_of Go.Proofs.Try.typeInfo130, rfl, rfl, fun _ => rfl⟩, ⟨by simp [ty130, SV.ok, okL], by simp [ty130, Ty.agg], by simp [ty130, SV.size, sizeL]⟩, ⟨_, Go.Proofs.Try.underlying130, rfl, by decide⟩, fun _ => ⟨by decide +kernel, Go.Proofs.Try.eqGuardType130⟩⟩
def ty134 : TyI := ⟨.ptr, 1, 8, (.nilptr), false⟩
theorem ty134_ok : TyOK prog 134 ty134 := ⟨⟨_, info_of Go.Proofs.Try.typeInfo134, rfl, rfl, fun _ => rfl⟩, ⟨by simp [ty134, SV.ok, okL], by simp [ty134, Ty.agg], by simp [ty134, SV.size, sizeL]⟩, ⟨_, Go.Proofs.Try.underlying134⟩, fun h => by cases h⟩
def ty140 : TyI := ⟨(.arr 4 5), 4, 4, (.arr8 4 [0, 0, 0, 0]), true⟩
theorem ty140_ok : TyOK prog 140 ty140 := ⟨⟨_, info_of Go.Proofs.Try.typeInfo140, rfl, rfl, fun _ => rfl⟩, ⟨by simp [ty140, SV.ok, okL], by simp [ty140, Ty.agg], by simp [ty140, SV.size, sizeL]⟩, Go.Proofs.Try.underlying140, fun _ => ⟨by decide +kernel, Go.Proofs.Try.eqGuardType140⟩⟩
def ty143 : TyI := ⟨(.arr 256 5), 256, 256, (.arr8 256 (List.replicate 256 0)), true⟩
theorem ty143_ok : TyOK prog 143 ty143 := ⟨⟨_, info_of Go.Proofs.Try.typeInfo143, rfl, rfl, fun _ => rfl⟩, ⟨by simp [ty143, SV.ok, okL], by simp [ty143, Ty.agg], by simp [ty143, SV.size, sizeL]⟩, Go.Proofs.Try.underlying143, fun _ => ⟨by decide +kernel, Go.Proofs.Try.eqGuardType143⟩⟩
def ty145 : TyI := ⟨(.sl 103), 1, 24, (.nilsl), false⟩
theorem ty145_ok : TyOK prog 145 ty145 := ⟨⟨_, info_of Go.Proofs.Try.typeInfo145, rfl, rfl, fun _ => rfl⟩, ⟨by simp [ty145, SV.ok, okL], by simp [ty145, Ty.agg], by simp [ty145, SV.size, sizeL]⟩, Go.Proofs.Try.underlying145, fun h => by cases h⟩
def ty146 : TyI := ⟨(.struct [(0, 143), (256, 145)]), 257, 280, (.agg [.arr8 256 (List.replicate 256 0), .nilsl]), false⟩
theorem ty146_ok : TyOK prog 146 ty146 := ⟨⟨_, info_of Go.Proofs.Try.typeInfo146, rfl, rfl, fun _ => rfl⟩, ⟨by simp [ty146, SV.ok, okL], by simp [ty146, Ty.agg], by simp [ty146, SV.size, sizeL]⟩, ⟨_, Go.Proofs.Try.underlying146, rfl, by decide⟩, fun h => by cases h⟩
def ty147 : TyI := ⟨(.struct [(0, 143), (256, 145)]), 257, 280, (.agg [.arr8 256 (List.replicate 256 0), .nilsl]), false⟩
theorem ty147_ok : TyOK prog 147 ty147 := ⟨⟨_, info_of Go.Proofs.Try.typeInfo147, rfl, rfl, fun _ => rfl⟩, ⟨by simp [ty147, SV.ok, okL], by simp [ty147, Ty.agg], by simp [ty147, SV.size, sizeL]⟩, ⟨_, Go.Proofs.Try.underlying147, rfl, by decide⟩, fun h => by cases h⟩
def ty152 : TyI := ⟨(.arr 5 91), 5, 40, (.arr64 5 [0, 0, 0, 0, 0]), true⟩
theorem ty152_ok : TyOK prog 152 ty152 := ⟨⟨_, info_of Go.Proofs.Try.typeInfo152, rfl, rfl, fun _ => rfl⟩, ⟨by simp [ty152, SV.ok, okL], by simp [ty152, Ty.agg], by simp [ty152, SV.size, sizeL]⟩, Go.Proofs.Try.underlying152, fun _ => ⟨by decide +kernel, Go.Proofs.Try.eqGuardType152⟩⟩
def ty153 : TyI := ⟨(.arr 5 91), 5, 40, (.arr64 5 [0, 0, 0, 0, 0]), true⟩
theorem ty153_ok : TyOK prog 153 ty153 := ⟨⟨_, info_of Go.Proofs.Try.typeInfo153, rfl, rfl, fun _ => rfl⟩, ⟨by simp [ty153, SV.ok, okL], by simp [ty153, Ty.agg], by simp [ty153, SV.size, sizeL]⟩, Go.Proofs.Try.underlying153, fun _ => ⟨by decide +kernel, Go.Proofs.Try.eqGuardType153⟩⟩
def ty155 : TyI := ⟨(.struct [(0, 153), (5, 153)]), 10, 80, (.agg [.arr64 5 [0, 0, 0, 0, 0], .arr64 5 [0, 0, 0, 0, 0]]), true⟩
theorem ty155_ok : TyOK prog 155 ty155 := ⟨⟨_, info_of Go.Proofs.Try.typeInfo155, rfl, rfl, fun _ => rfl⟩, ⟨by simp [ty155, SV.ok, okL], by simp [ty155, Ty.agg], by simp [ty155, SV.size, sizeL]⟩, ⟨_, Go.Proofs.Try.underlying155, rfl, by decide⟩, fun _ => ⟨by decide +kernel, Go.Proofs.Try.eqGuardType155⟩⟩
def ty156 : TyI := ⟨(.struct [(0, 153), (5, 153)]), 10, 80, (.agg [.arr64 5 [0, 0, 0, 0, 0], .arr64 5 [0, 0, 0, 0, 0]]), true⟩
theorem ty156_ok : TyOK prog 156 ty156 := ⟨⟨_, info_of Go.Proofs.Try.typeInfo156, rfl, rfl, fun _ => rfl⟩, ⟨by simp [ty156, SV.ok, okL], by simp [ty156, Ty.agg], by simp [ty156, SV.size, sizeL]⟩, ⟨_, Go.Proofs.Try.underlying156, rfl, by decide⟩, fun _ => ⟨by decide +kernel, Go.Proofs.Try.eqGuardType156⟩⟩
def ty163 : TyI := ⟨.func, 1, 8, (.nilfn), false⟩
theorem ty163_ok : TyOK prog 163 ty163 := ⟨⟨_, info_of Go.Proofs.Try.typeInfo163, rfl, rfl, fun _ => rfl⟩, ⟨by simp [ty163, SV.ok, okL], by simp [ty163, Ty.agg], by simp [ty163, SV.size, sizeL]⟩, ⟨_, _, _, Go.Proofs.Try.underlying163⟩, fun h => by cases h⟩
def ty173 : TyI := ⟨.ptr, 1, 8, (.nilptr), false⟩
theorem ty173_ok : TyOK prog 173 ty173 := ⟨⟨_, info_of Go.Proofs.Try.typeInfo173, rfl, rfl, fun _ => rfl⟩, ⟨by simp [ty173, SV.ok, okL], by simp [ty173, Ty.agg], by simp [ty173, SV.size, sizeL]⟩, ⟨_, Go.Proofs.Try.underlying173⟩, fun h => by cases h⟩
def ty175 : TyI := ⟨(.arr 3 91), 3, 24, (.arr64 3 [0, 0, 0]), true⟩
theorem ty175_ok : TyOK prog 175 ty175 := ⟨⟨_, info_of Go.Proofs.Try.typeInfo175, rfl, rfl, fun _ => rfl⟩, ⟨by simp [ty175, SV.ok, okL], by simp [ty175, Ty.agg], by simp [ty175, SV.size, sizeL]⟩, Go.Proofs.Try.underlying175, fun _ => ⟨by decide +kernel, Go.Proofs.Try.eqGuardType175⟩⟩
def ty177 : TyI := ⟨.ptr, 1, 8, (.nilptr), false⟩
theorem ty177_ok : TyOK prog 177 ty177 := ⟨⟨_, info_of Go.Proofs.Try.typeInfo177, rfl, rfl, fun _ => rfl⟩, ⟨by simp [ty177, SV.ok, okL], by simp [ty177, Ty.agg], by simp [ty177, SV.size, sizeL]⟩, ⟨_, Go.Proofs.Try.underlying177⟩, fun h => by cases h⟩
def ty183 : TyI := ⟨.ptr, 1, 8, (.nilptr), false⟩
theorem ty183_ok : TyOK prog 183 ty183 := ⟨⟨_, info_of Go.Proofs.Try.typeInfo183, rfl, rfl, fun _ => rfl⟩, ⟨by simp [ty183, SV.ok, okL], by simp [ty183, Ty.agg], by simp [ty183, SV.size, sizeL]⟩, ⟨_, Go.Proofs.Try.underlying183⟩, fun h => by cases h⟩
def ty184 : TyI := ⟨(.struct [(0, 183), (1, 183)]), 2, 16, (.agg [.nilptr, .nilptr]), true⟩
theorem ty184_ok : TyOK prog 184 ty184 := ⟨⟨_, info_of Go.Proofs.Try.typeInfo184, rfl, rfl, fun _ => rfl⟩, ⟨by simp [ty184, SV.ok, okL], by simp [ty184, Ty.agg], by simp [ty184, SV.size, sizeL]⟩, ⟨_, Go.Proofs.Try.underlying184, rfl, by decide⟩, fun _ => ⟨by decide +kernel, Go.Proofs.Try.eqGuardType184⟩⟩
def ty185 : TyI := ⟨(.struct [(0, 183), (1, 183)]), 2, 16, (.agg [.nilptr, .nilptr]), true⟩
theorem ty185_ok : TyOK prog 185 ty185 := ⟨⟨_, info_of Go.Proofs.Try.typeInfo185, rfl, rfl, fun _ => rfl⟩, ⟨by simp [ty185, SV.ok, okL], by simp [ty185, Ty.agg], by simp [ty185, SV.size, sizeL]⟩, ⟨_, Go.Proofs.Try.underlying185, rfl, by decide⟩, fun _ => ⟨by decide +kernel, Go.Proofs.Try.eqGuardType185⟩⟩
def ty193 : TyI := ⟨(.arr 8 91), 8, 64, (.arr64 8 [0, 0, 0, 0, 0, 0, 0, 0]), true⟩
theorem ty193_ok : TyOK prog 193 ty193 := ⟨⟨_, info_of Go.Proofs.Try.typeInfo193, rfl, rfl, fun _ => rfl⟩, ⟨by simp [ty193, SV.ok, okL], by simp [ty193, Ty.agg], by simp [ty193, SV.size, sizeL]⟩, Go.Proofs.Try.underlying193, fun _ => ⟨by decide +kernel, Go.Proofs.Try.eqGuardType193⟩⟩
def ty195 : TyI := ⟨(.arr 80 91), 80, 640, (.arr64 80 (List.replicate 80 0)), true⟩
theorem ty195_ok : TyOK prog 195 ty195 := ⟨⟨_, info_of Go.Proofs.Try.typeInfo195, rfl, rfl, fun _ => rfl⟩, ⟨by simp [ty195, SV.ok, okL], by simp [ty195, Ty.agg], by simp [ty195, SV.size, sizeL]⟩, Go.Proofs.Try.underlying195, fun _ => ⟨by decide +kernel, Go.Proofs.Try.eqGuardType195⟩⟩
def ty197 : TyI := ⟨(.struct [(0, 3), (1, 193), (9, 195), (89, 35), (90, 91)]), 91, 744, (.agg [.int 0, .arr64 8 [0, 0, 0, 0, 0, 0, 0, 0], .arr64 80 (List.replicate 80 0), .nilsl, .u64 0]), false⟩
theorem ty197_ok : TyOK prog 197 ty197 := ⟨⟨_, info_of Go.Proofs.Try.typeInfo197, rfl, rfl, fun _ => rfl⟩, ⟨by simp [ty197, SV.ok, okL], by simp [ty197, Ty.agg], by simp [ty197, SV.size, sizeL]⟩, ⟨_, Go.Proofs.Try.underlying197, rfl, by decide⟩, fun h => by cases h⟩
def ty198 : TyI := ⟨(.struct [(0, 3), (1, 193), (9, 195), (89, 35), (90, 91)]), 91, 744, (.agg [.int 0, .arr64 8 [0, 0, 0, 0, 0, 0, 0, 0], .arr64 80 (List.replicate 80 0), .nilsl, .u64 0]), false⟩
theorem ty198_ok : TyOK prog 198 ty198 := ⟨⟨_, info_of Go.Proofs.Try.typeInfo198, rfl, rfl, fun _ => rfl⟩, ⟨by simp [ty198, SV.ok, okL], by simp [ty198, Ty.agg], by simp [ty198, SV.size, sizeL]⟩, ⟨_, Go.Proofs.Try.underlying198, rfl, by decide⟩, fun h => by cases h⟩
def ty199 : TyI := ⟨(.arr 64 93), 64, 256, (.arr32 64 (List.replicate 64 0)), true⟩
theorem ty199_ok : TyOK prog 199 ty199 := ⟨⟨_, info_of Go.Proofs.Try.typeInfo199, rfl, rfl, fun _ => rfl⟩, ⟨by simp [ty199, SV.ok, okL], by simp [ty199, Ty.agg], by simp [ty199, SV.size, sizeL]⟩, Go.Proofs.Try.underlying199, fun _ => ⟨by decide +kernel, Go.Proofs.Try.eqGuardType199⟩⟩
def ty201 : TyI := ⟨(.arr 8 93), 8, 32, (.arr32 8 [0, 0, 0, 0, 0, 0, 0, 0]), true⟩
theorem ty201_ok : TyOK prog 201 ty201 := ⟨⟨_, info_of Go.Proofs.Try.typeInfo201, rfl, rfl, fun _ => rfl⟩, ⟨by simp [ty201, SV.ok, okL], by simp [ty201, Ty.agg], by simp [ty201, SV.size, sizeL]⟩, Go.Proofs.Try.underlying201, fun _ => ⟨by decide +kernel, Go.Proofs.Try.eqGuardType201⟩⟩
def ty211 : TyI := ⟨.ptr, 1, 8, (.nilptr), false⟩
theorem ty211_ok : TyOK prog 211 ty211 := ⟨⟨_, info_of Go.Proofs.Try.typeInfo211, rfl, rfl, fun _ => rfl⟩, ⟨by simp [ty211, SV.ok, okL], by simp [ty211, Ty.agg], by simp [ty211, SV.size, sizeL]⟩, ⟨_, Go.Proofs.Try.underlying211⟩, fun h => by cases h⟩
/-- sizes -/
theorem tysz : ty2.sz = 1 ∧ ty2.bytes = 8 ∧ ty3.sz = 1 ∧ ty3.bytes = 8 ∧ ty4.sz = 1 ∧ ty4.bytes = 1 ∧ ty5.sz = 1 ∧ ty5.bytes = 1 ∧ ty9.sz = 1 ∧ ty9.bytes = 16 ∧ ty22.sz = 1 ∧ ty22.bytes = 8 ∧ ty34.sz = 1 ∧ ty34.bytes = 8 ∧ ty35.sz = 1 ∧ ty35.bytes = 24 ∧ ty43.sz = 1 ∧ ty43.bytes = 8 ∧ ty49.sz = 2 ∧ ty49.bytes = 24 ∧ ty50.sz = 2 ∧ ty50.bytes = 24 ∧ ty58.sz = 1 ∧ ty58.bytes = 24 ∧ ty59.sz = 1 ∧ ty59.bytes = 24 ∧ ty60.sz = 1 ∧ ty60.bytes = 24 ∧ ty64.sz = 2 ∧ ty64.bytes = 48 ∧ ty65.sz = 2 ∧ ty65.bytes = 48 ∧ ty67.sz = 1 ∧ ty67.bytes = 8 ∧ ty68.sz = 3 ∧ ty68.bytes = 40 ∧ ty69.sz = 3 ∧ ty69.bytes = 40 ∧ ty82.sz = 1 ∧ ty82.bytes = 8 ∧ ty83.sz = 2 ∧ ty83.bytes = 16 ∧ ty84.sz = 2 ∧ ty84.bytes = 16 ∧ ty87.sz = 5 ∧ ty87.bytes = 48 ∧ ty88.sz = 5 ∧ ty88.bytes = 48 ∧ ty91.sz = 1 ∧ ty91.bytes = 8 ∧ ty93.sz = 1 ∧ ty93.bytes = 4 ∧ ty96.sz = 1 ∧ ty96.bytes = 24 ∧ ty100.sz = 1 ∧ ty100.bytes = 8 ∧ ty103.sz = 16 ∧ ty103.bytes = 16 ∧ ty105.sz = 2 ∧ ty105.bytes = 16 ∧ ty106.sz = 2 ∧ ty106.bytes = 16 ∧ ty108.sz = 3 ∧ ty108.bytes = 24 ∧ ty109.sz = 3 ∧ ty109.bytes = 24 ∧ ty111.sz = 1 ∧ ty111.bytes = 8 ∧ ty114.sz = 32 ∧ ty114.bytes = 256 ∧ ty115.sz = 16 ∧ ty115.bytes = 128 ∧ ty116.sz = 50 ∧ ty116.bytes = 400 ∧ ty117.sz = 50 ∧ ty117.bytes = 400 ∧ ty118.sz = 64 ∧ ty118.bytes = 64 ∧ ty119.sz = 16 ∧ ty119.bytes = 64 ∧ ty120.sz = 16 ∧ ty120.bytes = 64 ∧ ty124.sz = 1 ∧ ty124.bytes = 8 ∧ ty129.sz = 4 ∧ ty129.bytes = 48 ∧ ty130.sz = 4 ∧ ty130.bytes = 48 ∧ ty134.sz = 1 ∧ ty134.bytes = 8 ∧ ty140.sz = 4 ∧ ty140.bytes = 4 ∧ ty143.sz = 256 ∧ ty143.bytes = 256 ∧ ty145.sz = 1 ∧ ty145.bytes = 24 ∧ ty146.sz = 257 ∧ ty146.bytes = 280 ∧ ty147.sz = 257 ∧ ty147.bytes = 280 ∧ ty152.sz = 5 ∧ ty152.bytes = 40 ∧ ty153.sz = 5 ∧ ty153.bytes = 40 ∧ ty155.sz = 10 ∧ ty155.bytes = 80 ∧ ty156.sz = 10 ∧ ty156.bytes = 80 ∧ ty163.sz = 1 ∧ ty163.bytes = 8 ∧ ty173.sz = 1 ∧ ty173.bytes = 8 ∧ ty175.sz = 3 ∧ ty175.bytes = 24 ∧ ty177.sz = 1 ∧ ty177.bytes = 8 ∧ ty183.sz = 1 ∧ ty183.bytes = 8 ∧ ty184.sz = 2 ∧ ty184.bytes = 16 ∧ ty185.sz = 2 ∧ ty185.bytes = 16 ∧ ty193.sz = 8 ∧ ty193.bytes = 64 ∧ ty195.sz = 80 ∧ ty195.bytes = 640 ∧ ty197.sz = 91 ∧ ty197.bytes = 744 ∧ ty198.sz = 91 ∧ ty198.bytes = 744 ∧ ty199.sz = 64 ∧ ty199.bytes = 256 ∧ ty201.sz = 8 ∧ ty201.bytes = 32 ∧ ty211.sz = 1 ∧ ty211.bytes = 8 := by
  refine ⟨rfl, rfl, rfl, rfl, rfl, rfl, rfl, rfl, rfl, rfl, rfl, rfl, rfl, rfl, rfl, rfl, rfl, rfl, rfl, rfl, rfl, rfl, rfl, rfl, rfl, rfl, rfl, rfl, rfl, rfl, rfl, rfl, rfl, rfl, rfl, rfl, rfl, rfl, rfl, rfl, rfl, rfl, rfl, rfl, rfl, rfl, rfl, rfl, rfl, rfl, rfl, rfl, rfl, rfl, rfl, rfl, rfl, rfl, rfl, rfl, rfl, rfl, rfl, rfl, rfl, rfl, rfl, rfl, rfl, rfl, rfl, rfl, rfl, rfl, rfl, rfl, rfl, rfl, rfl, rfl, rfl, rfl, rfl, rfl, rfl, rfl, rfl, rfl, rfl, rfl, rfl, rfl, rfl, rfl, rfl, rfl, rfl, rfl, rfl, rfl, rfl, rfl, rfl, rfl, rfl, rfl, rfl, rfl, rfl, rfl, rfl, rfl, rfl, rfl, rfl, rfl, rfl, rfl, rfl, rfl, rfl, rfl, rfl, rfl, rfl, rfl, rfl, rfl, rfl, rfl, rfl, rfl, rfl, rfl, rfl, rfl⟩
/-- lengths -/
theorem lens : (∀ {α : Type} {x y : List α}, (x ++ y).length = x.length + y.length) ∧ (∀ {α : Type} {i : Nat} {l : List α}, (List.take i l).length = min i l.length) ∧ (∀ {α : Type} {i : Nat} {l : List α}, (List.drop i l).length = l.length - i) ∧ (∀ {α : Type}, ([] : List α).length = 0) ∧ (∀ {α : Type} {a : α} {l : List α}, (a :: l).length = l.length + 1) ∧ (∀ {α : Type} {n : Nat} {a : α}, (List.replicate n a).length = n) ∧ (∀ {α : Type} {l : List α} {i : Nat} {a : α}, (l.set i a).length = l.length) :=
  ⟨List.length_append, List.length_take, List.length_drop, List.length_nil, List.length_cons, List.length_replicate, List.length_set⟩
/-- sizes and offsets -/
theorem sz : (∀ (o : List (Nat × Nat)) (i e : Nat), off (addO o i e) = off o + i * e) ∧ (ty2.sz = 1 ∧ ty2.bytes = 8 ∧ ty3.sz = 1 ∧ ty3.bytes = 8 ∧ ty4.sz = 1 ∧ ty4.bytes = 1 ∧ ty5.sz = 1 ∧ ty5.bytes = 1 ∧ ty9.sz = 1 ∧ ty9.bytes = 16 ∧ ty22.sz = 1 ∧ ty22.bytes = 8 ∧ ty34.sz = 1 ∧ ty34.bytes = 8 ∧ ty35.sz = 1 ∧ ty35.bytes = 24 ∧ ty43.sz = 1 ∧ ty43.bytes = 8 ∧ ty49.sz = 2 ∧ ty49.bytes = 24 ∧ ty50.sz = 2 ∧ ty50.bytes = 24 ∧ ty58.sz = 1 ∧ ty58.bytes = 24 ∧ ty59.sz = 1 ∧ ty59.bytes = 24 ∧ ty60.sz = 1 ∧ ty60.bytes = 24 ∧ ty64.sz = 2 ∧ ty64.bytes = 48 ∧ ty65.sz = 2 ∧ ty65.bytes = 48 ∧ ty67.sz = 1 ∧ ty67.bytes = 8 ∧ ty68.sz = 3 ∧ ty68.bytes = 40 ∧ ty69.sz = 3 ∧ ty69.bytes = 40 ∧ ty82.sz = 1 ∧ ty82.bytes = 8 ∧ ty83.sz = 2 ∧ ty83.bytes = 16 ∧ ty84.sz = 2 ∧ ty84.bytes = 16 ∧ ty87.sz = 5 ∧ ty87.bytes = 48 ∧ ty88.sz = 5 ∧ ty88.bytes = 48 ∧ ty91.sz = 1 ∧ ty91.bytes = 8 ∧ ty93.sz = 1 ∧ ty93.bytes = 4 ∧ ty96.sz = 1 ∧ ty96.bytes = 24 ∧ ty100.sz = 1 ∧ ty100.bytes = 8 ∧ ty103.sz = 16 ∧ ty103.bytes = 16 ∧ ty105.sz = 2 ∧ ty105.bytes = 16 ∧ ty106.sz = 2 ∧ ty106.bytes = 16 ∧ ty108.sz = 3 ∧ ty108.bytes = 24 ∧ ty109.sz = 3 ∧ ty109.bytes = 24 ∧ ty111.sz = 1 ∧ ty111.bytes = 8 ∧ ty114.sz = 32 ∧ ty114.bytes = 256 ∧ ty115.sz = 16 ∧ ty115.bytes = 128 ∧ ty116.sz = 50 ∧ ty116.bytes = 400 ∧ ty117.sz = 50 ∧ ty117.bytes = 400 ∧ ty118.sz = 64 ∧ ty118.bytes = 64 ∧ ty119.sz = 16 ∧ ty119.bytes = 64 ∧ ty120.sz = 16 ∧ ty120.bytes = 64 ∧ ty124.sz = 1 ∧ ty124.bytes = 8 ∧ ty129.sz = 4 ∧ ty129.bytes = 48 ∧ ty130.sz = 4 ∧ ty130.bytes = 48 ∧ ty134.sz = 1 ∧ ty134.bytes = 8 ∧ ty140.sz = 4 ∧ ty140.bytes = 4 ∧ ty143.sz = 256 ∧ ty143.bytes = 256 ∧ ty145.sz = 1 ∧ ty145.bytes = 24 ∧ ty146.sz = 257 ∧ ty146.bytes = 280 ∧ ty147.sz = 257 ∧ ty147.bytes = 280 ∧ ty152.sz = 5 ∧ ty152.bytes = 40 ∧ ty153.sz = 5 ∧ ty153.bytes = 40 ∧ ty155.sz = 10 ∧ ty155.bytes = 80 ∧ ty156.sz = 10 ∧ ty156.bytes = 80 ∧ ty163.sz = 1 ∧ ty163.bytes = 8 ∧ ty173.sz = 1 ∧ ty173.bytes = 8 ∧ ty175.sz = 3 ∧ ty175.bytes = 24 ∧ ty177.sz = 1 ∧ ty177.bytes = 8 ∧ ty183.sz = 1 ∧ ty183.bytes = 8 ∧ ty184.sz = 2 ∧ ty184.bytes = 16 ∧ ty185.sz = 2 ∧ ty185.bytes = 16 ∧ ty193.sz = 8 ∧ ty193.bytes = 64 ∧ ty195.sz = 80 ∧ ty195.bytes = 640 ∧ ty197.sz = 91 ∧ ty197.bytes = 744 ∧ ty198.sz = 91 ∧ ty198.bytes = 744 ∧ ty199.sz = 64 ∧ ty199.bytes = 256 ∧ ty201.sz = 8 ∧ ty201.bytes = 32 ∧ ty211.sz = 1 ∧ ty211.bytes = 8) := ⟨fun o i e => off_addO o i e, tysz⟩
theorem szl : ((∀ (o : List (Nat × Nat)) (i e : Nat), off (addO o i e) = off o + i * e) ∧ (ty2.sz = 1 ∧ ty2.bytes = 8 ∧ ty3.sz = 1 ∧ ty3.bytes = 8 ∧ ty4.sz = 1 ∧ ty4.bytes = 1 ∧ ty5.sz = 1 ∧ ty5.bytes = 1 ∧ ty9.sz = 1 ∧ ty9.bytes = 16 ∧ ty22.sz = 1 ∧ ty22.bytes = 8 ∧ ty34.sz = 1 ∧ ty34.bytes = 8 ∧ ty35.sz = 1 ∧ ty35.bytes = 24 ∧ ty43.sz = 1 ∧ ty43.bytes = 8 ∧ ty49.sz = 2 ∧ ty49.bytes = 24 ∧ ty50.sz = 2 ∧ ty50.bytes = 24 ∧ ty58.sz = 1 ∧ ty58.bytes = 24 ∧ ty59.sz = 1 ∧ ty59.bytes = 24 ∧ ty60.sz = 1 ∧ ty60.bytes = 24 ∧ ty64.sz = 2 ∧ ty64.bytes = 48 ∧ ty65.sz = 2 ∧ ty65.bytes = 48 ∧ ty67.sz = 1 ∧ ty67.bytes = 8 ∧ ty68.sz = 3 ∧ ty68.bytes = 40 ∧ ty69.sz = 3 ∧ ty69.bytes = 40 ∧ ty82.sz = 1 ∧ ty82.bytes = 8 ∧ ty83.sz = 2 ∧ ty83.bytes = 16 ∧ ty84.sz = 2 ∧ ty84.bytes = 16 ∧ ty87.sz = 5 ∧ ty87.bytes = 48 ∧ ty88.sz = 5 ∧ ty88.bytes = 48 ∧ ty91.sz = 1 ∧ ty91.bytes = 8 ∧ ty93.sz = 1 ∧ ty93.bytes = 4 ∧ ty96.sz = 1 ∧ ty96.bytes = 24 ∧ ty100.sz = 1 ∧ ty100.bytes = 8 ∧ ty103.sz = 16 ∧ ty103.bytes = 16 ∧ ty105.sz = 2 ∧ ty105.bytes = 16 ∧ ty106.sz = 2 ∧ ty106.bytes = 16 ∧ ty108.sz = 3 ∧ ty108.bytes = 24 ∧ ty109.sz = 3 ∧ ty109.bytes = 24 ∧ ty111.sz = 1 ∧ ty111.bytes = 8 ∧ ty114.sz = 32 ∧ ty114.bytes = 256 ∧ ty115.sz = 16 ∧ ty115.bytes = 128 ∧ ty116.sz = 50 ∧ ty116.bytes = 400 ∧ ty117.sz = 50 ∧ ty117.bytes = 400 ∧ ty118.sz = 64 ∧ ty118.bytes = 64 ∧ ty119.sz = 16 ∧ ty119.bytes = 64 ∧ ty120.sz = 16 ∧ ty120.bytes = 64 ∧ ty124.sz = 1 ∧ ty124.bytes = 8 ∧ ty129.sz = 4 ∧ ty129.bytes = 48 ∧ ty130.sz = 4 ∧ ty130.bytes = 48 ∧ ty134.sz = 1 ∧ ty134.bytes = 8 ∧ ty140.sz = 4 ∧ ty140.bytes = 4 ∧ ty143.sz = 256 ∧ ty143.bytes = 256 ∧ ty145.sz = 1 ∧ ty145.bytes = 24 ∧ ty146.sz = 257 ∧ ty146.bytes = 280 ∧ ty147.sz = 257 ∧ ty147.bytes = 280 ∧ ty152.sz = 5 ∧ ty152.bytes = 40 ∧ ty153.sz = 5 ∧ ty153.bytes = 40 ∧ ty155.sz = 10 ∧ ty155.bytes = 80 ∧ ty156.sz = 10 ∧ ty156.bytes = 80 ∧ ty163.sz = 1 ∧ ty163.bytes = 8 ∧ ty173.sz = 1 ∧ ty173.bytes = 8 ∧ ty175.sz = 3 ∧ ty175.bytes = 24 ∧ ty177.sz = 1 ∧ ty177.bytes = 8 ∧ ty183.sz = 1 ∧ ty183.bytes = 8 ∧ ty184.sz = 2 ∧ ty184.bytes = 16 ∧ ty185.sz = 2 ∧ ty185.bytes = 16 ∧ ty193.sz = 8 ∧ ty193.bytes = 64 ∧ ty195.sz = 80 ∧ ty195.bytes = 640 ∧ ty197.sz = 91 ∧ ty197.bytes = 744 ∧ ty198.sz = 91 ∧ ty198.bytes = 744 ∧ ty199.sz = 64 ∧ ty199.bytes = 256 ∧ ty201.sz = 8 ∧ ty201.bytes = 32 ∧ ty211.sz = 1 ∧ ty211.bytes = 8)) ∧ (∀ {α : Type} {x y : List α}, (x ++ y).length = x.length + y.length) ∧ (∀ {α : Type} {i : Nat} {l : List α}, (List.take i l).length = min i l.length) ∧ (∀ {α : Type} {i : Nat} {l : List α}, (List.drop i l).length = l.length - i) ∧ (∀ {α : Type}, ([] : List α).length = 0) ∧ (∀ {α : Type} {a : α} {l : List α}, (a :: l).length = l.length + 1) ∧ (∀ {α : Type} {n : Nat} {a : α}, (List.replicate n a).length = n) ∧ (∀ {α : Type} {l : List α} {i : Nat} {a : α}, (l.set i a).length = l.length) := ⟨sz, lens⟩
theorem pk {a : Array Oper} {b : Ctx} {c : List PStep} (h : planOK a b c = true) : planOK a b c = true := h
/-- what is asked, found where it stands -/
theorem pre_a {p k : Prop} (h : k) (hp : p := by first | assumption | omega | exact pk (by kernel_rfl) | (unfold fits; omega) | exact UInt8.toNat_lt _ | decide +kernel | (constructor <;> first | assumption | omega) | (simp only [sz, off, offE] <;> omega) | (simp only [szl, off, offE] <;> omega) | (constructor <;> first | assumption | (simp only [szl, off, offE] <;> omega))) : Pre p k := pre_i hp h
theorem cond_ta {t : Bool} {a b : Prop} (h : a) (e : t = true := by first | rfl | assumption | (rw [decide_eq_true_eq]; omega) | (simp <;> omega)) : CondVC t a b := cond_t e h
theorem cond_fa {t : Bool} {a b : Prop} (h : b) (e : t = false := by first | rfl | assumption | (rw [decide_eq_false_iff_not]; omega) | (simp <;> omega)) : CondVC t a b := cond_f e h
end Go.Sym.A

/-
  AES over lists of bytes. Plain laws. No program in sight; no condition beyond each lemma's own.
-/
namespace Go.Sym.Aes
open Go.Sym.Lp

def tw (x : UInt8) : UInt8 := (x <<< (1 : UInt8)) ^^^ ((27 : UInt8) &&& ((0 : UInt8) - (x >>> (7 : UInt8))))
def rl8 (x : UInt8) (n : Nat) : UInt8 := x <<< UInt8.ofNat n ||| x >>> UInt8.ofNat (8 - n)
def q1 (q : UInt8) : UInt8 := q ^^^ q <<< 1
def q2 (q : UInt8) : UInt8 := q1 q ^^^ q1 q <<< 2
def q3 (q : UInt8) : UInt8 := q2 q ^^^ q2 q <<< 4
def q4 (q : UInt8) : UInt8 := q3 q ^^^ ((9 : UInt8) &&& ((0 : UInt8) - (q3 q >>> (7 : UInt8))))
def pq : Nat → UInt8 × UInt8
  | 0 => (1, 1)
  | i + 1 => ((pq i).1 ^^^ tw (pq i).1, q4 (pq i).2)
def sb (q : UInt8) : UInt8 := 99 ^^^ q ^^^ rl8 q 1 ^^^ rl8 q 2 ^^^ rl8 q 3 ^^^ rl8 q 4
def tabSt : Nat → List UInt8
  | 0 => 99 :: List.replicate 255 0
  | i + 1 => (tabSt i).set (pq (i + 1)).1.toNat (sb (pq (i + 1)).2)
set_option maxRecDepth 100000
theorem tabSt_len : ∀ i, (tabSt i).length = 256
  | 0 => rfl
  | i + 1 => by simp only [tabSt, List.length_set]; exact tabSt_len i
/-- the table of bytes -/
def box : List UInt8 := [99, 124, 119, 123, 242, 107, 111, 197, 48, 1, 103, 43, 254, 215, 171, 118, 202, 130, 201, 125, 250, 89, 71, 240, 173, 212, 162, 175, 156, 164, 114, 192, 183, 253, 147, 38, 54, 63, 247, 204, 52, 165, 229, 241, 113, 216, 49, 21, 4, 199, 35, 195, 24, 150, 5, 154, 7, 18, 128, 226, 235, 39, 178, 117, 9, 131, 44, 26, 27, 110, 90, 160, 82, 59, 214, 179, 41, 227, 47, 132, 83, 209, 0, 237, 32, 252, 177, 91, 106, 203, 190, 57, 74, 76, 88, 207, 208, 239, 170, 251, 67, 77, 51, 133, 69, 249, 2, 127, 80, 60, 159, 168, 81, 163, 64, 143, 146, 157, 56, 245, 188, 182, 218, 33, 16, 255, 243, 210, 205, 12, 19, 236, 95, 151, 68, 23, 196, 167, 126, 61, 100, 93, 25, 115, 96, 129, 79, 220, 34, 42, 144, 136, 70, 238, 184, 20, 222, 94, 11, 219, 224, 50, 58, 10, 73, 6, 36, 92, 194, 211, 172, 98, 145, 149, 228, 121, 231, 200, 55, 109, 141, 213, 78, 169, 108, 86, 244, 234, 101, 122, 174, 8, 186, 120, 37, 46, 28, 166, 180, 198, 232, 221, 116, 31, 75, 189, 139, 138, 112, 62, 181, 102, 72, 3, 246, 14, 97, 53, 87, 185, 134, 193, 29, 158, 225, 248, 152, 17, 105, 217, 142, 148, 155, 30, 135, 233, 206, 85, 40, 223, 140, 161, 137, 13, 191, 230, 66, 104, 65, 153, 45, 15, 176, 84, 187, 22]
theorem pq_end : ∀ i, i < 255 → ((pq (i + 1)).1 = 1 ↔ i + 1 = 255) := by decide +kernel
theorem tab_all : tabSt 255 = box := by decide +kernel
end Go.Sym.Aes
namespace Go.Sym.Aes
open Go.Sym.Lp
def rc : Nat → UInt8
  | 0 => 1
  | k + 1 => tw (rc k)
/-- the word that is worked in ahead of word i -/
def tmpW (n i : Nat) (t : List UInt8) : List UInt8 :=
  if i % n = 0 then [box.getD (t.getD 1 0).toNat 0 ^^^ rc ((i - 1) / n), box.getD (t.getD 2 0).toNat 0, box.getD (t.getD 3 0).toNat 0, box.getD (t.getD 0 0).toNat 0]
  else if n = 8 ∧ i % n = 4 then (List.range 4).map fun k => box.getD (t.getD k 0).toNat 0 else t
def nextW (key : List UInt8) (n i : Nat) (W : List UInt8) : List UInt8 :=
  if i < n then (key.drop (4 * i)).take 4
  else (List.range 4).map fun k => W.getD (4 * (i - n) + k) 0 ^^^ (tmpW n i ((W.drop (4 * (i - 1))).take 4)).getD k 0
/-- a key's first words -/
def ks (key : List UInt8) (n : Nat) : Nat → List UInt8
  | 0 => []
  | i + 1 => ks key n i ++ nextW key n i (ks key n i)
theorem nextW_len {key : List UInt8} {n i : Nat} (hk : key.length = 4 * n) (W : List UInt8) : (nextW key n i W).length = 4 := by
  unfold nextW
  split
  · rw [List.length_take, List.length_drop]; omega
  · simp
theorem ks_len {key : List UInt8} {n : Nat} (hk : key.length = 4 * n) : ∀ i, (ks key n i).length = 4 * i
  | 0 => rfl
  | i + 1 => by simp only [ks, List.length_append, ks_len hk i, nextW_len hk]; omega
end Go.Sym.Aes
namespace Go.Sym.Aes
open Go.Sym.Lp
/-- the words so far, with room for the rest -/
def kw (key : List UInt8) (n N i : Nat) : List UInt8 := ks key n i ++ List.replicate (N - 4 * i) 0
section
variable {key : List UInt8} {n N i : Nat} (hk : key.length = 4 * n)
include hk
theorem kw_len (h : 4 * i ≤ N) : (kw key n N i).length = N := by
  unfold kw; rw [List.length_append, ks_len hk, List.length_replicate]; omega
theorem kw_old {j : Nat} (hj : j < 4 * i) : (kw key n N i).getD j 0 = (ks key n i).getD j 0 := by
  unfold kw
  rw [List.getD_eq_getElem?_getD, List.getElem?_append_left (by rw [ks_len hk]; exact hj), List.getD_eq_getElem?_getD]
theorem kw_sub {j : Nat} (hj : j + 4 ≤ 4 * i) : ((kw key n N i).drop j).take 4 = ((ks key n i).drop j).take 4 := by
  unfold kw
  rw [List.drop_append_of_le_length (by rw [ks_len hk]; omega), List.take_append_of_le_length (by rw [List.length_drop, ks_len hk]; omega)]
/-- the next word written -/
theorem kw_next (h : 4 * i + 4 ≤ N) {v : List UInt8} (hv : v = nextW key n i (ks key n i)) : (kw key n N i).take (4 * i) ++ v ++ (kw key n N i).drop (4 * i + 4) = kw key n N (i + 1) := by
  have hl := ks_len hk i
  unfold kw
  subst hv
  rw [List.take_left' hl, List.drop_append, List.drop_eq_nil_of_le (by omega), List.nil_append, hl, List.drop_replicate, show N - 4 * i - (4 * i + 4 - 4 * i) = N - 4 * (i + 1) by omega]
  simp only [ks]
end
theorem kw_zero (key : List UInt8) (n N : Nat) : kw key n N 0 = List.replicate N 0 := by unfold kw ks; rfl
theorem kw_all {key : List UInt8} {n N i : Nat} (h : N = 4 * i) : kw key n N i = ks key n i := by unfold kw; rw [h, Nat.sub_self]; simp
theorem rc_next {n i : Nat} (hn : 0 < n) (hi : n ≤ i) (h : i % n = 0) : tw (rc ((i - 1) / n)) = rc (i / n) := by
  obtain ⟨c, rfl⟩ := Nat.dvd_of_mod_eq_zero h
  have hc : 0 < c := by
    rcases Nat.eq_zero_or_pos c with rfl | h
    · omega
    · exact h
  obtain ⟨d, rfl⟩ : ∃ d, c = d + 1 := ⟨c - 1, by omega⟩
  have e1 : (n * (d + 1) - 1) / n = d := by
    rw [Nat.mul_succ, show n * d + n - 1 = n * d + (n - 1) by omega, Nat.mul_add_div hn, Nat.div_eq_of_lt (show n - 1 < n by omega), Nat.add_zero]
  rw [e1, Nat.mul_div_cancel_left _ hn]
  rfl
theorem rc_keep {n i : Nat} (hn : 0 < n) (h : ¬ i % n = 0) : (i - 1) / n = i / n := by
  have h1 := Nat.div_add_mod i n
  have h2 := Nat.mod_lt i hn
  have e : i - 1 = n * (i / n) + (i % n - 1) := by omega
  rw [e, Nat.mul_add_div hn, Nat.div_eq_of_lt (show i % n - 1 < n by omega), Nat.add_zero]
theorem rc_small {n i : Nat} (h : i < n) : (i - 1) / n = i / n := by rw [Nat.div_eq_of_lt h, Nat.div_eq_of_lt (by omega)]
end Go.Sym.Aes
namespace Go.Sym.Aes
open Go.Sym.Lp
/-- a list copied by words, with room for the rest -/
def kc (W : List UInt8) (i : Nat) : List UInt8 := W.take (4 * i) ++ List.replicate (W.length - 4 * i) 0
theorem kc_len {W : List UInt8} {i : Nat} (h : 4 * i ≤ W.length) : (kc W i).length = W.length := by unfold kc; simp; omega
theorem kc_zero (W : List UInt8) : kc W 0 = List.replicate W.length 0 := by unfold kc; simp
theorem kc_all {W : List UInt8} {i : Nat} (h : W.length = 4 * i) : kc W i = W := by unfold kc; rw [h, Nat.sub_self, List.take_of_length_le (by omega)]; simp
theorem kc_next {W : List UInt8} {i : Nat} (h : 4 * i + 4 ≤ W.length) : (kc W i).take (4 * i) ++ (W.drop (4 * i)).take 4 ++ (kc W i).drop (4 * i + 4) = kc W (i + 1) := by
  unfold kc
  have hl : (W.take (4 * i)).length = 4 * i := by rw [List.length_take]; omega
  have hd : List.drop (4 * i + 4) (W.take (4 * i)) = [] := List.drop_eq_nil_of_le (by omega)
  rw [List.take_left' hl, List.drop_append, hd, List.nil_append, hl, List.drop_replicate, show W.length - 4 * i - (4 * i + 4 - 4 * i) = W.length - 4 * (i + 1) by omega]
  congr 1
  rw [Nat.mul_succ, List.take_add]
theorem tmpW_len {n i : Nat} {t : List UInt8} (h : t.length = 4) : (tmpW n i t).length = 4 := by
  unfold tmpW; split
  · rfl
  · split
    · simp
    · exact h
end Go.Sym.Aes
namespace Go.Sym.Aes
theorem box_len : box.length = 256 := by decide +kernel
theorem box_lt (x : UInt8) : x.toNat < box.length := by rw [box_len]; exact x.toNat_lt
end Go.Sym.Aes
namespace Go.Sym.Aes
open Go.Sym.Lp
def addK (ks : List UInt8) (r : Nat) (x : List UInt8) : List UInt8 := (List.range 16).map fun j => x.getD j 0 ^^^ ks.getD (16 * r + j) 0
def subS (x : List UInt8) : List UInt8 := (List.range 16).map fun i => box.getD (x.getD ((i + 4 * (i % 4)) % 16) 0).toNat 0
def mixG (t : List UInt8) (i : Nat) : UInt8 :=
  t.getD i 0 ^^^ (t.getD (i / 4 * 4) 0 ^^^ t.getD (i / 4 * 4 + 1) 0 ^^^ t.getD (i / 4 * 4 + 2) 0 ^^^ t.getD (i / 4 * 4 + 3) 0 ^^^ tw (t.getD i 0 ^^^ t.getD (i / 4 * 4 + (i + 1) % 4) 0))
def mixC (t : List UInt8) : List UInt8 := (List.range 16).map (mixG t)
/-- the rounds; R: how many keys there are -/
def rnd (ks : List UInt8) (R r : Nat) (x : List UInt8) : List UInt8 := addK ks r (if r < R - 1 then mixC (subS x) else subS x)
def encSt (ks : List UInt8) (R : Nat) (x : List UInt8) : Nat → List UInt8
  | 0 => addK ks 0 x
  | r + 1 => rnd ks R (r + 1) (encSt ks R x r)
def enc (ks : List UInt8) (R : Nat) (x : List UInt8) : List UInt8 := encSt ks R x (R - 1)
theorem addK_len (ks : List UInt8) (r : Nat) (x : List UInt8) : (addK ks r x).length = 16 := map_range_len _ _
theorem subS_len (x : List UInt8) : (subS x).length = 16 := map_range_len _ _
theorem mixC_len (x : List UInt8) : (mixC x).length = 16 := map_range_len _ _
theorem encSt_len (ks : List UInt8) (R : Nat) (x : List UInt8) : ∀ r, (encSt ks R x r).length = 16
  | 0 => addK_len _ _ _
  | _ + 1 => addK_len _ _ _
theorem enc_len (ks : List UInt8) (R : Nat) (x : List UInt8) : (enc ks R x).length = 16 := encSt_len _ _ _ _
/-- four places written, one after the other, each from what stands there -/
theorem ovr_four {T : List UInt8} {g : Nat → UInt8} {a : Nat} (h : a + 4 ≤ T.length) {u0 u1 u2 u3 : UInt8}
    (h0 : T.getD a 0 ^^^ u0 = g a) (h1 : T.getD (a + 1) 0 ^^^ u1 = g (a + 1)) (h2 : T.getD (a + 2) 0 ^^^ u2 = g (a + 2)) (h3 : T.getD (a + 3) 0 ^^^ u3 = g (a + 3)) {X0 X1 X2 X3 : List UInt8}
    (e0 : X0 = (ovr T 0 g a).set a ((ovr T 0 g a).getD a 0 ^^^ u0)) (e1 : X1 = X0.set (a + 1) (X0.getD (a + 1) 0 ^^^ u1)) (e2 : X2 = X1.set (a + 2) (X1.getD (a + 2) 0 ^^^ u2)) (e3 : X3 = X2.set (a + 3) (X2.getD (a + 3) 0 ^^^ u3)) :
    X3 = ovr T 0 g (a + 4) := by
  have k0 : X0 = ovr T 0 g (a + 1) := by
    rw [e0, ovr_get (by omega) _ (by omega)]
    exact ovr_step (by omega) h0 (by omega)
  have k1 : X1 = ovr T 0 g (a + 2) := by
    rw [e1, k0, ovr_get (by omega) _ (by omega)]
    exact ovr_step (by omega) h1 (by omega)
  have k2 : X2 = ovr T 0 g (a + 3) := by
    rw [e2, k1, ovr_get (by omega) _ (by omega)]
    exact ovr_step (by omega) h2 (by omega)
  rw [e3, k2, ovr_get (by omega) _ (by omega)]
  exact ovr_step (by omega) h3 (by omega)
end Go.Sym.Aes
namespace Go.Sym.Aes
open Go.Sym.Lp
theorem mixG_at (T : List UInt8) (c j : Nat) (h : j < 4) : mixG T (4 * c + j) = T.getD (4 * c + j) 0 ^^^ (T.getD (4 * c) 0 ^^^ T.getD (4 * c + 1) 0 ^^^ T.getD (4 * c + 2) 0 ^^^ T.getD (4 * c + 3) 0 ^^^ tw (T.getD (4 * c + j) 0 ^^^ T.getD (4 * c + (j + 1) % 4) 0)) := by
  unfold mixG
  have e1 : (4 * c + j) / 4 * 4 = 4 * c := by omega
  have e2 : (4 * c + j + 1) % 4 = (j + 1) % 4 := by omega
  rw [e1, e2]
/-- four places of a column mixed -/
theorem mix_four {T : List UInt8} {c : Nat} (h : 4 * c + 4 ≤ T.length) {Y : List UInt8} (hY : Y = ovr T 0 (mixG T) (4 * c)) {al : UInt8} (ha : al = Y.getD (4 * c) 0 ^^^ Y.getD (4 * c + 1) 0 ^^^ Y.getD (4 * c + 2) 0 ^^^ Y.getD (4 * c + 3) 0)
    {X0 X1 X2 X3 : List UInt8} (e0 : X0 = Y.set (4 * c) (Y.getD (4 * c) 0 ^^^ (al ^^^ tw (Y.getD (4 * c) 0 ^^^ Y.getD (4 * c + 1) 0))))
    (e1 : X1 = X0.set (4 * c + 1) (X0.getD (4 * c + 1) 0 ^^^ (al ^^^ tw (Y.getD (4 * c + 1) 0 ^^^ Y.getD (4 * c + 2) 0))))
    (e2 : X2 = X1.set (4 * c + 2) (X1.getD (4 * c + 2) 0 ^^^ (al ^^^ tw (Y.getD (4 * c + 2) 0 ^^^ Y.getD (4 * c + 3) 0))))
    (e3 : X3 = X2.set (4 * c + 3) (X2.getD (4 * c + 3) 0 ^^^ (al ^^^ tw (Y.getD (4 * c + 3) 0 ^^^ Y.getD (4 * c) 0)))) : X3 = ovr T 0 (mixG T) (4 * (c + 1)) := by
  have hg : ∀ j, 4 * c ≤ j → Y.getD j 0 = T.getD j 0 := fun j hj => by rw [hY]; exact ovr_get (by omega) _ (by omega) _
  rw [hg _ (by omega), hg _ (by omega), hg _ (by omega), hg _ (by omega)] at ha
  have m0 := mixG_at T c 0 (by omega)
  have m1 := mixG_at T c 1 (by omega)
  have m2 := mixG_at T c 2 (by omega)
  have m3 := mixG_at T c 3 (by omega)
  rw [← ha] at m0 m1 m2 m3
  rw [Nat.add_zero] at m0
  refine ovr_four (by omega) m0.symm m1.symm m2.symm m3.symm (X0 := X0) (X1 := X1) (X2 := X2) ?_ ?_ ?_ ?_
  · rw [e0, ← hY, hg (4 * c) (by omega), hg (4 * c + 1) (by omega)]
  · rw [e1, hg (4 * c + 1) (by omega), hg (4 * c + 2) (by omega)]
  · rw [e2, hg (4 * c + 2) (by omega), hg (4 * c + 3) (by omega)]
  · rw [e3, hg (4 * c + 3) (by omega), hg (4 * c) (by omega)]; rfl
end Go.Sym.Aes
namespace Go.Sym.Aes
open Go.Sym.Lp
theorem tw_two (x : UInt8) : tw x = if 127 < x.toNat then x <<< 1 ^^^ 27 else x <<< 1 := by
  have k : ∀ n, n < 256 → tw (UInt8.ofNat n) = if 127 < (UInt8.ofNat n).toNat then (UInt8.ofNat n) <<< 1 ^^^ 27 else (UInt8.ofNat n) <<< 1 := by decide +kernel
  have h := k x.toNat x.toNat_lt
  rwa [UInt8.ofNat_toNat] at h
theorem tw_hi {x : UInt8} (h : 127 < x.toNat) : tw x = x <<< 1 ^^^ 27 := by rw [tw_two, if_pos h]
theorem tw_lo {x : UInt8} (h : ¬ 127 < x.toNat) : tw x = x <<< 1 := by rw [tw_two, if_neg h]
end Go.Sym.Aes
namespace Go.Sym.Aes
open Go.Sym.Lp
theorem take4 {l : List UInt8} {a : Nat} (h : a + 4 ≤ l.length) : (l.drop a).take 4 = [l.getD a 0, l.getD (a + 1) 0, l.getD (a + 2) 0, l.getD (a + 3) 0] := by
  apply List.ext_getElem?
  intro j
  have g : ∀ k, k < l.length → some (l.getD k 0) = l[k]? := fun k hk => by rw [List.getD_eq_getElem?_getD, List.getElem?_eq_getElem hk]; rfl
  by_cases h4 : j < 4
  · rw [List.getElem?_take_of_lt h4, List.getElem?_drop]
    have : j = 0 ∨ j = 1 ∨ j = 2 ∨ j = 3 := by omega
    rcases this with rfl | rfl | rfl | rfl
    · rw [Nat.add_zero]; exact (g a (by omega)).symm
    · exact (g (a + 1) (by omega)).symm
    · exact (g (a + 2) (by omega)).symm
    · exact (g (a + 3) (by omega)).symm
  · rw [List.getElem?_eq_none (by rw [List.length_take]; omega), List.getElem?_eq_none (by show 4 ≤ j; omega)]
end Go.Sym.Aes
namespace Go.Sym.Aes
/-- the table as the reference's text has it -/
theorem boxA : List.append (List.append ([99, 124, 119, 123, 242, 107, 111, 197, 48, 1, 103, 43, 254, 215, 171, 118, 202, 130, 201, 125, 250, 89, 71, 240, 173, 212, 162, 175, 156, 164, 114, 192, 183, 253, 147, 38, 54, 63, 247, 204, 52, 165, 229, 241, 113, 216, 49, 21, 4, 199, 35, 195, 24, 150, 5, 154, 7, 18, 128, 226, 235, 39, 178, 117] : List UInt8) [9, 131, 44, 26, 27, 110, 90, 160, 82, 59, 214, 179, 41, 227, 47, 132, 83, 209, 0, 237, 32, 252, 177, 91, 106, 203, 190, 57, 74, 76, 88, 207, 208, 239, 170, 251, 67, 77, 51, 133, 69, 249, 2, 127, 80, 60, 159, 168, 81, 163, 64, 143, 146, 157, 56, 245, 188, 182, 218, 33, 16, 255, 243, 210]) (List.append [205, 12, 19, 236, 95, 151, 68, 23, 196, 167, 126, 61, 100, 93, 25, 115, 96, 129, 79, 220, 34, 42, 144, 136, 70, 238, 184, 20, 222, 94, 11, 219, 224, 50, 58, 10, 73, 6, 36, 92, 194, 211, 172, 98, 145, 149, 228, 121, 231, 200, 55, 109, 141, 213, 78, 169, 108, 86, 244, 234, 101, 122, 174, 8] [186, 120, 37, 46, 28, 166, 180, 198, 232, 221, 116, 31, 75, 189, 139, 138, 112, 62, 181, 102, 72, 3, 246, 14, 97, 53, 87, 185, 134, 193, 29, 158, 225, 248, 152, 17, 105, 217, 142, 148, 155, 30, 135, 233, 206, 85, 40, 223, 140, 161, 137, 13, 191, 230, 66, 104, 65, 153, 45, 15, 176, 84, 187, 22]) = box := by decide +kernel
end Go.Sym.Aes
namespace Go.Sym.Aes
theorem ks_zero (key : List UInt8) (n : Nat) : ks key n 0 = [] := rfl
theorem ks_succ (key : List UInt8) (n i : Nat) : ks key n (i + 1) = ks key n i ++ nextW key n i (ks key n i) := rfl
end Go.Sym.Aes

namespace Go.Sym.A
open Go Go.Proofs.Try Go.Sym.Lp Go.Sym.Aes
set_option maxRecDepth 100000
/-- the orders of the drawn regions of bits.RotateLeft8 -/
def pl118 : List (Nat × List PStep) := []
/-- the orders of the drawn regions of aes.twice -/
def pl97 : List (Nat × List PStep) := []
/-- the orders of the drawn regions of aes.table -/
def pl96 : List (Nat × List PStep) := []
def tyAes : List (Nat × TyI) := [(3, ty3), (4, ty4), (5, ty5), (9, ty9), (34, ty34), (35, ty35), (103, ty103), (100, ty100), (140, ty140), (96, ty96), (145, ty145), (143, ty143), (147, ty147)]
theorem tyAes_ok : ∀ t i, look tyAes t = some i → TyOK prog t i := (tyok_cons ty3_ok (tyok_cons ty4_ok (tyok_cons ty5_ok (tyok_cons ty9_ok (tyok_cons ty34_ok (tyok_cons ty35_ok (tyok_cons ty103_ok (tyok_cons ty100_ok (tyok_cons ty140_ok (tyok_cons ty96_ok (tyok_cons ty145_ok (tyok_cons ty143_ok (tyok_cons ty147_ok tyok_nil)))))))))))))

def rot8S : Spec := fun args hp K => match args, hp with
  | [.u8 x, .int k], [] => Pre (k = 1 ∨ k = 2 ∨ k = 3 ∨ k = 4) (K (.u8 (rl8 x k.toNat)) [])
  | _, _ => False
def twiceS : Spec := fun args hp K => match args, hp with
  | [.u8 x], [] => K (.u8 (tw x)) []
  | _, _ => False
def tableS : Spec := fun args hp K => match args, hp with
  | [], [] => K (.arr8 256 box) []
  | _, _ => False
theorem rot8_s : SoundC prog 118 rot8S := by
  refine sound_f tyAes_ok fnok_nil rfl func118 rfl call118 (D := pl118) ?_ ?_
  · intro args hp K h
    unfold rot8S at h
    split at h
    · exact Nat.le_of_ble_eq_true rfl
    · exact h.elim
  · intro args hp K h
    unfold rot8S at h
    split at h
    · rename_i x k
      obtain ⟨hk, h⟩ := pre_e h
      rcases hk with rfl | rfl | rfl | rfl
      all_goals
        repeat ((conv => whnf); first | refine pre_a ?_ | refine cond_ta ?_ | refine cond_fa ?_ | refine same_i ?_)
        conv => whnf
        refine final_h (hp' := []) [] h ?_
        repeat ((conv => whnf); refine same_i ?_)
        exact trivial
    · exact h.elim
theorem twice_s : SoundC prog 97 twiceS := by
  refine sound_f tyAes_ok fnok_nil rfl func97 rfl call97 (D := pl97) ?_ ?_
  · intro args hp K h
    unfold twiceS at h
    split at h
    · exact Nat.le_of_ble_eq_true rfl
    · exact h.elim
  · intro args hp K h
    unfold twiceS at h
    split at h
    · repeat ((conv => whnf); first | refine pre_a ?_ | refine cond_ta ?_ | refine cond_fa ?_ | refine same_i ?_)
      conv => whnf
      refine final_h (hp' := []) [] h ?_
      repeat ((conv => whnf); refine same_i ?_)
      exact trivial
    · exact h.elim
theorem table_s : SoundC prog 96 tableS := by
  refine sound_f tyAes_ok (fnok_cons twice_s (fnok_cons rot8_s fnok_nil)) rfl func96 rfl call96 (D := pl96) ?_ ?_
  · intro args hp K h
    unfold tableS at h
    split at h
    · exact Nat.le_of_ble_eq_true rfl
    · exact h.elim
  · intro args hp K h
    unfold tableS at h
    split at h
    · repeat ((conv => whnf); first | refine pre_a ?_ | refine cond_ta ?_ | refine cond_fa ?_ | refine same_i ?_)
      conv => whnf
      refine loop_h (Ix (254)) (fun q => ⟨[(0, .ptr 0 0 0 []), (1, .ptr 1 0 0 []), (2, .u8 (pq q.i).1), (3, .u8 (pq q.i).2)], [.mk 143 [.arr8 256 (List.replicate 256 0)], .mk 143 [.arr8 256 (tabSt q.i)]]⟩) (fun q => (254) - q.i) ⟨0, Nat.zero_le _⟩ [0, 1] ?_ ?_
      · repeat ((conv => whnf); refine same_i ?_)
        exact trivial
      · intro q
        have hi := q.hi
        have hl := tabSt_len q.i
        have he := pq_end q.i (by omega)
        have hu : ((pq q.i).1 ^^^ tw (pq q.i).1).toNat < 256 := ((pq q.i).1 ^^^ tw (pq q.i).1).toNat_lt
        by_cases h4 : q.i + 1 ≤ 254
        · have hd : decide ((pq (q.i + 1)).1 = UInt8.ofNat 1) = false := decide_eq_false (fun e => by have := he.1 e; omega)
          repeat ((conv => whnf); first | refine pre_a ?_ | refine cond_ta ?_ | refine cond_fa ?_ | refine same_i ?_ | refine pre_i (by first | exact hd | (rw [hd]; rfl)) ?_ | refine cond_t (by first | exact hd | (rw [hd]; rfl)) ?_ | refine cond_f (by first | exact hd | (rw [hd]; rfl)) ?_)
          conv => whnf
          refine ⟨⟨q.i + 1, h4⟩, [0, 1], by show (254) - (q.i + 1) < (254) - q.i; omega, ?_⟩
          repeat ((conv => whnf); refine same_i ?_)
          exact trivial
        · have e4 : q.i = 254 := by omega
          have hd : decide ((pq (q.i + 1)).1 = UInt8.ofNat 1) = true := decide_eq_true (he.2 (by omega))
          repeat ((conv => whnf); first | refine pre_a ?_ | refine cond_ta ?_ | refine cond_fa ?_ | refine same_i ?_ | refine pre_i (by first | exact hd | (rw [hd]; rfl)) ?_ | refine cond_t (by first | exact hd | (rw [hd]; rfl)) ?_ | refine cond_f (by first | exact hd | (rw [hd]; rfl)) ?_)
          have e5 : tabSt (q.i + 1) = box := by rw [e4]; exact tab_all
          conv => whnf
          refine final_h (hp' := []) [] h ?_
          repeat ((conv => whnf); refine same_i ?_)
          conv => whnf
          refine same_q (congrArg (SV.arr8 256) e5) ?_
          repeat ((conv => whnf); refine same_i ?_)
          exact trivial
    · exact h.elim
end Go.Sym.A

/-
  GHASH's field: elements as two words, products by a table of sixteen and bit by bit. Plain laws. No program in sight.
-/
namespace Go.Sym.Gcm
open Go.Sym.Lp
abbrev El := UInt64 × UInt64
def R64 : UInt64 := 16212958658533785600
def xr (a b : El) : El := (a.1 ^^^ b.1, a.2 ^^^ b.2)
def z0 : El := (0, 0)
def msk (l : UInt64) : UInt64 := R64 &&& (0 - (l &&& 1))
/-- an element times x -/
def half (e : El) : El := (e.1 >>> 1 ^^^ msk e.2, e.2 >>> 1 ||| e.1 <<< 63)
theorem xr_z (a : El) : xr a z0 = a := by
  unfold xr z0; simp
theorem z_xr (a : El) : xr z0 a = a := by
  unfold xr z0; simp
theorem xr_comm (a b : El) : xr a b = xr b a := by
  unfold xr; rw [UInt64.xor_comm, UInt64.xor_comm a.2]
theorem xr_assoc (a b c : El) : xr (xr a b) c = xr a (xr b c) := by
  unfold xr; simp only [UInt64.xor_assoc]
theorem and1 (l : UInt64) : l &&& 1 = 0 ∨ l &&& 1 = 1 := by
  have h : (l &&& 1).toNat = l.toNat % 2 := by
    rw [UInt64.toNat_and]; show l.toNat &&& (2 ^ 1 - 1) = _; rw [Nat.and_two_pow_sub_one_eq_mod]
  have h2 : l.toNat % 2 = 0 ∨ l.toNat % 2 = 1 := by omega
  rcases h2 with h2 | h2
  · left; apply UInt64.toNat_inj.1; rw [h, h2]; rfl
  · right; apply UInt64.toNat_inj.1; rw [h, h2]; rfl
theorem and1_xor (a b : UInt64) : (a ^^^ b) &&& 1 = (a &&& 1) ^^^ (b &&& 1) := by
  apply UInt64.toNat_inj.1
  simp only [UInt64.toNat_and, UInt64.toNat_xor]
  apply Nat.eq_of_testBit_eq
  intro i
  simp only [Nat.testBit_and, Nat.testBit_xor]
  cases Nat.testBit a.toNat i <;> cases Nat.testBit b.toNat i <;> cases Nat.testBit (UInt64.toNat 1) i <;> rfl
theorem msk_xor (a b : UInt64) : msk (a ^^^ b) = msk a ^^^ msk b := by
  unfold msk
  rw [and1_xor]
  rcases and1 a with h | h <;> rcases and1 b with h' | h' <;> rw [h, h'] <;> decide
theorem shr_xor (a b k : UInt64) : (a ^^^ b) >>> k = a >>> k ^^^ b >>> k := by
  apply UInt64.toNat_inj.1
  simp only [UInt64.toNat_xor, UInt64.toNat_shiftRight]
  apply Nat.eq_of_testBit_eq
  intro i
  simp only [Nat.testBit_xor, Nat.testBit_shiftRight]
theorem shl_xor (a b k : UInt64) : (a ^^^ b) <<< k = a <<< k ^^^ b <<< k := by
  apply UInt64.toNat_inj.1
  simp only [UInt64.toNat_xor, UInt64.toNat_shiftLeft]
  apply Nat.eq_of_testBit_eq
  intro i
  simp only [Nat.testBit_xor, Nat.testBit_mod_two_pow, Nat.testBit_shiftLeft]
  cases decide (i < 64) <;> cases decide (i ≥ UInt64.toNat k % 64) <;> simp
/-- words without a common bit -/
theorem or_xor {k : Nat} (hk : k < 64) (l h : UInt64) (hl : l.toNat < 2 ^ k) : l ||| h <<< UInt64.ofNat k = l ^^^ h <<< UInt64.ofNat k := by
  have hk2 : (UInt64.ofNat k).toNat = k := by rw [UInt64.toNat_ofNat']; omega
  apply UInt64.toNat_inj.1
  simp only [UInt64.toNat_xor, UInt64.toNat_or, UInt64.toNat_shiftLeft]
  rw [hk2, Nat.mod_eq_of_lt hk]
  apply Nat.eq_of_testBit_eq
  intro i
  simp only [Nat.testBit_xor, Nat.testBit_or, Nat.testBit_mod_two_pow, Nat.testBit_shiftLeft]
  by_cases hi : i < k
  · have e : decide (i ≥ k) = false := decide_eq_false (by omega)
    rw [e]; simp
  · have e : Nat.testBit l.toNat i = false := Nat.testBit_lt_two_pow (Nat.lt_of_lt_of_le hl (Nat.pow_le_pow_right (by decide) (by omega)))
    rw [e]; simp
theorem half_low (e : El) : (half e).2 = e.2 >>> 1 ^^^ e.1 <<< 63 := by
  have h := or_xor (k := 63) (by decide) (e.2 >>> 1) e.1 (by
    rw [UInt64.toNat_shiftRight]; have := e.2.toNat_lt; show e.2.toNat >>> 1 < 9223372036854775808; rw [Nat.shiftRight_eq_div_pow]; omega)
  exact h
theorem half_xr (a b : El) : half (xr a b) = xr (half a) (half b) := by
  refine Prod.ext ?_ ?_
  · show (a.1 ^^^ b.1) >>> 1 ^^^ msk (a.2 ^^^ b.2) = (a.1 >>> 1 ^^^ msk a.2) ^^^ (b.1 >>> 1 ^^^ msk b.2)
    rw [shr_xor, msk_xor]
    generalize a.1 >>> 1 = p
    generalize b.1 >>> 1 = q
    generalize msk a.2 = r
    generalize msk b.2 = s
    rw [UInt64.xor_assoc, UInt64.xor_assoc, ← UInt64.xor_assoc q, UInt64.xor_comm q, UInt64.xor_assoc r]
  · show (half (xr a b)).2 = (half a).2 ^^^ (half b).2
    rw [half_low, half_low, half_low]
    show (a.2 ^^^ b.2) >>> 1 ^^^ (a.1 ^^^ b.1) <<< 63 = _
    rw [shr_xor, shl_xor]
    generalize a.2 >>> 1 = p
    generalize b.2 >>> 1 = q
    generalize a.1 <<< 63 = r
    generalize b.1 <<< 63 = s
    rw [UInt64.xor_assoc, UInt64.xor_assoc, ← UInt64.xor_assoc q, UInt64.xor_comm q, UInt64.xor_assoc r]
theorem half_z : half z0 = z0 := by decide
def hf4 (e : El) : El := half (half (half (half e)))
theorem hf4_xr (a b : El) : hf4 (xr a b) = xr (hf4 a) (hf4 b) := by
  unfold hf4; simp only [half_xr]
/-! ### four at once -/
def toN (e : El) : Nat := e.1.toNat * 18446744073709551616 + e.2.toNat
theorem toN_inj {a b : El} (h : toN a = toN b) : a = b := by
  unfold toN at h
  have h1 := a.2.toNat_lt
  have h2 := b.2.toNat_lt
  have e1 : a.1.toNat = b.1.toNat := by omega
  have e2 : a.2.toNat = b.2.toNat := by omega
  exact Prod.ext (UInt64.toNat_inj.1 e1) (UInt64.toNat_inj.1 e2)
theorem shrN (x : UInt64) {k : Nat} (h : k < 64) : (x >>> UInt64.ofNat k).toNat = x.toNat / 2 ^ k := by
  have hk : (UInt64.ofNat k).toNat = k := by rw [UInt64.toNat_ofNat']; omega
  rw [UInt64.toNat_shiftRight, hk, Nat.mod_eq_of_lt h, Nat.shiftRight_eq_div_pow]
theorem orN {l h : UInt64} {k m : Nat} (hl : l.toNat < 2 ^ k) (hh : h.toNat = 2 ^ k * m) : (l ||| h).toNat = l.toNat + 2 ^ k * m := by
  rw [UInt64.toNat_or, hh, Nat.or_comm, ← Nat.two_pow_add_eq_or_of_lt hl, Nat.add_comm]
theorem half_even {e : El} (h : e.2.toNat % 2 = 0) : toN (half e) = toN e / 2 := by
  have hm : msk e.2 = 0 := by
    unfold msk
    have h1 : (e.2 &&& 1) = 0 := by
      apply UInt64.toNat_inj.1
      rw [UInt64.toNat_and]; show e.2.toNat &&& (2 ^ 1 - 1) = 0; rw [Nat.and_two_pow_sub_one_eq_mod]; exact h
    rw [h1]; decide
  have e1 : (half e).1 = e.1 >>> UInt64.ofNat 1 := by
    show e.1 >>> 1 ^^^ msk e.2 = _
    rw [hm, UInt64.xor_zero]; rfl
  have s1 := shrN e.1 (k := 1) (by decide)
  have s2 : (e.2 >>> 1).toNat = e.2.toNat / 2 := shrN e.2 (k := 1) (by decide)
  have hl := e.2.toNat_lt
  have s3 : (e.1 <<< 63).toNat = 2 ^ 63 * (e.1.toNat % 2) := by
    rw [UInt64.toNat_shiftLeft, Nat.shiftLeft_eq]; show e.1.toNat * 9223372036854775808 % 18446744073709551616 = 9223372036854775808 * _; omega
  have e2 : (half e).2.toNat = e.2.toNat / 2 + 9223372036854775808 * (e.1.toNat % 2) := by
    have := orN (l := e.2 >>> 1) (h := e.1 <<< 63) (k := 63) (m := e.1.toNat % 2) (by rw [s2]; omega) s3
    rw [s2] at this
    exact this
  unfold toN
  rw [e1, s1, e2]
  omega
def sh4 (e : El) : El := (e.1 >>> 4, e.2 >>> 4 ||| e.1 <<< 60)
theorem sh4_N (e : El) : toN (sh4 e) = toN e / 16 := by
  have s1 : (e.1 >>> 4).toNat = e.1.toNat / 16 := shrN e.1 (k := 4) (by decide)
  have s2 : (e.2 >>> 4).toNat = e.2.toNat / 16 := shrN e.2 (k := 4) (by decide)
  have hl := e.2.toNat_lt
  have s3 : (e.1 <<< 60).toNat = 2 ^ 60 * (e.1.toNat % 16) := by
    rw [UInt64.toNat_shiftLeft, Nat.shiftLeft_eq]; show e.1.toNat * 1152921504606846976 % 18446744073709551616 = 1152921504606846976 * _; omega
  have e2 : (sh4 e).2.toNat = e.2.toNat / 16 + 1152921504606846976 * (e.1.toNat % 16) := by
    have := orN (l := e.2 >>> 4) (h := e.1 <<< 60) (k := 60) (m := e.1.toNat % 16) (by rw [s2]; omega) s3
    rw [s2] at this
    exact this
  unfold toN
  rw [e2]
  show (e.1 >>> 4).toNat * _ + _ = _
  rw [s1]
  omega
theorem hf4_even {e : El} (h : e.2.toNat % 16 = 0) : hf4 e = sh4 e := by
  have hN : toN e % 16 = 0 := by unfold toN; omega
  have even : ∀ {a : El}, toN a % 2 = 0 → a.2.toNat % 2 = 0 := fun {a} ha => by unfold toN at ha; omega
  apply toN_inj
  have h1 := half_even (e := e) (by omega)
  have h2 := half_even (e := half e) (even (by omega))
  have h3 := half_even (e := half (half e)) (even (by omega))
  have h4 := half_even (e := half (half (half e))) (even (by omega))
  unfold hf4
  rw [h4, h3, h2, h1, sh4_N]
  omega
def fold (i : Nat) : UInt64 := (hf4 (0, UInt64.ofNat i)).1
theorem hf4_small : ∀ i, i < 16 → hf4 (0, UInt64.ofNat i) = (fold i, 0) := by decide
theorem and15 (l : UInt64) : (l &&& 15).toNat = l.toNat % 16 := by
  rw [UInt64.toNat_and]; show l.toNat &&& (2 ^ 4 - 1) = _; rw [Nat.and_two_pow_sub_one_eq_mod]
theorem cut_low (l : UInt64) : (l >>> 4) <<< 4 ^^^ (l &&& 15) = l := by
  apply UInt64.toNat_inj.1
  rw [UInt64.toNat_xor, UInt64.toNat_and, UInt64.toNat_shiftLeft, UInt64.toNat_shiftRight]
  apply Nat.eq_of_testBit_eq
  intro i
  rw [Nat.testBit_xor, Nat.testBit_and, Nat.testBit_mod_two_pow]
  show ((decide (i < 64) && Nat.testBit ((l.toNat >>> 4) <<< 4) i) ^^ (Nat.testBit l.toNat i && Nat.testBit (2 ^ 4 - 1) i)) = _
  rw [Nat.testBit_shiftLeft, Nat.testBit_shiftRight, Nat.testBit_two_pow_sub_one]
  by_cases h4 : i < 4
  · rw [decide_eq_true h4, decide_eq_false (show ¬ i ≥ 4 by omega)]; simp
  · rw [decide_eq_false h4, decide_eq_true (show i ≥ 4 by omega)]
    by_cases h64 : i < 64
    · rw [decide_eq_true h64, show 4 + (i - 4) = i by omega]; simp
    · rw [decide_eq_false h64]
      have : Nat.testBit l.toNat i = false := Nat.testBit_lt_two_pow (Nat.lt_of_lt_of_le l.toNat_lt (Nat.pow_le_pow_right (by decide) (by omega)))
      rw [this]; simp
/-- four doublings are a shift and what falls out, put back -/
theorem hf4_eq (e : El) : hf4 e = ((sh4 e).1 ^^^ fold (e.2 &&& 15).toNat, (sh4 e).2) := by
  have hs : e = xr (e.1, (e.2 >>> 4) <<< 4) (0, e.2 &&& 15) := by
    unfold xr
    refine Prod.ext ?_ ?_
    · show e.1 = e.1 ^^^ 0; rw [UInt64.xor_zero]
    · exact (cut_low e.2).symm
  have h15 := and15 e.2
  have hq : UInt64.ofNat (e.2 &&& 15).toNat = e.2 &&& 15 := UInt64.ofNat_toNat
  have hsm := hf4_small (e.2 &&& 15).toNat (by rw [h15]; omega)
  rw [hq] at hsm
  have s2 : (e.2 >>> 4).toNat = e.2.toNat / 16 := shrN e.2 (k := 4) (by decide)
  have hl := e.2.toNat_lt
  have s3 : ((e.2 >>> 4) <<< 4).toNat = 16 * (e.2.toNat / 16) := by
    rw [UInt64.toNat_shiftLeft, s2, Nat.shiftLeft_eq]; show e.2.toNat / 16 * 16 % 18446744073709551616 = _; omega
  have hev := hf4_even (e := (e.1, (e.2 >>> 4) <<< 4)) (by show ((e.2 >>> 4) <<< 4).toNat % 16 = 0; rw [s3]; omega)
  have hsh : sh4 (e.1, (e.2 >>> 4) <<< 4) = sh4 e := by
    apply toN_inj
    rw [sh4_N, sh4_N]
    unfold toN
    rw [s3]
    show (e.1.toNat * _ + _) / 16 = _
    omega
  conv => lhs; rw [hs]
  rw [hf4_xr, hsm, hev, hsh]
  unfold xr
  refine Prod.ext rfl ?_
  show (sh4 e).2 ^^^ 0 = _
  rw [UInt64.xor_zero]
/-! ### products -/
/-- those of h, xh, xxh .. that P names, summed -/
def sumX (P : Nat → Bool) : El → Nat → El
  | _, 0 => z0
  | h, n + 1 => xr (if P 0 = true then h else z0) (sumX (fun j => P (j + 1)) (half h) n)
theorem half_if (c : Bool) (h : El) : half (if c = true then h else z0) = if c = true then half h else z0 := by
  cases c
  · exact half_z
  · rfl
theorem half_sum (n : Nat) : ∀ (P : Nat → Bool) (h : El), half (sumX P h n) = sumX P (half h) n := by
  induction n with
  | zero => intro P h; exact half_z
  | succ n ih => intro P h; simp only [sumX]; rw [half_xr, half_if, ih]
theorem sum_back (n : Nat) : ∀ (P : Nat → Bool) (h : El), sumX P h (n + 1) = xr (sumX P h n) (if P n = true then (Nat.repeat half n h) else z0) := by
  induction n with
  | zero => intro P h; simp only [sumX, Nat.repeat]; rw [xr_z, z_xr]
  | succ n ih =>
    intro P h
    have hr : ∀ m (g : El), Nat.repeat half m (half g) = half (Nat.repeat half m g) := by
      intro m
      induction m with
      | zero => intro g; rfl
      | succ m ihm => intro g; simp only [Nat.repeat]; rw [ihm]
    rw [sumX, ih, ← xr_assoc, hr]
    rfl
/-- four doublings more -/
theorem sum_four (n : Nat) (P : Nat → Bool) (h : El) :
    sumX P h (n + 4) = xr (hf4 (sumX (fun j => P (j + 4)) h n)) (sumX P h 4) := by
  have e : hf4 (sumX (fun j => P (j + 4)) h n) = sumX (fun j => P (j + 4)) (half (half (half (half h)))) n := by
    unfold hf4; rw [half_sum, half_sum, half_sum, half_sum]
  rw [e, xr_comm]
  simp only [sumX]
  rw [xr_z]
  simp only [xr_assoc]
theorem sum_congr (n : Nat) : ∀ {P Q : Nat → Bool} (h : El), (∀ j, j < n → P j = Q j) → sumX P h n = sumX Q h n := by
  induction n with
  | zero => intro P Q h _; rfl
  | succ n ih =>
    intro P Q h hp
    simp only [sumX]
    rw [hp 0 (by omega), ih (half h) (fun j hj => hp (j + 1) (by omega))]
/-! ### the program's table -/
def g6 (x : List UInt64) (i : Nat) : UInt64 := x.getD i 0
def tbI (bit : Nat) (x : El) (T : List UInt64) : Nat → List UInt64
  | 0 => T
  | i + 1 => if i &&& bit = 0 then tbI bit x T i else ((tbI bit x T i).set (2 * i) (g6 (tbI bit x T i) (2 * i) ^^^ x.1)).set (2 * i + 1) (g6 ((tbI bit x T i).set (2 * i) (g6 (tbI bit x T i) (2 * i) ^^^ x.1)) (2 * i + 1) ^^^ x.2)
theorem tbI_len (bit : Nat) (x : El) (T : List UInt64) : ∀ i, (tbI bit x T i).length = T.length
  | 0 => rfl
  | i + 1 => by
    simp only [tbI]
    split
    · exact tbI_len bit x T i
    · rw [List.length_set, List.length_set]; exact tbI_len bit x T i
def ent (T : List UInt64) (d : Nat) : El := (g6 T (2 * d), g6 T (2 * d + 1))
theorem g6_set {T : List UInt64} {i j : Nat} {v : UInt64} (h : j < T.length) : g6 (T.set j v) i = if i = j then v else g6 T i := by
  unfold g6
  by_cases e : i = j
  · rw [if_pos e, e, List.getD_eq_getElem?_getD, List.getElem?_set_self h]; rfl
  · rw [if_neg e, List.getD_eq_getElem?_getD, List.getElem?_set_ne (by omega), ← List.getD_eq_getElem?_getD]
theorem ent_set {T : List UInt64} (hT : T.length = 32) {n : Nat} (hn : n < 16) (v w : UInt64) (d : Nat) : ent ((T.set (2 * n) v).set (2 * n + 1) w) d = if d = n then (v, w) else ent T d := by
  have l2 : (T.set (2 * n) v).length = 32 := by rw [List.length_set]; exact hT
  have g1 : ∀ i, g6 ((T.set (2 * n) v).set (2 * n + 1) w) i = if i = 2 * n + 1 then w else if i = 2 * n then v else g6 T i := fun i => by
    rw [g6_set (by omega), g6_set (by omega)]
  unfold ent
  rw [g1, g1]
  by_cases e : d = n
  · rw [if_pos e, e, if_neg (by omega), if_pos rfl, if_pos rfl]
  · rw [if_neg e, if_neg (by omega), if_neg (by omega), if_neg (by omega), if_neg (by omega)]
theorem tbI_get {bit : Nat} {x : El} {T : List UInt64} (hT : T.length = 32) {d : Nat} (hd : d < 16) : ∀ n, n ≤ 16 → ent (tbI bit x T n) d = if d < n ∧ d &&& bit ≠ 0 then xr (ent T d) x else ent T d
  | 0, _ => by rw [if_neg (by omega)]; rfl
  | n + 1, hn => by
    have ih := tbI_get (bit := bit) (x := x) hT hd n (by omega)
    have hl := (tbI_len bit x T n).trans hT
    by_cases hb : n &&& bit = 0
    · have e : tbI bit x T (n + 1) = tbI bit x T n := by simp only [tbI]; rw [if_pos hb]
      rw [e, ih]
      by_cases hdn : d = n
      · rw [if_neg (fun hh => hh.2 (by rw [hdn]; exact hb)), if_neg (fun hh => hh.2 (by rw [hdn]; exact hb))]
      · by_cases hc : d < n ∧ d &&& bit ≠ 0
        · rw [if_pos hc, if_pos ⟨by omega, hc.2⟩]
        · rw [if_neg hc, if_neg (fun hh => hc ⟨by omega, hh.2⟩)]
    · have e : tbI bit x T (n + 1) = ((tbI bit x T n).set (2 * n) (g6 (tbI bit x T n) (2 * n) ^^^ x.1)).set (2 * n + 1) (g6 ((tbI bit x T n).set (2 * n) (g6 (tbI bit x T n) (2 * n) ^^^ x.1)) (2 * n + 1) ^^^ x.2) := by simp only [tbI]; rw [if_neg hb]
      have g1 : g6 ((tbI bit x T n).set (2 * n) (g6 (tbI bit x T n) (2 * n) ^^^ x.1)) (2 * n + 1) = g6 (tbI bit x T n) (2 * n + 1) := by
        rw [g6_set (by omega), if_neg (by omega)]
      rw [e, g1, ent_set hl (by omega)]
      by_cases hdn : d = n
      · rw [if_pos hdn, if_pos ⟨by omega, by rw [hdn]; exact hb⟩]
        rw [if_neg (by omega)] at ih
        rw [← ih, hdn]
        rfl
      · rw [if_neg hdn, ih]
        by_cases hc : d < n ∧ d &&& bit ≠ 0
        · rw [if_pos hc, if_pos ⟨by omega, hc.2⟩]
        · rw [if_neg hc, if_neg (fun hh => hc ⟨by omega, hh.2⟩)]
/-- the table behind so many bits -/
def tbO (h : El) : Nat → List UInt64
  | 0 => List.replicate 32 0
  | k + 1 => tbI (8 / 2 ^ k) (Nat.repeat half k h) (tbO h k) 16
theorem tbO_len (h : El) : ∀ k, (tbO h k).length = 32
  | 0 => rfl
  | k + 1 => by rw [tbO, tbI_len]; exact tbO_len h k
def tb (h : El) : List UInt64 := tbO h 4
theorem tb_len (h : El) : (tb h).length = 32 := tbO_len h 4
theorem tbO_get (h : El) {d : Nat} (hd : d < 16) (k : Nat) : ent (tbO h (k + 1)) d = xr (ent (tbO h k) d) (if d &&& (8 / 2 ^ k) ≠ 0 then Nat.repeat half k h else z0) := by
  rw [tbO, tbI_get (tbO_len h k) hd 16 (Nat.le_refl _)]
  by_cases hc : d &&& (8 / 2 ^ k) ≠ 0
  · rw [if_pos ⟨hd, hc⟩, if_pos hc]
  · rw [if_neg (fun hh => hc hh.2), if_neg hc, xr_z]
/-- a digit's bits, the greatest first -/
def dig (d j : Nat) : Bool := decide (d / 2 ^ (3 - j) % 2 = 1)
theorem dig_and : ∀ d, d < 16 → ∀ k, k < 4 → (dig d k = true ↔ d &&& (8 / 2 ^ k) ≠ 0) := by decide
theorem rep0 (h : El) : ∀ d, d < 16 → ent (List.replicate 32 0) d = z0 := by decide
theorem tb_get (h : El) {d : Nat} (hd : d < 16) : ent (tb h) d = sumX (dig d) h 4 := by
  have hs : ∀ k, k ≤ 4 → ent (tbO h k) d = sumX (dig d) h k := by
    intro k
    induction k with
    | zero => intro _; exact rep0 h d hd
    | succ k ih =>
      intro hk
      rw [tbO_get h hd, sum_back, ih (by omega)]
      congr 1
      have := dig_and d hd k (by omega)
      by_cases hc : d &&& (8 / 2 ^ k) ≠ 0
      · rw [if_pos hc, if_pos (this.2 hc)]
      · rw [if_neg hc, if_neg (fun hh => hc (this.1 hh))]
  exact hs 4 (Nat.le_refl _)
def fl : List UInt64 := (List.range 16).map fold
/-! ### the program's product -/
def digit (x : El) (i : Nat) : UInt64 := if 16 ≤ i then x.1 >>> UInt64.ofNat (4 * (i % 16)) &&& 15 else x.2 >>> UInt64.ofNat (4 * (i % 16)) &&& 15
def stp (T F : List UInt64) (z : El) (d : UInt64) : El :=
  (z.1 >>> 4 ^^^ g6 F (z.2 &&& 15).toNat ^^^ g6 T (2 * d.toNat), (z.2 >>> 4 ||| z.1 <<< 60) ^^^ g6 T (2 * d.toNat + 1))
def pmSt (T F : List UInt64) (x : El) : Nat → El
  | 0 => z0
  | i + 1 => stp T F (pmSt T F x i) (digit x i)
def pmul (T F : List UInt64) (x : El) : El := pmSt T F x 32
theorem digit_lt (x : El) (i : Nat) : (digit x i).toNat < 16 := by
  unfold digit
  split <;> (rw [and15]; omega)
theorem stp_eq (h z : El) {d : UInt64} (hd : d.toNat < 16) : stp (tb h) fl z d = xr (hf4 z) (sumX (dig d.toNat) h 4) := by
  have hf : g6 fl (z.2 &&& 15).toNat = fold (z.2 &&& 15).toNat := by
    unfold g6 fl
    rw [map_range_get _ _ (by rw [and15]; omega)]
  rw [← tb_get h hd, hf4_eq]
  unfold stp
  rw [hf]
  generalize fold (z.2 &&& 15).toNat = f
  generalize tb h = T
  unfold xr ent sh4
  rfl
/-- an element's bits, from its first on -/
def bitE (a : El) (j : Nat) : Bool := if 63 < j then decide (a.2.toNat / 2 ^ (127 - j) % 2 = 1) else decide (a.1.toNat / 2 ^ (63 - j) % 2 = 1)
def gmul (h a : El) : El := sumX (bitE a) h 128
theorem dig_bit (x : El) {i j : Nat} (hi : i < 32) (hj : j < 4) : dig (digit x i).toNat j = bitE x (124 - 4 * i + j) := by
  have hw : ∀ (y : UInt64) (k m : Nat), k < 64 → m < 4 → ((y >>> UInt64.ofNat k &&& 15).toNat) / 2 ^ m % 2 = y.toNat / 2 ^ (k + m) % 2 := by
    intro y k m hk hm
    rw [and15, shrN y hk, Nat.pow_add, ← Nat.div_div_eq_div_mul]
    generalize y.toNat / 2 ^ k = q
    have : m = 0 ∨ m = 1 ∨ m = 2 ∨ m = 3 := by omega
    rcases this with rfl | rfl | rfl | rfl
    · show q % 16 / 1 % 2 = q / 1 % 2; omega
    · show q % 16 / 2 % 2 = q / 2 % 2; omega
    · show q % 16 / 4 % 2 = q / 4 % 2; omega
    · show q % 16 / 8 % 2 = q / 8 % 2; omega
  unfold dig bitE digit
  by_cases h16 : 16 ≤ i
  · rw [if_pos h16, if_neg (by omega), hw _ _ _ (by omega) (by omega), show 4 * (i % 16) + (3 - j) = 63 - (124 - 4 * i + j) by omega]
  · rw [if_neg h16, if_pos (by omega), hw _ _ _ (by omega) (by omega), show 4 * (i % 16) + (3 - j) = 127 - (124 - 4 * i + j) by omega]
theorem pm_sum (h x : El) : ∀ i, i ≤ 32 → pmSt (tb h) fl x i = sumX (fun j => bitE x (128 - 4 * i + j)) h (4 * i)
  | 0, _ => rfl
  | i + 1, hi => by
    rw [pmSt, stp_eq h _ (digit_lt x i), pm_sum h x i (by omega)]
    refine Eq.trans ?_ (sum_four (4 * i) (fun j => bitE x (128 - 4 * (i + 1) + j)) h).symm
    refine congr (congrArg xr (congrArg hf4 ?_)) ?_
    · refine sum_congr _ h fun j hj => ?_
      show bitE x _ = bitE x _
      congr 1; omega
    · refine sum_congr _ h fun j hj => ?_
      show dig _ j = bitE x _
      rw [dig_bit x (by omega) hj]
      congr 1; omega
theorem pmul_eq (h x : El) : pmul (tb h) fl x = gmul h x := by
  unfold pmul gmul
  rw [pm_sum h x 32 (Nat.le_refl _)]
  refine sum_congr _ h fun j hj => ?_
  show bitE x _ = bitE x _
  congr 1; omega
/-! ### the reference's product -/
def tmA (a : UInt64) : Nat → UInt64
  | 0 => a
  | i + 1 => tmA a i <<< 1
/-- the bit in hand, at step i -/
def tmBit (a : El) (i : Nat) : UInt64 := if 63 < i then tmA a.2 (i - 64) >>> 63 else tmA a.1 i >>> 63
def tmX (a c : El) : Nat → El
  | 0 => z0
  | i + 1 => if tmBit a i = 1 then xr (tmX a c i) (Nat.repeat half i c) else tmX a c i
theorem tmA_val (a : UInt64) : ∀ i, (tmA a i).toNat = a.toNat * 2 ^ i % 18446744073709551616
  | 0 => by show a.toNat = _; rw [Nat.pow_zero, Nat.mul_one, Nat.mod_eq_of_lt a.toNat_lt]
  | i + 1 => by
    have e : a.toNat * 2 ^ (i + 1) = a.toNat * 2 ^ i * 2 := by rw [Nat.pow_succ, Nat.mul_assoc]
    rw [tmA, UInt64.toNat_shiftLeft, tmA_val a i, Nat.shiftLeft_eq, e]
    generalize a.toNat * 2 ^ i = q
    show q % 18446744073709551616 * 2 % 18446744073709551616 = q * 2 % 18446744073709551616
    omega
theorem tmA_top (a : UInt64) {i : Nat} (h : i < 64) : (tmA a i >>> 63).toNat = a.toNat / 2 ^ (63 - i) % 2 := by
  have e : (tmA a i >>> 63).toNat = (tmA a i).toNat / 2 ^ 63 := shrN _ (k := 63) (by decide)
  rw [e, tmA_val]
  have hp : 2 ^ (63 - i) * 2 ^ i = 2 ^ 63 := by rw [← Nat.pow_add]; congr 1; omega
  have h2 : (18446744073709551616 : Nat) = 2 ^ 63 * 2 := by decide
  rw [h2, Nat.mod_mul_right_div_self, ← hp, Nat.mul_div_mul_right _ _ (Nat.pow_pos (by decide))]
theorem tmBit_bit (a : El) {i : Nat} (h : i < 128) : tmBit a i = 1 ↔ bitE a i = true := by
  have one : ∀ x : UInt64, x = 1 ↔ x.toNat = 1 := fun x => by rw [← UInt64.toNat_inj]; rfl
  unfold tmBit bitE
  by_cases hi : 63 < i
  · rw [if_pos hi, if_pos hi, one, tmA_top _ (by omega), decide_eq_true_iff, show 63 - (i - 64) = 127 - i by omega]
  · rw [if_neg hi, if_neg hi, one, tmA_top _ (by omega), decide_eq_true_iff]
theorem tmX_sum (a c : El) : ∀ i, i ≤ 128 → tmX a c i = sumX (bitE a) c i
  | 0, _ => rfl
  | i + 1, h => by
    rw [tmX, tmX_sum a c i (by omega), sum_back]
    have hb := tmBit_bit a (i := i) (by omega)
    by_cases hc : tmBit a i = 1
    · rw [if_pos hc, if_pos (hb.1 hc)]
    · rw [if_neg hc, if_neg (fun hh => hc (hb.2 hh)), xr_z]
theorem tmX_eq (a c : El) : tmX a c 128 = gmul c a := tmX_sum a c 128 (Nat.le_refl _)
end Go.Sym.Gcm

/-
  GCM: texts as elements, counters, blocks. Plain laws. No program in sight.
-/
namespace Go.Sym.Gcm
open Go.Sym.Lp Go.Sym.Aes
/-- an element read -/
def ldE (s : List UInt8) : Nat → El
  | 0 => z0
  | i + 1 => ((ldE s i).1 <<< 8 ||| (s.getD i 0).toUInt64, (ldE s i).2 <<< 8 ||| (s.getD (8 + i) 0).toUInt64)
def ld (s : List UInt8) : El := ldE s 8
/-- an element written -/
def fgSt (f g : Nat → UInt8) : Nat → List UInt8
  | 0 => List.replicate 16 0
  | i + 1 => ((fgSt f g i).set i (f i)).set (8 + i) (g i)
theorem fgSt_len (f g : Nat → UInt8) : ∀ i, (fgSt f g i).length = 16
  | 0 => rfl
  | i + 1 => by simp only [fgSt, List.length_set]; exact fgSt_len f g i
theorem fgSt_all (f g : Nat → UInt8) : fgSt f g 8 = [f 0, f 1, f 2, f 3, f 4, f 5, f 6, f 7, g 0, g 1, g 2, g 3, g 4, g 5, g 6, g 7] := rfl
def wrSt (e : El) (i : Nat) : List UInt8 := fgSt (fun i => (e.1 >>> UInt64.ofNat (56 - 8 * i)).toUInt8) (fun i => (e.2 >>> UInt64.ofNat (56 - 8 * i)).toUInt8) i
theorem wrSt_len (e : El) (i : Nat) : (wrSt e i).length = 16 := fgSt_len _ _ i
theorem wrSt_s (e : El) (i : Nat) : wrSt e (i + 1) = ((wrSt e i).set i (e.1 >>> UInt64.ofNat (56 - 8 * i)).toUInt8).set (8 + i) (e.2 >>> UInt64.ofNat (56 - 8 * i)).toUInt8 := rfl
def wr (e : El) : List UInt8 := wrSt e 8
theorem wr_len (e : El) : (wr e).length = 16 := wrSt_len e 8
theorem wr_list (e : El) : wr e = [(e.1 >>> UInt64.ofNat (56 - 8 * 0)).toUInt8, (e.1 >>> UInt64.ofNat (56 - 8 * 1)).toUInt8, (e.1 >>> UInt64.ofNat (56 - 8 * 2)).toUInt8, (e.1 >>> UInt64.ofNat (56 - 8 * 3)).toUInt8, (e.1 >>> UInt64.ofNat (56 - 8 * 4)).toUInt8, (e.1 >>> UInt64.ofNat (56 - 8 * 5)).toUInt8, (e.1 >>> UInt64.ofNat (56 - 8 * 6)).toUInt8, (e.1 >>> UInt64.ofNat (56 - 8 * 7)).toUInt8, (e.2 >>> UInt64.ofNat (56 - 8 * 0)).toUInt8, (e.2 >>> UInt64.ofNat (56 - 8 * 1)).toUInt8, (e.2 >>> UInt64.ofNat (56 - 8 * 2)).toUInt8, (e.2 >>> UInt64.ofNat (56 - 8 * 3)).toUInt8, (e.2 >>> UInt64.ofNat (56 - 8 * 4)).toUInt8, (e.2 >>> UInt64.ofNat (56 - 8 * 5)).toUInt8, (e.2 >>> UInt64.ofNat (56 - 8 * 6)).toUInt8, (e.2 >>> UInt64.ofNat (56 - 8 * 7)).toUInt8] := by
  unfold wr wrSt
  rw [fgSt_all]
/-- the reference's: from the last on -/
def sr8 (a : UInt64) : Nat → UInt64
  | 0 => a
  | k + 1 => sr8 a k >>> 8
def wlSt (e : El) : Nat → List UInt8
  | 0 => List.replicate 16 0
  | k + 1 => ((wlSt e k).set (7 - k) (sr8 e.1 k &&& 255).toUInt8).set (15 - k) (sr8 e.2 k &&& 255).toUInt8
theorem wlSt_len (e : El) : ∀ i, (wlSt e i).length = 16
  | 0 => rfl
  | i + 1 => by simp only [wlSt, List.length_set]; exact wlSt_len e i
theorem sr8_val (a : UInt64) : ∀ k, (sr8 a k).toNat = a.toNat / 2 ^ (8 * k)
  | 0 => by show a.toNat = _; simp
  | k + 1 => by
    have e : (sr8 a k >>> 8).toNat = (sr8 a k).toNat / 2 ^ 8 := shrN _ (k := 8) (by decide)
    rw [sr8, e, sr8_val a k, Nat.div_div_eq_div_mul, ← Nat.pow_add]; rfl
theorem and255 (y : UInt64) : (y &&& 255).toNat = y.toNat % 256 := by
  rw [UInt64.toNat_and]; show y.toNat &&& (2 ^ 8 - 1) = _; rw [Nat.and_two_pow_sub_one_eq_mod]
theorem sr8_byte (a : UInt64) {k : Nat} (h : k < 8) : (sr8 a k &&& 255).toUInt8 = (a >>> UInt64.ofNat (8 * k)).toUInt8 := by
  apply UInt8.toNat_inj.1
  rw [UInt64.toNat_toUInt8, UInt64.toNat_toUInt8, and255, sr8_val, shrN _ (by omega), Nat.mod_mod]
theorem wl_wr (e : El) : wlSt e 8 = wr e := by
  have h1 : wlSt e 8 = [(sr8 e.1 7 &&& 255).toUInt8, (sr8 e.1 6 &&& 255).toUInt8, (sr8 e.1 5 &&& 255).toUInt8, (sr8 e.1 4 &&& 255).toUInt8, (sr8 e.1 3 &&& 255).toUInt8, (sr8 e.1 2 &&& 255).toUInt8, (sr8 e.1 1 &&& 255).toUInt8, (sr8 e.1 0 &&& 255).toUInt8, (sr8 e.2 7 &&& 255).toUInt8, (sr8 e.2 6 &&& 255).toUInt8, (sr8 e.2 5 &&& 255).toUInt8, (sr8 e.2 4 &&& 255).toUInt8, (sr8 e.2 3 &&& 255).toUInt8, (sr8 e.2 2 &&& 255).toUInt8, (sr8 e.2 1 &&& 255).toUInt8, (sr8 e.2 0 &&& 255).toUInt8] := rfl
  rw [h1]
  rw [sr8_byte e.1 (k := 7) (by decide), sr8_byte e.1 (k := 6) (by decide), sr8_byte e.1 (k := 5) (by decide), sr8_byte e.1 (k := 4) (by decide), sr8_byte e.1 (k := 3) (by decide), sr8_byte e.1 (k := 2) (by decide), sr8_byte e.1 (k := 1) (by decide), sr8_byte e.1 (k := 0) (by decide)]
  rw [sr8_byte e.2 (k := 7) (by decide), sr8_byte e.2 (k := 6) (by decide), sr8_byte e.2 (k := 5) (by decide), sr8_byte e.2 (k := 4) (by decide), sr8_byte e.2 (k := 3) (by decide), sr8_byte e.2 (k := 2) (by decide), sr8_byte e.2 (k := 1) (by decide), sr8_byte e.2 (k := 0) (by decide)]
  rw [wr_list]
/-! ### counters -/
def ctr (nonce : List UInt8) (n : UInt32) : List UInt8 := nonce ++ [(n >>> 24).toUInt8, (n >>> 16).toUInt8, (n >>> 8).toUInt8, n.toUInt8]
theorem ctr_len {nonce : List UInt8} (h : nonce.length = 12) (n : UInt32) : (ctr nonce n).length = 16 := by unfold ctr; simp [h]
def ctSt (nonce : List UInt8) (n : UInt32) : Nat → List UInt8
  | 0 => nonce ++ [0, 0, 0, 0]
  | i + 1 => (ctSt nonce n i).set (15 - i) (n >>> UInt32.ofNat (8 * i)).toUInt8
theorem ctSt_len {nonce : List UInt8} (h : nonce.length = 12) (n : UInt32) : ∀ i, (ctSt nonce n i).length = 16
  | 0 => by simp [ctSt, h]
  | i + 1 => by simp only [ctSt, List.length_set]; exact ctSt_len h n i
theorem twelve {x : List UInt8} (h : x.length = 12) : ∃ a0 a1 a2 a3 a4 a5 a6 a7 a8 a9 b0 b1, x = [a0, a1, a2, a3, a4, a5, a6, a7, a8, a9, b0, b1] := by
  match x, h with
  | [a0, a1, a2, a3, a4, a5, a6, a7, a8, a9, b0, b1], _ => exact ⟨a0, a1, a2, a3, a4, a5, a6, a7, a8, a9, b0, b1, rfl⟩
theorem ctSt_all {nonce : List UInt8} (h : nonce.length = 12) (n : UInt32) : ctSt nonce n 4 = ctr nonce n := by
  obtain ⟨a0, a1, a2, a3, a4, a5, a6, a7, a8, a9, b0, b1, rfl⟩ := twelve h
  have e : (n >>> UInt32.ofNat (8 * 0)).toUInt8 = n.toUInt8 := by
    have : n >>> UInt32.ofNat (8 * 0) = n := UInt32.shiftRight_zero
    rw [this]
  show [a0, a1, a2, a3, a4, a5, a6, a7, a8, a9, b0, b1, _, _, _, (n >>> UInt32.ofNat (8 * 0)).toUInt8] = _
  rw [e]
  rfl
/-- a number's bytes, the greatest first -/
def beB (x : Int) (size : Nat) : List UInt8 := (List.range size).map fun j => UInt8.ofInt (x / 2 ^ (8 * (size - 1 - j)))
theorem beB_len (x : Int) (size : Nat) : (beB x size).length = size := map_range_len _ _
theorem ofInt_nat (n : Nat) : UInt8.ofInt (n : Int) = UInt8.ofNat n := by
  apply UInt8.toNat_inj.1
  unfold UInt8.ofInt
  rw [UInt8.toNat_ofNat', UInt8.toNat_ofNat']
  omega
theorem byte_ofInt {n : Nat} (k : Nat) : UInt8.ofInt ((n : Int) / 2 ^ k) = UInt8.ofNat (n / 2 ^ k) := by
  have e : ((n : Int) / 2 ^ k) = ((n / 2 ^ k : Nat) : Int) := by rw [Int.natCast_ediv, Int.natCast_pow]; rfl
  rw [e, ofInt_nat]
theorem ctr_be {nonce : List UInt8} {n : Nat} (hn : n < 4294967296) : nonce ++ beB (n : Int) 4 = ctr nonce (UInt32.ofNat n) := by
  unfold ctr
  congr 1
  have hv : (UInt32.ofNat n).toNat = n := by rw [UInt32.toNat_ofNat']; omega
  have b : ∀ k, k < 32 → UInt8.ofInt ((n : Int) / 2 ^ k) = (UInt32.ofNat n >>> UInt32.ofNat k).toUInt8 := by
    intro k hk
    have hk2 : (UInt32.ofNat k).toNat = k := by rw [UInt32.toNat_ofNat']; omega
    rw [byte_ofInt]
    apply UInt8.toNat_inj.1
    rw [UInt32.toNat_toUInt8, UInt8.toNat_ofNat', UInt32.toNat_shiftRight, hv, hk2, Nat.mod_eq_of_lt hk, Nat.shiftRight_eq_div_pow]
  have b0 := b 0 (by decide)
  have z : UInt32.ofNat n >>> UInt32.ofNat 0 = UInt32.ofNat n := UInt32.shiftRight_zero
  rw [z] at b0
  show [UInt8.ofInt ((n : Int) / 2 ^ 24), UInt8.ofInt ((n : Int) / 2 ^ 16), UInt8.ofInt ((n : Int) / 2 ^ 8), UInt8.ofInt ((n : Int) / 2 ^ 0)] = _
  rw [b 24 (by decide), b 16 (by decide), b 8 (by decide), b0]
  rfl
/-- eight bytes and eight: an element written -/
theorem wr_be {m n : Nat} (hm : m < 18446744073709551616) (hn : n < 18446744073709551616) : beB (m : Int) 8 ++ beB (n : Int) 8 = wr (UInt64.ofNat m, UInt64.ofNat n) := by
  have b : ∀ {m : Nat}, m < 18446744073709551616 → ∀ k, k < 64 → UInt8.ofInt ((m : Int) / 2 ^ k) = (UInt64.ofNat m >>> UInt64.ofNat k).toUInt8 := by
    intro m hm k hk
    have hv : (UInt64.ofNat m).toNat = m := by rw [UInt64.toNat_ofNat']; omega
    rw [byte_ofInt]
    apply UInt8.toNat_inj.1
    rw [UInt64.toNat_toUInt8, UInt8.toNat_ofNat', shrN _ hk, hv]
  have e : ∀ {m : Nat}, m < 18446744073709551616 → beB (m : Int) 8 = [(UInt64.ofNat m >>> UInt64.ofNat 56).toUInt8, (UInt64.ofNat m >>> UInt64.ofNat 48).toUInt8, (UInt64.ofNat m >>> UInt64.ofNat 40).toUInt8, (UInt64.ofNat m >>> UInt64.ofNat 32).toUInt8, (UInt64.ofNat m >>> UInt64.ofNat 24).toUInt8, (UInt64.ofNat m >>> UInt64.ofNat 16).toUInt8, (UInt64.ofNat m >>> UInt64.ofNat 8).toUInt8, (UInt64.ofNat m >>> UInt64.ofNat 0).toUInt8] := by
    intro m hm
    show [UInt8.ofInt ((m : Int) / 2 ^ 56), UInt8.ofInt ((m : Int) / 2 ^ 48), UInt8.ofInt ((m : Int) / 2 ^ 40), UInt8.ofInt ((m : Int) / 2 ^ 32), UInt8.ofInt ((m : Int) / 2 ^ 24), UInt8.ofInt ((m : Int) / 2 ^ 16), UInt8.ofInt ((m : Int) / 2 ^ 8), UInt8.ofInt ((m : Int) / 2 ^ 0)] = _
    rw [b hm 56 (by decide), b hm 48 (by decide), b hm 40 (by decide), b hm 32 (by decide), b hm 24 (by decide), b hm 16 (by decide), b hm 8 (by decide), b hm 0 (by decide)]
  rw [e hm, e hn]
  rfl
/-! ### sums of blocks -/
def pad16 (l : List UInt8) : List UInt8 := l ++ List.replicate (16 - l.length) 0
theorem pad16_full {l : List UInt8} (h : l.length = 16) : pad16 l = l := by unfold pad16; rw [h]; simp
/-- the program's sum behind so many blocks -/
def gaSt (T F : List UInt64) (y : El) (B : List UInt8) : Nat → El
  | 0 => y
  | t + 1 => pmul T F (xr (ld (pad16 ((B.drop (16 * t)).take 16))) (gaSt T F y B t))
def gaB (T F : List UInt64) (y : El) (B : List UInt8) : El := gaSt T F y B ((B.length + 15) / 16)
/-- the reference's sum of whole blocks -/
def ghSt (h : El) (s : List UInt8) : Nat → El
  | 0 => z0
  | t + 1 => gmul h (xr (ghSt h s t) (ld ((s.drop (16 * t)).take 16)))
def gfill (n : Nat) : List UInt8 := List.replicate ((16 - n % 16) % 16) 0
theorem gfill_len (n : Nat) : (gfill n).length = (16 - n % 16) % 16 := List.length_replicate
theorem ga_part (h : El) (A B C : List UInt8) (y : El) {n : Nat} (hA : A.length = 16 * n) (hy : y = ghSt h (A ++ (B ++ gfill B.length) ++ C) n) : ∀ t, t ≤ (B.length + 15) / 16 →
    gaSt (tb h) fl y B t = ghSt h (A ++ (B ++ gfill B.length) ++ C) (n + t)
  | 0, _ => hy
  | t + 1, ht => by
    have ih := ga_part h A B C y hA hy t (by omega)
    show pmul (tb h) fl (xr (ld (pad16 ((B.drop (16 * t)).take 16))) (gaSt (tb h) fl y B t)) = gmul h (xr (ghSt h (A ++ (B ++ gfill B.length) ++ C) (n + t)) (ld (((A ++ (B ++ gfill B.length) ++ C).drop (16 * (n + t))).take 16)))
    rw [ih, pmul_eq, xr_comm]
    congr 3
    have hfl := gfill_len B.length
    have e1 : (A ++ (B ++ gfill B.length) ++ C).drop (16 * (n + t)) = (B ++ gfill B.length).drop (16 * t) ++ C := by
      rw [List.append_assoc, show 16 * (n + t) = A.length + 16 * t by omega, List.drop_append]
      have h1 : List.drop (A.length + 16 * t) A = [] := List.drop_eq_nil_of_le (by omega)
      rw [h1, List.nil_append, show A.length + 16 * t - A.length = 16 * t by omega, List.drop_append_of_le_length (by rw [List.length_append, hfl]; omega)]
    have hl2 : ((B ++ gfill B.length).drop (16 * t)).length = B.length + (gfill B.length).length - 16 * t := by rw [List.length_drop, List.length_append]
    rw [e1, List.take_append_of_le_length (by rw [hl2, hfl]; omega)]
    unfold pad16
    by_cases h16 : 16 * t + 16 ≤ B.length
    · rw [List.drop_append_of_le_length (by omega), List.take_append_of_le_length (by rw [List.length_drop]; omega)]
      rw [show 16 - ((B.drop (16 * t)).take 16).length = 0 by rw [List.length_take, List.length_drop]; omega]
      simp
    · have e2 : (B.drop (16 * t)).take 16 = B.drop (16 * t) := List.take_of_length_le (by rw [List.length_drop]; omega)
      rw [e2, List.drop_append_of_le_length (by omega), List.take_of_length_le (by rw [List.length_append, List.length_drop, hfl]; omega)]
      unfold gfill
      rw [List.length_drop]
      congr 2
      omega
/-- the bytes that a sum is of -/
def gTxt (aad b : List UInt8) : List UInt8 := aad ++ gfill aad.length ++ (b ++ gfill b.length) ++ wr (UInt64.ofNat (8 * aad.length), UInt64.ofNat (8 * b.length))
def gN (aad b : List UInt8) : Nat := (aad.length + 15) / 16 + (b.length + 15) / 16 + 1
theorem gTxt_len (aad b : List UInt8) : (gTxt aad b).length = 16 * gN aad b := by
  unfold gTxt gN
  have h1 := gfill_len aad.length
  have h2 := gfill_len b.length
  have h3 := wr_len (UInt64.ofNat (8 * aad.length), UInt64.ofNat (8 * b.length))
  simp only [List.length_append]
  omega
/-- the sums of both sides -/
theorem ga_all (h : El) (aad b : List UInt8) :
    pmul (tb h) fl (xr (ld (wr (UInt64.ofNat (8 * aad.length), UInt64.ofNat (8 * b.length)))) (gaB (tb h) fl (gaB (tb h) fl z0 aad) b)) = ghSt h (gTxt aad b) (gN aad b) := by
  obtain ⟨L, hL⟩ : ∃ L, L = wr (UInt64.ofNat (8 * aad.length), UInt64.ofNat (8 * b.length)) := ⟨_, rfl⟩
  have hLl : L.length = 16 := by rw [hL]; exact wr_len _
  have h1 := gfill_len aad.length
  have h2 := gfill_len b.length
  have p1 := ga_part h [] aad ((b ++ gfill b.length) ++ L) z0 (n := 0) rfl rfl ((aad.length + 15) / 16) (Nat.le_refl _)
  have hA : (aad ++ gfill aad.length).length = 16 * ((aad.length + 15) / 16) := by rw [List.length_append, h1]; omega
  have e1 : [] ++ (aad ++ gfill aad.length) ++ ((b ++ gfill b.length) ++ L) = aad ++ gfill aad.length ++ (b ++ gfill b.length) ++ L := by
    rw [List.nil_append, List.append_assoc (aad ++ gfill aad.length)]
  rw [e1, Nat.zero_add] at p1
  have p2 := ga_part h (aad ++ gfill aad.length) b L (gaB (tb h) fl z0 aad) (n := (aad.length + 15) / 16) hA p1 ((b.length + 15) / 16) (Nat.le_refl _)
  have hT : gTxt aad b = aad ++ gfill aad.length ++ (b ++ gfill b.length) ++ L := by unfold gTxt; rw [hL]
  rw [← hL, hT]
  show _ = gmul h (xr (ghSt h _ ((aad.length + 15) / 16 + (b.length + 15) / 16)) (ld ((List.drop (16 * ((aad.length + 15) / 16 + (b.length + 15) / 16)) _).take 16)))
  rw [← p2, pmul_eq, xr_comm]
  have hd : List.drop (16 * ((aad.length + 15) / 16 + (b.length + 15) / 16)) (aad ++ gfill aad.length ++ (b ++ gfill b.length) ++ L) = L := by
    apply List.drop_left'
    simp only [List.length_append]
    omega
  rw [hd, List.take_of_length_le (by omega)]
  rfl
end Go.Sym.Gcm

namespace Go.Sym.A
open Go Go.Proofs.Try Go.Sym.Lp Go.Sym.Gcm
set_option maxRecDepth 100000
attribute [local irreducible] ldE wrSt
/-- the orders of the drawn regions of gcm.load -/
def pl67 : List (Nat × List PStep) := [(5, [⟨0, []⟩, ⟨1, []⟩, ⟨2, []⟩, ⟨3, [0, 1, 2]⟩, ⟨4, [0, 1, 2, 3]⟩, ⟨5, [0, 1, 2]⟩, ⟨6, [0, 1, 2]⟩, ⟨7, [0, 1, 2]⟩, ⟨8, []⟩, ⟨9, []⟩, ⟨10, []⟩]), (6, [⟨0, []⟩, ⟨1, []⟩, ⟨2, []⟩, ⟨3, [0, 1, 2]⟩, ⟨4, [0, 1, 2, 3]⟩, ⟨5, [0, 1, 2, 3]⟩, ⟨6, [0, 1, 2]⟩, ⟨7, [0, 1, 2]⟩, ⟨8, [0, 1, 2]⟩, ⟨9, []⟩, ⟨10, []⟩, ⟨11, []⟩])]
/-- the orders of the drawn regions of gcm.element.half -/
def pl98 : List (Nat × List PStep) := []
/-- the orders of the drawn regions of gcm.element.bytes -/
def pl71 : List (Nat × List PStep) := [(5, [⟨0, []⟩, ⟨1, [0]⟩, ⟨2, [0]⟩, ⟨3, [0, 1, 2]⟩, ⟨4, [0, 1, 2]⟩, ⟨5, [0, 1, 2, 3, 4]⟩, ⟨6, [0, 1, 2, 3, 4]⟩, ⟨7, [0, 1, 2, 3, 4]⟩, ⟨8, [0, 1, 2]⟩, ⟨9, [0, 1, 2]⟩, ⟨10, [0, 1, 2, 3, 4, 5, 6, 7, 8, 9]⟩, ⟨11, [0, 1, 2, 3, 4, 5, 6, 7, 8, 9]⟩, ⟨12, [0, 1, 2, 3, 4, 5, 6, 7, 8, 9, 10, 11]⟩, ⟨13, [0, 1, 2, 3, 4, 5, 6, 7, 8, 9, 10, 11]⟩, ⟨14, [0, 1, 2, 3, 4, 5, 6, 7, 8, 9, 10, 11]⟩, ⟨15, [0, 1, 2, 3, 4, 5, 6, 7, 8, 9]⟩, ⟨16, [0, 1, 2, 3, 4, 5, 6, 7, 8, 9]⟩, ⟨17, [1, 2, 10, 11, 12, 13, 14, 15, 16]⟩, ⟨18, [1, 2, 10, 11, 12, 13, 14, 15, 16]⟩, ⟨19, []⟩, ⟨20, []⟩])]
def tyGcm : List (Nat × TyI) := [(3, ty3), (4, ty4), (5, ty5), (9, ty9), (34, ty34), (91, ty91), (93, ty93), (35, ty35), (103, ty103), (106, ty106), (117, ty117), (111, ty111), (114, ty114), (115, ty115), (109, ty109), (67, ty67), (100, ty100), (147, ty147), (145, ty145), (143, ty143)]
theorem tyGcm_ok : ∀ t i, look tyGcm t = some i → TyOK prog t i := (tyok_cons ty3_ok (tyok_cons ty4_ok (tyok_cons ty5_ok (tyok_cons ty9_ok (tyok_cons ty34_ok (tyok_cons ty91_ok (tyok_cons ty93_ok (tyok_cons ty35_ok (tyok_cons ty103_ok (tyok_cons ty106_ok (tyok_cons ty117_ok (tyok_cons ty111_ok (tyok_cons ty114_ok (tyok_cons ty115_ok (tyok_cons ty109_ok (tyok_cons ty67_ok (tyok_cons ty100_ok (tyok_cons ty147_ok (tyok_cons ty145_ok (tyok_cons ty143_ok tyok_nil))))))))))))))))))))

def gloadS : Spec := fun args hp K => match args, hp with
  | [.sl 0 0 0 o n c], [.mk t [.arr8 m l]] => Pre (16 ≤ n ∧ off o + n ≤ l.length) (K (.agg [.u64 (ld ((l.drop (off o)).take 16)).1, .u64 (ld ((l.drop (off o)).take 16)).2]) [.mk t [.arr8 m l]])
  | _, _ => False
theorem gload_s : SoundC prog 67 gloadS := by
  refine sound_f tyGcm_ok fnok_nil rfl func67 rfl call67 (D := pl67) ?_ ?_
  · intro args hp K h
    unfold gloadS at h
    split at h
    · exact Nat.le_of_ble_eq_true rfl
    · exact h.elim
  · intro args hp K h
    unfold gloadS at h
    split at h
    · rename_i o n c t m l
      obtain ⟨⟨hn, hl⟩, h⟩ := pre_e h
      repeat ((conv => whnf); first | refine pre_a ?_ | refine cond_ta ?_ | refine cond_fa ?_ | refine same_i ?_)
      conv => whnf
      refine loop_h (Ix (8)) (fun q => ⟨[(0, .sl 0 0 0 o n c), (2, .ptr 1 0 0 []), (3, .ptr 2 0 0 []), (5, .int q.i)], [.mk t [.arr8 m l], .mk 106 [.u64 0, .u64 0], .mk 106 [.u64 (ldE ((l.drop (off o)).take 16) q.i).1, .u64 (ldE ((l.drop (off o)).take 16) q.i).2]]⟩) (fun q => (8) - q.i) ⟨0, Nat.zero_le _⟩ [0, 1, 2] ?_ ?_
      · repeat ((conv => whnf); refine same_i ?_)
        conv => whnf
        refine same_q (congrArg (fun e : El => SV.agg [SV.u64 e.1, SV.u64 e.2]) (show z0 = ldE _ 0 by unfold ldE; rfl)) ?_
        repeat ((conv => whnf); refine same_i ?_)
        exact trivial
      · intro q
        have hi := q.hi
        have hA : off (addO o ((q.i : Int)).toNat ty5.sz) = off o + q.i := by rw [off_addO]; show off o + ((q.i : Int)).toNat * 1 = _; omega
        have hB : off (addO o ((8 : Int) + (q.i : Int)).toNat ty5.sz) = off o + (8 + q.i) := by rw [off_addO]; show off o + ((8 : Int) + (q.i : Int)).toNat * 1 = _; omega
        by_cases h4 : q.i < 8
        · repeat ((conv => whnf); first | refine pre_a ?_ | refine cond_ta ?_ | refine cond_fa ?_ | refine same_i ?_)
          conv => whnf
          refine ⟨⟨q.i + 1, h4⟩, [0, 1, 2], by show (8) - (q.i + 1) < (8) - q.i; omega, ?_⟩
          repeat ((conv => whnf); refine same_i ?_)
          conv => whnf
          refine same_q (congrArg (fun e : El => SV.agg [SV.u64 e.1, SV.u64 e.2]) (show (_, _) = ldE ((l.drop (off o)).take 16) (q.i + 1) by simp only [ldE]; rw [part_get (by omega), part_get (by omega), ← hA, ← hB]; rfl)) ?_
          repeat ((conv => whnf); refine same_i ?_)
          exact trivial
        · have e4 : q.i = 8 := by omega
          rw [e4]
          repeat ((conv => whnf); first | refine pre_a ?_ | refine cond_ta ?_ | refine cond_fa ?_ | refine same_i ?_)
          conv => whnf
          refine final_h (hp' := [.mk t [.arr8 m l]]) [0] h ?_
          repeat ((conv => whnf); refine same_i ?_)
          exact trivial
    · exact h.elim
def ghalfS : Spec := fun args hp K => match args, hp with
  | [.agg [.u64 a, .u64 b]], [] => K (.agg [.u64 (half (a, b)).1, .u64 (half (a, b)).2]) []
  | _, _ => False
theorem ghalf_s : SoundC prog 98 ghalfS := by
  refine sound_f tyGcm_ok fnok_nil rfl func98 rfl call98 (D := pl98) ?_ ?_
  · intro args hp K h
    unfold ghalfS at h
    split at h
    · exact Nat.le_of_ble_eq_true rfl
    · exact h.elim
  · intro args hp K h
    unfold ghalfS at h
    split at h
    · rename_i a b
      repeat ((conv => whnf); first | refine pre_a ?_ | refine cond_ta ?_ | refine cond_fa ?_ | refine same_i ?_)
      conv => whnf
      conv => whnf
      refine final_h (hp' := []) [] h ?_
      repeat ((conv => whnf); refine same_i ?_)
      exact trivial
    · exact h.elim
def gbytesS : Spec := fun args hp K => match args, hp with
  | [.agg [.u64 a, .u64 b]], [] => K (.arr8 16 (wr (a, b))) []
  | _, _ => False
theorem gbytes_s : SoundC prog 71 gbytesS := by
  refine sound_f tyGcm_ok fnok_nil rfl func71 rfl call71 (D := pl71) ?_ ?_
  · intro args hp K h
    unfold gbytesS at h
    split at h
    · exact Nat.le_of_ble_eq_true rfl
    · exact h.elim
  · intro args hp K h
    unfold gbytesS at h
    split at h
    · rename_i a b
      repeat ((conv => whnf); first | refine pre_a ?_ | refine cond_ta ?_ | refine cond_fa ?_ | refine same_i ?_)
      conv => whnf
      refine loop_h (Ix (8)) (fun q => ⟨[(0, .agg [.u64 a, .u64 b]), (1, .ptr 0 0 0 []), (2, .ptr 1 0 0 []), (3, .ptr 2 0 0 []), (5, .int q.i)], [.mk 106 [.u64 a, .u64 b], .mk 103 [.arr8 16 (List.replicate 16 0)], .mk 103 [.arr8 16 (wrSt (a, b) q.i)]]⟩) (fun q => (8) - q.i) ⟨0, Nat.zero_le _⟩ [0, 1, 2] ?_ ?_
      · repeat ((conv => whnf); refine same_i ?_)
        conv => whnf
        refine same_q (congrArg (fun x => SV.agg [SV.arr8 16 x]) (show List.replicate 16 0 = wrSt (a, b) 0 by unfold wrSt; rfl)) ?_
        repeat ((conv => whnf); refine same_i ?_)
        exact trivial
      · intro q
        have hi := q.hi
        have hl := wrSt_len (a, b) q.i
        have hA : off (addO [] ((q.i : Int)).toNat ty5.sz) = q.i := by rw [off_addO]; show 0 + ((q.i : Int)).toNat * 1 = _; omega
        have hB : off (addO [] ((8 : Int) + (q.i : Int)).toNat ty5.sz) = (8 + q.i) := by rw [off_addO]; show 0 + ((8 : Int) + (q.i : Int)).toNat * 1 = _; omega
        have hK : ((56 : Int) - 8 * (q.i : Int)).toNat = 56 - 8 * q.i := by omega
        by_cases h4 : q.i < 8
        · repeat ((conv => whnf); first | refine pre_a ?_ | refine cond_ta ?_ | refine cond_fa ?_ | refine same_i ?_)
          conv => whnf
          refine ⟨⟨q.i + 1, h4⟩, [0, 1, 2], by show (8) - (q.i + 1) < (8) - q.i; omega, ?_⟩
          repeat ((conv => whnf); refine same_i ?_)
          conv => whnf
          refine same_q (congrArg (fun x => SV.agg [SV.arr8 16 x]) (show _ = wrSt (a, b) (q.i + 1) by rw [wrSt_s, hA, hB, hK])) ?_
          repeat ((conv => whnf); refine same_i ?_)
          exact trivial
        · have e4 : q.i = 8 := by omega
          rw [e4]
          repeat ((conv => whnf); first | refine pre_a ?_ | refine cond_ta ?_ | refine cond_fa ?_ | refine same_i ?_)
          conv => whnf
          refine final_h (hp' := []) [] h ?_
          repeat ((conv => whnf); refine same_i ?_)
          exact trivial
    · exact h.elim
end Go.Sym.A

namespace Go.Sym.A
open Go Go.Proofs.Try Go.Sym.Lp Go.Sym.Gcm
set_option maxRecDepth 100000
attribute [local irreducible] ldE wrSt ld half hf4 fold
/-- the orders of the drawn regions of gcm.newSum -/
def pl69 : List (Nat × List PStep) := [(2, [⟨0, []⟩, ⟨1, [0]⟩, ⟨2, [0]⟩, ⟨3, []⟩]), (9, [⟨0, []⟩, ⟨1, [0]⟩, ⟨2, [1]⟩, ⟨3, [1]⟩, ⟨4, []⟩, ⟨5, []⟩, ⟨6, []⟩, ⟨7, [0, 1, 2, 3, 4, 5, 6]⟩, ⟨8, [0, 1, 2, 3, 4, 5, 6]⟩, ⟨9, []⟩, ⟨10, [1, 2, 3, 4, 5, 6, 7, 8, 9]⟩, ⟨11, [1, 2, 3, 4, 5, 6, 7, 8, 9]⟩, ⟨12, []⟩, ⟨13, []⟩, ⟨14, []⟩]), (10, [⟨0, []⟩, ⟨1, [0]⟩, ⟨2, [1]⟩, ⟨3, [1]⟩, ⟨4, []⟩, ⟨5, []⟩, ⟨6, []⟩, ⟨7, [0, 1, 2, 3, 4, 5, 6]⟩, ⟨8, [0, 1, 2, 3, 4, 5, 6]⟩, ⟨9, []⟩, ⟨10, [1, 2, 3, 4, 5, 6, 7, 8, 9]⟩, ⟨11, [1, 2, 3, 4, 5, 6, 7, 8, 9]⟩, ⟨12, []⟩, ⟨13, []⟩, ⟨14, []⟩]), (22, [⟨0, []⟩, ⟨1, [0]⟩, ⟨2, [0, 1]⟩, ⟨3, [0, 1]⟩, ⟨4, [1, 2, 3]⟩, ⟨5, [1, 2, 3]⟩, ⟨6, []⟩, ⟨7, []⟩])]
/-- the orders of the drawn regions of gcm.sum.add -/
def pl72 : List (Nat × List PStep) := [(1, [⟨0, []⟩, ⟨1, []⟩, ⟨2, [0, 1]⟩, ⟨3, [0, 1]⟩, ⟨4, [0, 1]⟩, ⟨5, [0, 1]⟩, ⟨6, [0, 1]⟩, ⟨7, []⟩, ⟨8, []⟩, ⟨9, []⟩]), (2, [⟨0, []⟩, ⟨1, []⟩, ⟨2, [0, 1]⟩, ⟨3, [0, 1]⟩, ⟨4, [0, 1]⟩, ⟨5, [0, 1]⟩, ⟨6, [0, 1]⟩, ⟨7, []⟩, ⟨8, []⟩, ⟨9, []⟩]), (10, [⟨0, []⟩, ⟨1, []⟩, ⟨2, []⟩, ⟨3, [0, 1, 2]⟩, ⟨4, [0, 1, 2, 3]⟩, ⟨5, [0, 1, 2, 3]⟩, ⟨6, [0, 1, 2, 3]⟩, ⟨7, [0, 1, 2, 4, 5, 6]⟩, ⟨8, [0, 1, 2, 4, 5, 6]⟩, ⟨9, [0, 1, 2]⟩, ⟨10, [0, 1, 2]⟩, ⟨11, []⟩, ⟨12, [0, 1, 2, 3, 4, 5, 6, 7, 8, 9, 10, 11]⟩, ⟨13, [0, 1, 2, 3, 4, 5, 6, 7, 8, 9, 10, 11]⟩, ⟨14, [0, 1, 2, 3, 4, 5, 6, 7, 8, 9, 10, 11]⟩, ⟨15, [0, 1, 2, 3, 4, 5, 6, 7, 8, 9, 10, 11, 12, 13, 14]⟩, ⟨16, [0, 1, 2, 3, 4, 5, 6, 7, 8, 9, 10, 11, 12, 13, 14]⟩, ⟨17, [0, 1, 2, 3, 4, 5, 6, 7, 8, 9, 10, 11, 12, 13, 14]⟩, ⟨18, [0, 1, 2, 3, 4, 5, 6, 7, 8, 9, 10, 11]⟩, ⟨19, []⟩, ⟨20, []⟩]), (11, [⟨0, []⟩, ⟨1, []⟩, ⟨2, [0, 1]⟩, ⟨3, [0, 1, 2]⟩, ⟨4, [0, 1, 3]⟩, ⟨5, [0, 1, 3]⟩, ⟨6, [0, 1]⟩, ⟨7, [0, 1]⟩, ⟨8, [0, 1]⟩, ⟨9, []⟩, ⟨10, []⟩, ⟨11, []⟩]), (12, [⟨0, []⟩, ⟨1, []⟩, ⟨2, [0, 1]⟩, ⟨3, [0, 1, 2]⟩, ⟨4, [0, 1, 3]⟩, ⟨5, [0, 1, 3]⟩, ⟨6, [0, 1]⟩, ⟨7, [0, 1]⟩, ⟨8, [0, 1]⟩, ⟨9, []⟩, ⟨10, []⟩, ⟨11, []⟩])]

theorem and_small : ∀ k, k < 4 → ∀ i : Nat, i < 16 → ibits .and (i : Int) ((8 / 2 ^ k : Nat) : Int) = ((i &&& 8 / 2 ^ k : Nat) : Int) := by decide +kernel
theorem u64_int (n : Nat) : UInt64.ofInt (n : Int) = UInt64.ofNat n := by
  apply UInt64.toNat_inj.1
  unfold UInt64.ofInt
  rw [UInt64.toNat_ofNat', UInt64.toNat_ofNat']
  omega
def gnewS : Spec := fun args hp K => match args, hp with
  | [.agg [.u64 a, .u64 b]], [] => K (.ptr 0 0 0 []) [.mk 117 [.arr64 32 (tb (a, b)), .arr64 16 fl, .u64 0, .u64 0]]
  | _, _ => False
set_option maxHeartbeats 4000000 in
theorem gnew_s : SoundC prog 69 gnewS := by
  refine sound_f tyGcm_ok (fnok_cons ghalf_s fnok_nil) rfl func69 rfl call69 (D := pl69) ?_ ?_
  · intro args hp K h
    unfold gnewS at h
    split at h
    · exact Nat.le_of_ble_eq_true rfl
    · exact h.elim
  · intro args hp K h
    unfold gnewS at h
    split at h
    · rename_i a b
      repeat ((conv => whnf); first | refine pre_a ?_ | refine cond_ta ?_ | refine cond_fa ?_ | refine same_i ?_)
      conv => whnf
      refine loop_h (Ix (4)) (fun q => ⟨[(3, .ptr 1 0 0 []), (4, .int ((8 / 2 ^ q.i : Nat) : Int)), (5, .ptr 2 0 0 [])], [.mk 106 [.u64 a, .u64 b], .mk 117 [.arr64 32 (tbO (a, b) q.i), .arr64 16 (List.replicate 16 0), .u64 0, .u64 0], .mk 106 [.u64 (Nat.repeat half q.i (a, b)).1, .u64 (Nat.repeat half q.i (a, b)).2]]⟩) (fun q => (4) - q.i) ⟨0, Nat.zero_le _⟩ [0, 1, 2] ?_ ?_
      · repeat ((conv => whnf); refine same_i ?_)
        exact trivial
      · intro q
        have hi := q.hi
        by_cases h4 : q.i < 4
        · have hb : 0 < 8 / 2 ^ q.i := by
            have : q.i = 0 ∨ q.i = 1 ∨ q.i = 2 ∨ q.i = 3 := by omega
            rcases this with e | e | e | e <;> rw [e] <;> decide
          generalize hB : 8 / 2 ^ q.i = bit at *
          repeat ((conv => whnf); first | refine pre_a ?_ | refine cond_ta ?_ | refine cond_fa ?_ | refine same_i ?_)
          conv => whnf
          obtain ⟨bn, hbn⟩ : ∃ bn, bn = 8 / 2 ^ (q.i + 1) := ⟨_, rfl⟩
          have hb8 : bn ≤ 8 := by rw [hbn]; exact Nat.div_le_self _ _
          have hbt : (bit : Int).tdiv 2 = (bn : Int) := by
            rw [hbn, Int.tdiv_eq_ediv_of_nonneg (by omega), Nat.pow_succ, ← Nat.div_div_eq_div_mul, hB]
            omega
          have hand : ∀ i : Nat, i < 16 → ibits .and (i : Int) (bit : Int) = ((i &&& bit : Nat) : Int) := by rw [← hB]; exact and_small q.i h4
          refine loop_h (Ix (16)) (fun r => ⟨[(3, .ptr 1 0 0 []), (4, .int (bit : Int)), (5, .ptr 2 0 0 []), (18, .int r.i)], [.mk 106 [.u64 a, .u64 b], .mk 117 [.arr64 32 (tbI bit (Nat.repeat half q.i (a, b)) (tbO (a, b) q.i) r.i), .arr64 16 (List.replicate 16 0), .u64 0, .u64 0], .mk 106 [.u64 (Nat.repeat half q.i (a, b)).1, .u64 (Nat.repeat half q.i (a, b)).2]]⟩) (fun r => (16) - r.i) ⟨0, Nat.zero_le _⟩ [0, 1, 2] ?_ ?_
          · repeat ((conv => whnf); refine same_i ?_)
            exact trivial
          · intro r
            have hri := r.hi
            have hlr := (tbI_len bit (Nat.repeat half q.i (a, b)) (tbO (a, b) q.i) r.i).trans (tbO_len (a, b) q.i)
            have hA : off (addO [] ((r.i : Int)).toNat ty106.sz) = 2 * r.i := by rw [off_addO]; show 0 + ((r.i : Int)).toNat * 2 = _; omega
            have hA2 : off (addO (addO [] ((r.i : Int)).toNat ty106.sz) (0 + 1) 1) = 2 * r.i + 1 := by rw [off_addO, hA]
            by_cases h5 : r.i < 16
            · have hbb := hand r.i h5
              by_cases h6 : r.i &&& bit = 0
              · have hd : decide (ibits .and (r.i : Int) (bit : Int) ≠ 0) = false := decide_eq_false (by rw [hbb, h6]; simp)
                repeat ((conv => whnf); first | refine pre_a ?_ | refine cond_ta ?_ | refine cond_fa ?_ | refine same_i ?_ | refine pre_i (by first | exact hd) ?_ | refine cond_t (by first | exact hd) ?_ | refine cond_f (by first | exact hd) ?_)
                conv => whnf
                refine ⟨⟨r.i + 1, h5⟩, [0, 1, 2], by show (16) - (r.i + 1) < (16) - r.i; omega, ?_⟩
                repeat ((conv => whnf); refine same_i ?_)
                conv => whnf
                refine same_q (congrArg (fun x => SV.agg [SV.arr64 32 x, SV.arr64 16 (List.replicate 16 0), SV.u64 0, SV.u64 0]) (show tbI bit (Nat.repeat half q.i (a, b)) (tbO (a, b) q.i) r.i = tbI bit (Nat.repeat half q.i (a, b)) (tbO (a, b) q.i) (r.i + 1) by simp only [tbI]; rw [if_pos h6])) ?_
                repeat ((conv => whnf); refine same_i ?_)
                exact trivial
              · have hd : decide (ibits .and (r.i : Int) (bit : Int) ≠ 0) = true := decide_eq_true (by rw [hbb]; omega)
                repeat ((conv => whnf); first | refine pre_a ?_ | refine cond_ta ?_ | refine cond_fa ?_ | refine same_i ?_ | refine pre_i (by first | exact hd) ?_ | refine cond_t (by first | exact hd) ?_ | refine cond_f (by first | exact hd) ?_)
                conv => whnf
                conv => whnf
                refine ⟨⟨r.i + 1, h5⟩, [0, 1, 2], by show (16) - (r.i + 1) < (16) - r.i; omega, ?_⟩
                repeat ((conv => whnf); refine same_i ?_)
                conv => whnf
                refine same_q (congrArg (fun x => SV.agg [SV.arr64 32 x, SV.arr64 16 (List.replicate 16 0), SV.u64 0, SV.u64 0]) (show _ = tbI bit (Nat.repeat half q.i (a, b)) (tbO (a, b) q.i) (r.i + 1) by simp only [tbI]; rw [if_neg h6, hA, hA2]; rfl)) ?_
                repeat ((conv => whnf); refine same_i ?_)
                exact trivial
            · have e5 : r.i = 16 := by omega
              rw [e5]
              have hp2 : (2 : Int) ≠ 0 ∧ fits ((bit : Int).tdiv 2) := ⟨by decide, by rw [hbt]; unfold fits; omega⟩
              repeat ((conv => whnf); first | refine pre_a ?_ | refine cond_ta ?_ | refine cond_fa ?_ | refine same_i ?_)
              conv => whnf
              conv => whnf
              refine ⟨⟨q.i + 1, h4⟩, [0, 1, 3], by show (4) - (q.i + 1) < (4) - q.i; omega, ?_⟩
              repeat ((conv => whnf); refine same_i ?_)
              conv => whnf
              refine same_q (congrArg (fun x => SV.agg [SV.arr64 32 x, SV.arr64 16 (List.replicate 16 0), SV.u64 0, SV.u64 0]) (show tbI bit (Nat.repeat half q.i (a, b)) (tbO (a, b) q.i) 16 = tbI (8 / 2 ^ q.i) (Nat.repeat half q.i (a, b)) (tbO (a, b) q.i) 16 by rw [hB])) ?_
              repeat ((conv => whnf); refine same_i ?_)
              conv => whnf
              refine same_q (congrArg SV.int (show (bit : Int).tdiv 2 = ((8 / 2 ^ (q.i + 1) : Nat) : Int) by rw [hbt, hbn])) ?_
              repeat ((conv => whnf); refine same_i ?_)
              exact trivial
        · have e4 : q.i = 4 := by omega
          rw [e4]
          repeat ((conv => whnf); first | refine pre_a ?_ | refine cond_ta ?_ | refine cond_fa ?_ | refine same_i ?_)
          conv => whnf
          refine loop_h (Ix (16)) (fun r => ⟨[(3, .ptr 1 0 0 []), (55, .int r.i)], [.mk 106 [.u64 a, .u64 b], .mk 117 [.arr64 32 (tbO (a, b) 4), .arr64 16 (ovr (List.replicate 16 0) 0 fold r.i), .u64 0, .u64 0], .mk 106 [.u64 (Nat.repeat half 4 (a, b)).1, .u64 (Nat.repeat half 4 (a, b)).2]]⟩) (fun r => (16) - r.i) ⟨0, Nat.zero_le _⟩ [0, 1, 2] ?_ ?_
          · repeat ((conv => whnf); refine same_i ?_)
            exact trivial
          · intro r
            have hri := r.hi
            by_cases h5 : r.i < 16
            · have hlo := ovr_len (l := List.replicate 16 (0 : UInt64)) (a := 0) (i := r.i) (by rw [List.length_replicate]; omega) fold
              rw [List.length_replicate] at hlo
              have hI : ((r.i : Int)).toNat = r.i := Int.toNat_natCast _
              repeat ((conv => whnf); first | refine pre_a ?_ | refine cond_ta ?_ | refine cond_fa ?_ | refine same_i ?_)
              conv => whnf
              rw [u64_int]
              refine loop_h (Ix (4)) (fun s => ⟨[(3, .ptr 1 0 0 []), (55, .int r.i), (7, .int r.i), (8, .ptr 3 0 0 []), (61, .int s.i)], [.mk 106 [.u64 a, .u64 b], .mk 117 [.arr64 32 (tbO (a, b) 4), .arr64 16 (ovr (List.replicate 16 0) 0 fold r.i), .u64 0, .u64 0], .mk 106 [.u64 (Nat.repeat half 4 (a, b)).1, .u64 (Nat.repeat half 4 (a, b)).2], .mk 106 [.u64 (Nat.repeat half s.i (0, UInt64.ofNat r.i)).1, .u64 (Nat.repeat half s.i (0, UInt64.ofNat r.i)).2]]⟩) (fun s => (4) - s.i) ⟨0, Nat.zero_le _⟩ [0, 1, 2, 3] ?_ ?_
              · repeat ((conv => whnf); refine same_i ?_)
                exact trivial
              · intro s
                have hsi := s.hi
                by_cases h6 : s.i < 4
                · repeat ((conv => whnf); first | refine pre_a ?_ | refine cond_ta ?_ | refine cond_fa ?_ | refine same_i ?_)
                  conv => whnf
                  refine ⟨⟨s.i + 1, h6⟩, [0, 1, 2, 3], by show (4) - (s.i + 1) < (4) - s.i; omega, ?_⟩
                  repeat ((conv => whnf); refine same_i ?_)
                  exact trivial
                · have e6 : s.i = 4 := by omega
                  rw [e6]
                  repeat ((conv => whnf); first | refine pre_a ?_ | refine cond_ta ?_ | refine cond_fa ?_ | refine same_i ?_)
                  conv => whnf
                  refine ⟨⟨r.i + 1, h5⟩, [0, 1, 2], by show (16) - (r.i + 1) < (16) - r.i; omega, ?_⟩
                  repeat ((conv => whnf); refine same_i ?_)
                  conv => whnf
                  refine same_q (congrArg (fun x => SV.agg [SV.arr64 32 (tbO (a, b) 4), SV.arr64 16 x, SV.u64 0, SV.u64 0]) (ovr_step (by rw [List.length_replicate]; omega) ?hv ?hkk)) ?_
                  case hkk => show ((r.i : Int)).toNat = 0 + r.i; omega
                  case hv => unfold fold hf4; rfl
                  repeat ((conv => whnf); refine same_i ?_)
                  exact trivial
            · have e5 : r.i = 16 := by omega
              have hfl : ovr (List.replicate 16 0) 0 fold 16 = fl := ovr_fin List.length_replicate fold
              rw [e5, hfl]
              repeat ((conv => whnf); first | refine pre_a ?_ | refine cond_ta ?_ | refine cond_fa ?_ | refine same_i ?_)
              conv => whnf
              conv => whnf
              refine final_h (hp' := [.mk 117 [.arr64 32 (tb (a, b)), .arr64 16 fl, .u64 0, .u64 0]]) [1] h ?_
              repeat ((conv => whnf); refine same_i ?_)
              exact trivial
    · exact h.elim
def gaddS : Spec := fun args hp K => match args, hp with
  | [.ptr 0 0 0 [], .sl 1 0 0 o n c], [.mk t0 [.arr64 32 T, .arr64 16 F, .u64 y1, .u64 y2], .mk t [.arr8 m l]] => Pre (T.length = 32 ∧ F.length = 16 ∧ 16 ≤ n ∧ off o + n ≤ l.length)
      (K (.tup []) [.mk t0 [.arr64 32 T, .arr64 16 F, .u64 (pmul T F (xr (ld ((l.drop (off o)).take 16)) (y1, y2))).1, .u64 (pmul T F (xr (ld ((l.drop (off o)).take 16)) (y1, y2))).2], .mk t [.arr8 m l]])
  | _, _ => False
set_option maxHeartbeats 4000000 in
theorem gadd_s : SoundC prog 72 gaddS := by
  refine sound_f tyGcm_ok (fnok_cons gload_s fnok_nil) rfl func72 rfl call72 (D := pl72) ?_ ?_
  · intro args hp K h
    unfold gaddS at h
    split at h
    · exact Nat.le_of_ble_eq_true rfl
    · exact h.elim
  · intro args hp K h
    unfold gaddS at h
    split at h
    · rename_i o n c t0 T F y1 y2 t m l
      obtain ⟨⟨hT, hF, hn, hl⟩, h⟩ := pre_e h
      repeat ((conv => whnf); first | refine pre_a ?_ | refine cond_ta ?_ | refine cond_fa ?_ | refine same_i ?_)
      conv => whnf
      obtain ⟨X, hX⟩ : ∃ X, X = xr (ld ((l.drop (off o)).take 16)) (y1, y2) := ⟨_, rfl⟩
      have hX1 : (ld ((l.drop (off o)).take 16)).1 ^^^ y1 = X.1 := by rw [hX]; rfl
      have hX2 : (ld ((l.drop (off o)).take 16)).2 ^^^ y2 = X.2 := by rw [hX]; rfl
      rw [← hX] at h
      rw [hX1, hX2]
      refine loop_h (Ix (32)) (fun q => ⟨[(0, .ptr 0 0 0 []), (4, .ptr 2 0 0 []), (5, .ptr 3 0 0 []), (28, .int q.i)], [.mk t0 [.arr64 32 T, .arr64 16 F, .u64 y1, .u64 y2], .mk t [.arr8 m l], .mk 106 [.u64 X.1, .u64 X.2], .mk 106 [.u64 (pmSt T F X q.i).1, .u64 (pmSt T F X q.i).2]]⟩) (fun q => (32) - q.i) ⟨0, Nat.zero_le _⟩ [0, 1, 2, 3] ?_ ?_
      · repeat ((conv => whnf); refine same_i ?_)
        exact trivial
      · intro q
        have hi := q.hi
        have hm : (q.i : Int).tmod 16 = ((q.i % 16 : Nat) : Int) := by rw [Int.tmod_eq_emod_of_nonneg (by omega)]; omega
        have hk : (4 * (q.i : Int).tmod 16).toNat = 4 * (q.i % 16) := by omega
        have hP : ((pmSt T F X q.i).2 &&& UInt64.ofNat 15).toNat < 16 := by have := and15 (pmSt T F X q.i).2; exact this ▸ Nat.mod_lt _ (by decide)
        by_cases h4 : q.i < 32
        · by_cases h16 : 16 ≤ q.i
          · have hdg : X.1 >>> UInt64.ofNat (4 * (q.i : Int).tmod 16).toNat &&& UInt64.ofNat 15 = digit X q.i := by unfold digit; rw [if_pos h16, hk]; rfl
            have hdl := digit_lt X q.i
            rw [← hdg] at hdl
            have hO : off (addO [] (X.1 >>> UInt64.ofNat (4 * (q.i : Int).tmod 16).toNat &&& UInt64.ofNat 15).toNat ty106.sz) = 2 * (X.1 >>> UInt64.ofNat (4 * (q.i : Int).tmod 16).toNat &&& UInt64.ofNat 15).toNat := by rw [off_addO]; show 0 + _ * 2 = _; omega
            have hO2 : off (addO (addO [] (X.1 >>> UInt64.ofNat (4 * (q.i : Int).tmod 16).toNat &&& UInt64.ofNat 15).toNat ty106.sz) (0 + 1) 1) = 2 * (X.1 >>> UInt64.ofNat (4 * (q.i : Int).tmod 16).toNat &&& UInt64.ofNat 15).toNat + 1 := by rw [off_addO, hO]
            repeat ((conv => whnf); first | refine pre_a ?_ | refine cond_ta ?_ | refine cond_fa ?_ | refine same_i ?_)
            conv => whnf
            conv => whnf
            refine ⟨⟨q.i + 1, h4⟩, [0, 1, 2, 3], by show (32) - (q.i + 1) < (32) - q.i; omega, ?_⟩
            repeat ((conv => whnf); refine same_i ?_)
            conv => whnf
            refine same_q (congrArg (fun e : El => SV.agg [SV.u64 e.1, SV.u64 e.2]) (show (_, _) = pmSt T F X (q.i + 1) by simp only [pmSt, stp]; rw [← hdg, hO, hO2]; rfl)) ?_
            repeat ((conv => whnf); refine same_i ?_)
            exact trivial
          · have hdg : X.2 >>> UInt64.ofNat (4 * (q.i : Int).tmod 16).toNat &&& UInt64.ofNat 15 = digit X q.i := by unfold digit; rw [if_neg h16, hk]; rfl
            have hdl := digit_lt X q.i
            rw [← hdg] at hdl
            have hO : off (addO [] (X.2 >>> UInt64.ofNat (4 * (q.i : Int).tmod 16).toNat &&& UInt64.ofNat 15).toNat ty106.sz) = 2 * (X.2 >>> UInt64.ofNat (4 * (q.i : Int).tmod 16).toNat &&& UInt64.ofNat 15).toNat := by rw [off_addO]; show 0 + _ * 2 = _; omega
            have hO2 : off (addO (addO [] (X.2 >>> UInt64.ofNat (4 * (q.i : Int).tmod 16).toNat &&& UInt64.ofNat 15).toNat ty106.sz) (0 + 1) 1) = 2 * (X.2 >>> UInt64.ofNat (4 * (q.i : Int).tmod 16).toNat &&& UInt64.ofNat 15).toNat + 1 := by rw [off_addO, hO]
            repeat ((conv => whnf); first | refine pre_a ?_ | refine cond_ta ?_ | refine cond_fa ?_ | refine same_i ?_)
            conv => whnf
            conv => whnf
            refine ⟨⟨q.i + 1, h4⟩, [0, 1, 2, 3], by show (32) - (q.i + 1) < (32) - q.i; omega, ?_⟩
            repeat ((conv => whnf); refine same_i ?_)
            conv => whnf
            refine same_q (congrArg (fun e : El => SV.agg [SV.u64 e.1, SV.u64 e.2]) (show (_, _) = pmSt T F X (q.i + 1) by simp only [pmSt, stp]; rw [← hdg, hO, hO2]; rfl)) ?_
            repeat ((conv => whnf); refine same_i ?_)
            exact trivial
        · have e4 : q.i = 32 := by omega
          rw [e4]
          have hpm : pmSt T F X 32 = pmul T F X := by unfold pmul; rfl
          rw [hpm]
          repeat ((conv => whnf); first | refine pre_a ?_ | refine cond_ta ?_ | refine cond_fa ?_ | refine same_i ?_)
          conv => whnf
          refine final_h (hp' := [.mk t0 [.arr64 32 T, .arr64 16 F, .u64 (pmul T F X).1, .u64 (pmul T F X).2], .mk t [.arr8 m l]]) [0, 1] h ?_
          repeat ((conv => whnf); refine same_i ?_)
          exact trivial
    · exact h.elim
end Go.Sym.A

/-
  GCM: a text's last block. Plain laws. No program in sight.
-/
namespace Go.Sym.Gcm
open Go.Sym Go.Sym.Lp
theorem splice_pad {v : List UInt8} (hv : v.length ≤ 16) : splice (List.replicate 16 0) (off []) (List.take (min v.length 16) v) = pad16 v := by
  have h1 : List.take (min v.length 16) v = v := List.take_of_length_le (by omega)
  rw [h1]
  unfold splice pad16
  show List.take 0 _ ++ v ++ List.drop (0 + v.length) _ = _
  rw [List.take_zero, List.nil_append, List.drop_replicate, Nat.zero_add]
theorem pad16_len {v : List UInt8} (hv : v.length ≤ 16) : (pad16 v).length = 16 := by
  unfold pad16; rw [List.length_append, List.length_replicate]; omega
theorem blk_full {l : List UInt8} {n a : Nat} (h : a + 16 ≤ n) (hl : n ≤ l.length) : pad16 (((l.take n).drop a).take 16) = (l.drop a).take 16 := by
  rw [List.drop_take, List.take_take, Nat.min_eq_left (by omega)]
  exact pad16_full (by rw [List.length_take, List.length_drop]; omega)
theorem ga_next (T F : List UInt64) (y : El) {l : List UInt8} {n t : Nat} (h : 16 * t + 16 ≤ n) (hl : n ≤ l.length) :
    gaSt T F y (l.take n) (t + 1) = pmul T F (xr (ld ((l.drop (16 * t)).take 16)) (gaSt T F y (l.take n) t)) := by
  rw [gaSt, blk_full h hl]
theorem ga_last (T F : List UInt64) (y : El) {l : List UInt8} {n t k : Nat} (h : k + 16 * t = n) (h0 : 0 < k) (hk : k < 16) (hl : n ≤ l.length) :
    gaB T F y (l.take n) = pmul T F (xr (ld (pad16 ((l.drop (16 * t)).take k))) (gaSt T F y (l.take n) t)) := by
  unfold gaB
  rw [List.length_take, show (min n l.length + 15) / 16 = t + 1 by omega, gaSt, List.drop_take, List.take_take, show min 16 (n - 16 * t) = k by omega]
theorem ga_none (T F : List UInt64) (y : El) {l : List UInt8} {n t : Nat} (h : 16 * t = n) (hl : n ≤ l.length) : gaB T F y (l.take n) = gaSt T F y (l.take n) t := by
  unfold gaB
  rw [List.length_take, show (min n l.length + 15) / 16 = t by omega]
end Go.Sym.Gcm

namespace Go.Sym.A
open Go Go.Proofs.Try Go.Sym.Lp Go.Sym.Gcm
set_option maxRecDepth 100000
attribute [local irreducible] ldE wrSt ld half hf4 fold pmul pad16
/-- the orders of the drawn regions of gcm.sum.all -/
def pl70 : List (Nat × List PStep) := []
/-- the orders of the drawn regions of gcm.counter -/
def pl68 : List (Nat × List PStep) := []

structure Gs (n : Nat) where
  t : Nat
  x : Nat
  k : Nat
  c : Nat
  hn : k + 16 * t = n
  hx : 0 < k → x = 16 * t
  hc : k ≤ c
def gallS : Spec := fun args hp K => match args, hp with
  | [.ptr 0 0 0 [], .sl 1 0 0 [] n c], [.mk t0 [.arr64 32 T, .arr64 16 F, .u64 y1, .u64 y2], .mk t [.arr8 m l]] => Pre (T.length = 32 ∧ F.length = 16 ∧ n ≤ l.length ∧ n ≤ c)
      (K (.tup []) [.mk t0 [.arr64 32 T, .arr64 16 F, .u64 (gaB T F (y1, y2) (l.take n)).1, .u64 (gaB T F (y1, y2) (l.take n)).2], .mk t [.arr8 m l]])
  | _, _ => False
set_option maxHeartbeats 4000000 in
theorem gall_s : SoundC prog 70 gallS := by
  refine sound_f tyGcm_ok (fnok_cons gadd_s fnok_nil) rfl func70 rfl call70 (D := pl70) ?_ ?_
  · intro args hp K h
    unfold gallS at h
    split at h
    · exact Nat.le_of_ble_eq_true rfl
    · exact h.elim
  · intro args hp K h
    unfold gallS at h
    split at h
    · rename_i n c t0 T F y1 y2 t m l
      obtain ⟨⟨hT, hF, hl, hc⟩, h⟩ := pre_e h
      have hB : (l.take n).length = n := by rw [List.length_take]; omega
      repeat ((conv => whnf); first | refine pre_a ?_ | refine cond_ta ?_ | refine cond_fa ?_ | refine same_i ?_)
      conv => whnf
      refine loop_h (Option (Gs n)) (fun q => match q with
        | none => ⟨[(0, .ptr 0 0 0 []), (1, .sl 1 0 0 [] n c)], [.mk t0 [.arr64 32 T, .arr64 16 F, .u64 y1, .u64 y2], .mk t [.arr8 m l]]⟩
        | some s => ⟨[(0, .ptr 0 0 0 []), (1, .sl 1 0 0 [(s.x, 1)] s.k s.c)], [.mk t0 [.arr64 32 T, .arr64 16 F, .u64 (gaSt T F (y1, y2) (l.take n) s.t).1, .u64 (gaSt T F (y1, y2) (l.take n) s.t).2], .mk t [.arr8 m l]]⟩)
        (fun q => match q with | none => n + 1 | some s => s.k) none [0, 1] ?_ ?_
      · repeat ((conv => whnf); refine same_i ?_)
        exact trivial
      · intro q
        cases q with
        | none =>
          by_cases h4 : 16 ≤ n
          · have hp4 : T.length = 32 ∧ F.length = 16 ∧ 16 ≤ n ∧ off [] + n ≤ l.length := ⟨hT, hF, h4, by show 0 + _ ≤ _; omega⟩
            repeat ((conv => whnf); first | refine pre_a ?_ | refine cond_ta ?_ | refine cond_fa ?_ | refine same_i ?_)
            conv => whnf
            rw [show pmul T F (xr (ld ((l.drop (off [])).take 16)) (y1, y2)) = gaSt T F (y1, y2) (l.take n) (0 + 1) by rw [ga_next T F (y1, y2) (by omega) hl]; rfl]
            refine ⟨some ⟨0 + 1, slO c 16, n - 16, c - 16, by omega, fun h0 => by
              have hne : c ≠ 16 := by omega
              rw [slO_eq hne], by omega⟩, [0, 1], by show n - 16 < n + 1; omega, ?_⟩
            repeat ((conv => whnf); refine same_i ?_)
            exact trivial
          · by_cases h0 : 0 < n
            · have hvl : (List.take n (List.drop (off []) l)).length = n := by rw [List.length_take, List.length_drop]; show min n (l.length - 0) = n; omega
              have hsp := splice_pad (v := List.take n (List.drop (off []) l)) (by omega)
              have hpl := pad16_len (v := List.take n (List.drop (off []) l)) (by omega)
              have hpp : T.length = 32 ∧ F.length = 16 ∧ 16 ≤ 16 ∧ off [] + 16 ≤ (pad16 (List.take n (List.drop (off []) l))).length := ⟨hT, hF, by decide, by rw [hpl]; decide⟩
              have htk : List.take 16 (List.drop (off []) (pad16 (List.take n (List.drop (off []) l)))) = pad16 (List.take n (List.drop (off []) l)) := by show List.take 16 (pad16 _) = _; exact List.take_of_length_le (by omega)
              have hla := ga_last T F (y1, y2) (l := l) (n := n) (t := 0) (k := n) (by omega) (by omega) (by omega) hl
              rw [hla] at h
              skip
              repeat ((conv => whnf); first | refine pre_a ?_ | refine cond_ta ?_ | refine cond_fa ?_ | refine same_i ?_)
              conv => whnf
              rw [hsp]
              repeat ((conv => whnf); first | refine pre_a ?_ | refine cond_ta ?_ | refine cond_fa ?_ | refine same_i ?_)
              conv => whnf
              rw [htk]
              conv => whnf
              refine final_h (hp' := [.mk t0 [.arr64 32 T, .arr64 16 F, .u64 (pmul T F (xr (ld (pad16 ((l.drop (off [])).take n))) (y1, y2))).1, .u64 (pmul T F (xr (ld (pad16 ((l.drop (off [])).take n))) (y1, y2))).2], .mk t [.arr8 m l]]) [0, 1] h ?_
              repeat ((conv => whnf); refine same_i ?_)
              exact trivial
            · have hno := ga_none T F (y1, y2) (l := l) (n := n) (t := 0) (by omega) hl
              rw [hno] at h
              repeat ((conv => whnf); first | refine pre_a ?_ | refine cond_ta ?_ | refine cond_fa ?_ | refine same_i ?_)
              conv => whnf
              refine final_h (hp' := [.mk t0 [.arr64 32 T, .arr64 16 F, .u64 y1, .u64 y2], .mk t [.arr8 m l]]) [0, 1] h ?_
              repeat ((conv => whnf); refine same_i ?_)
              exact trivial
        | some s =>
          have hsn := s.hn
          have hsx := s.hx
          have hsc := s.hc
          by_cases h4 : 16 ≤ s.k
          · have hp4 : T.length = 32 ∧ F.length = 16 ∧ 16 ≤ s.k ∧ off [(s.x, 1)] + s.k ≤ l.length := ⟨hT, hF, h4, by have := hsx (by omega); show s.x + _ ≤ _; omega⟩
            have hX := hsx (by omega)
            repeat ((conv => whnf); first | refine pre_a ?_ | refine cond_ta ?_ | refine cond_fa ?_ | refine same_i ?_)
            conv => whnf
            rw [show pmul T F (xr (ld ((l.drop (off [(s.x, 1)])).take 16)) ((gaSt T F (y1, y2) (l.take n) s.t).1, (gaSt T F (y1, y2) (l.take n) s.t).2)) = gaSt T F (y1, y2) (l.take n) (s.t + 1) by rw [ga_next T F (y1, y2) (by omega) hl]; rw [← hX]; rfl]
            refine ⟨some ⟨s.t + 1, s.x + slO s.c 16, s.k - 16, s.c - 16, by omega, fun h0 => by
              have hne : s.c ≠ 16 := by omega
              rw [slO_eq hne]; omega, by omega⟩, [0, 1], by show s.k - 16 < s.k; omega, ?_⟩
            repeat ((conv => whnf); refine same_i ?_)
            exact trivial
          · by_cases h0 : 0 < s.k
            · have hX := hsx h0
              have hvl : (List.take s.k (List.drop (off [(s.x, 1)]) l)).length = s.k := by rw [List.length_take, List.length_drop]; show min s.k (l.length - s.x) = s.k; omega
              have hsp := splice_pad (v := List.take s.k (List.drop (off [(s.x, 1)]) l)) (by omega)
              have hpl := pad16_len (v := List.take s.k (List.drop (off [(s.x, 1)]) l)) (by omega)
              have hpp : T.length = 32 ∧ F.length = 16 ∧ 16 ≤ 16 ∧ off [] + 16 ≤ (pad16 (List.take s.k (List.drop (off [(s.x, 1)]) l))).length := ⟨hT, hF, by decide, by rw [hpl]; decide⟩
              have htk : List.take 16 (List.drop (off []) (pad16 (List.take s.k (List.drop (off [(s.x, 1)]) l)))) = pad16 (List.take s.k (List.drop (off [(s.x, 1)]) l)) := by show List.take 16 (pad16 _) = _; exact List.take_of_length_le (by omega)
              have hla := ga_last T F (y1, y2) (l := l) (n := n) (t := s.t) (k := s.k) (by omega) (by omega) (by omega) hl
              rw [hla] at h
              rw [← hX] at h
              repeat ((conv => whnf); first | refine pre_a ?_ | refine cond_ta ?_ | refine cond_fa ?_ | refine same_i ?_)
              conv => whnf
              rw [hsp]
              repeat ((conv => whnf); first | refine pre_a ?_ | refine cond_ta ?_ | refine cond_fa ?_ | refine same_i ?_)
              conv => whnf
              rw [htk]
              conv => whnf
              refine final_h (hp' := [.mk t0 [.arr64 32 T, .arr64 16 F, .u64 (pmul T F (xr (ld (pad16 ((l.drop (off [(s.x, 1)])).take s.k))) (gaSt T F (y1, y2) (l.take n) s.t))).1, .u64 (pmul T F (xr (ld (pad16 ((l.drop (off [(s.x, 1)])).take s.k))) (gaSt T F (y1, y2) (l.take n) s.t))).2], .mk t [.arr8 m l]]) [0, 1] h ?_
              repeat ((conv => whnf); refine same_i ?_)
              exact trivial
            · have hno := ga_none T F (y1, y2) (l := l) (n := n) (t := s.t) (by omega) hl
              rw [hno] at h
              repeat ((conv => whnf); first | refine pre_a ?_ | refine cond_ta ?_ | refine cond_fa ?_ | refine same_i ?_)
              conv => whnf
              refine final_h (hp' := [.mk t0 [.arr64 32 T, .arr64 16 F, .u64 (gaSt T F (y1, y2) (l.take n) s.t).1, .u64 (gaSt T F (y1, y2) (l.take n) s.t).2], .mk t [.arr8 m l]]) [0, 1] h ?_
              repeat ((conv => whnf); refine same_i ?_)
              exact trivial
    · exact h.elim
def gcounterS : Spec := fun args hp K => match args, hp with
  | [.str nonce, .u32 n], [] => Pre (nonce.length = 12) (K (.arr8 16 (ctr nonce n)) [])
  | _, _ => False
theorem gcounter_s : SoundC prog 68 gcounterS := by
  refine sound_f tyGcm_ok fnok_nil rfl func68 rfl call68 (D := pl68) ?_ ?_
  · intro args hp K h
    unfold gcounterS at h
    split at h
    · exact Nat.le_of_ble_eq_true rfl
    · exact h.elim
  · intro args hp K h
    unfold gcounterS at h
    split at h
    · rename_i nonce n
      obtain ⟨hn, h⟩ := pre_e h
      have hsp : splice (List.replicate 16 0) (off []) (List.take (min nonce.length 16) nonce) = ctSt nonce n 0 := by
        obtain ⟨a0, a1, a2, a3, a4, a5, a6, a7, a8, a9, b0, b1, rfl⟩ := twelve hn
        rfl
      repeat ((conv => whnf); first | refine pre_a ?_ | refine cond_ta ?_ | refine cond_fa ?_ | refine same_i ?_)
      conv => whnf
      rw [hsp]
      refine loop_h (Ix (4)) (fun q => ⟨[(0, .str nonce), (1, .u32 n), (4, .ptr 0 0 0 []), (5, .ptr 1 0 0 []), (10, .int q.i)], [.mk 103 [.arr8 16 (List.replicate 16 0)], .mk 103 [.arr8 16 (ctSt nonce n q.i)]]⟩) (fun q => (4) - q.i) ⟨0, Nat.zero_le _⟩ [0, 1] ?_ ?_
      · repeat ((conv => whnf); refine same_i ?_)
        exact trivial
      · intro q
        have hi := q.hi
        have hl := ctSt_len hn n q.i
        have hA : ((15 : Int) - (q.i : Int)).toNat = 15 - q.i := by omega
        have hB : (8 * (q.i : Int)).toNat = 8 * q.i := by omega
        by_cases h4 : q.i < 4
        · repeat ((conv => whnf); first | refine pre_a ?_ | refine cond_ta ?_ | refine cond_fa ?_ | refine same_i ?_)
          conv => whnf
          refine ⟨⟨q.i + 1, h4⟩, [0, 1], by show (4) - (q.i + 1) < (4) - q.i; omega, ?_⟩
          repeat ((conv => whnf); refine same_i ?_)
          conv => whnf
          refine same_q (congrArg (fun x => SV.agg [SV.arr8 16 x]) (show _ = ctSt nonce n (q.i + 1) by simp only [ctSt]; rw [← hA, ← hB]; rfl)) ?_
          repeat ((conv => whnf); refine same_i ?_)
          exact trivial
        · have e4 : q.i = 4 := by omega
          rw [← ctSt_all hn n] at h
          rw [e4]
          repeat ((conv => whnf); first | refine pre_a ?_ | refine cond_ta ?_ | refine cond_fa ?_ | refine same_i ?_)
          conv => whnf
          conv => whnf
          refine final_h (hp' := []) [] h ?_
          repeat ((conv => whnf); refine same_i ?_)
          exact trivial
    · exact h.elim
end Go.Sym.A

namespace Go.Sym.A
open Go Go.Proofs.Try Go.Sym.Lp Go.Sym.Aes
set_option maxRecDepth 100000
attribute [local irreducible] box rc
/-- the orders of the drawn regions of aes.New -/
def pl65 : List (Nat × List PStep) := [(11, [⟨0, []⟩, ⟨1, [0]⟩, ⟨2, []⟩, ⟨3, []⟩, ⟨4, [0, 1, 2, 3]⟩, ⟨5, [0, 1, 2, 3, 4]⟩, ⟨6, [0, 1, 2, 3, 4]⟩, ⟨7, [0, 1, 2, 3]⟩, ⟨8, []⟩]), (14, [⟨0, []⟩, ⟨1, [0]⟩, ⟨2, [0]⟩, ⟨3, [1, 2]⟩, ⟨4, [1, 2]⟩, ⟨5, []⟩, ⟨6, []⟩, ⟨7, [0, 1, 2, 3, 4, 5, 6]⟩, ⟨8, []⟩, ⟨9, [0, 1, 2, 3, 4, 5, 6, 7, 8]⟩, ⟨10, [0, 1, 2, 3, 4, 5, 6, 7, 8, 9]⟩, ⟨11, [0, 1, 2, 3, 4, 5, 6, 7, 8, 9]⟩, ⟨12, [0, 1, 2, 3, 4, 5, 6, 7, 8, 10, 11]⟩, ⟨13, [0, 1, 2, 3, 4, 5, 6, 7, 8, 10, 11]⟩, ⟨14, [0, 1, 2, 3, 4, 5, 6, 7, 8]⟩, ⟨15, [0, 1, 2, 3, 4, 5, 6, 7, 8]⟩, ⟨16, [0, 1, 2, 3, 4, 5, 6, 7, 8, 9, 10, 11, 12, 13, 14, 15]⟩, ⟨17, [0, 1, 2, 3, 4, 5, 6, 7, 8, 9, 10, 11, 12, 13, 14, 15, 16]⟩, ⟨18, [0, 1, 2, 3, 4, 5, 6, 7, 8, 9, 10, 11, 12, 13, 14, 15, 16]⟩, ⟨19, [0, 1, 2, 3, 4, 5, 6, 7, 8, 9, 10, 11, 12, 13, 14, 15, 17, 18]⟩, ⟨20, [0, 1, 2, 3, 4, 5, 6, 7, 8, 9, 10, 11, 12, 13, 14, 15, 17, 18]⟩, ⟨21, [0, 1, 2, 3, 4, 5, 6, 7, 8, 9, 10, 11, 12, 13, 14, 15]⟩, ⟨22, [0, 1, 2, 3, 4, 5, 6, 7, 8, 9, 10, 11, 12, 13, 14, 15]⟩, ⟨23, [0, 1, 2, 3, 4, 5, 6, 7, 8, 9, 10, 11, 12, 13, 14, 15, 16, 17, 18, 19, 20, 21, 22]⟩, ⟨24, [0, 1, 2, 3, 4, 5, 6, 7, 8, 9, 10, 11, 12, 13, 14, 15, 16, 17, 18, 19, 20, 21, 22, 23]⟩, ⟨25, [0, 1, 2, 3, 4, 5, 6, 7, 8, 9, 10, 11, 12, 13, 14, 15, 16, 17, 18, 19, 20, 21, 22, 23]⟩, ⟨26, [0, 1, 2, 3, 4, 5, 6, 7, 8, 9, 10, 11, 12, 13, 14, 15, 16, 17, 18, 19, 20, 21, 22, 24, 25]⟩, ⟨27, [0, 1, 2, 3, 4, 5, 6, 7, 8, 9, 10, 11, 12, 13, 14, 15, 16, 17, 18, 19, 20, 21, 22, 24, 25]⟩, ⟨28, [0, 1, 2, 3, 4, 5, 6, 7, 8, 9, 10, 11, 12, 13, 14, 15, 16, 17, 18, 19, 20, 21, 22]⟩, ⟨29, [0, 1, 2, 3, 4, 5, 6, 7, 8, 9, 10, 11, 12, 13, 14, 15, 16, 17, 18, 19, 20, 21, 22]⟩, ⟨30, []⟩, ⟨31, []⟩]), (20, [⟨0, []⟩, ⟨1, [0]⟩, ⟨2, [0, 1]⟩, ⟨3, [0, 1]⟩, ⟨4, [0, 1]⟩, ⟨5, [0, 2, 3, 4]⟩, ⟨6, [0, 2, 3, 4]⟩, ⟨7, [0]⟩, ⟨8, [0]⟩, ⟨9, []⟩, ⟨10, []⟩]), (25, [⟨0, []⟩, ⟨1, [0]⟩, ⟨2, [0, 1]⟩, ⟨3, [0, 1, 2]⟩, ⟨4, [0, 1, 2, 3]⟩, ⟨5, [0, 1, 2, 3, 4]⟩, ⟨6, [0, 1, 2, 3]⟩, ⟨7, [0, 1, 2, 3, 4, 5, 6]⟩, ⟨8, [0, 1, 2, 7]⟩, ⟨9, [0, 1, 2]⟩, ⟨10, [0, 1, 2]⟩, ⟨11, [0, 1, 2, 3, 4, 5, 6, 7, 8, 9, 10]⟩, ⟨12, [0, 1, 2, 3, 4, 5, 6, 7, 8, 9, 10]⟩, ⟨13, [0, 1, 2, 3, 4, 5, 6, 7, 8, 9, 10]⟩, ⟨14, [0, 1, 2]⟩, ⟨15, [2, 3, 4, 5, 6, 7, 8, 9, 10, 11, 12, 13, 14]⟩, ⟨16, []⟩, ⟨17, []⟩]), (32, [⟨0, []⟩, ⟨1, []⟩, ⟨2, []⟩, ⟨3, []⟩, ⟨4, [0, 1, 2, 3]⟩, ⟨5, [0, 1, 2, 3]⟩, ⟨6, []⟩, ⟨7, [0, 1, 2, 3, 4, 5, 6]⟩, ⟨8, [0, 1, 2, 3, 4, 5, 6]⟩, ⟨9, [0, 1, 2, 3, 4, 5, 6]⟩, ⟨10, []⟩, ⟨11, [0, 1, 2, 3, 4, 5, 6, 7, 8, 9, 10]⟩, ⟨12, [0, 1, 2, 3, 4, 5, 6, 7, 8, 9, 10, 11]⟩, ⟨13, [0, 1, 2, 3, 4, 5, 6, 7, 8, 9, 10]⟩, ⟨14, [0, 1, 2, 3, 4, 5, 6, 7, 8, 9, 10]⟩, ⟨15, []⟩])]

def aesNewS : Spec := fun args hp K => match args, hp with
  | [.str key], [] => CondVC (decide (key.length = 16 ∨ key.length = 32))
      (K (.tup [.ptr 0 0 0 [], .bool true]) [.mk 147 [.arr8 256 box, .sl 1 0 0 [] (key.length / 4 + 7) (key.length / 4 + 7)], .mk 103 [.arr8 (16 * (key.length / 4 + 7)) (ks key (key.length / 4) (4 * (key.length / 4 + 7)))]])
      (K (.tup [.nilptr, .bool false]) [])
  | _, _ => False
theorem splice_kw {key : List UInt8} {n N i k : Nat} (hk : key.length = 4 * n) (h : 4 * i + 4 ≤ N) {v : List UInt8} (hv : v = nextW key n i (ks key n i)) (hkk : k = 4 * i) : splice (kw key n N i) k v = kw key n N (i + 1) := by
  subst hkk
  have hl : v.length = 4 := by rw [hv]; exact nextW_len hk _
  unfold splice
  rw [hl]
  exact kw_next hk h hv
theorem splice_kc {W : List UInt8} {i k : Nat} (h : 4 * i + 4 ≤ W.length) {v : List UInt8} (hv : v = (W.drop (4 * i)).take 4) (hkk : k = 4 * i) : splice (kc W i) k v = kc W (i + 1) := by
  subst hkk
  have hl : v.length = 4 := by rw [hv, List.length_take, List.length_drop]; omega
  unfold splice
  rw [hl, hv]
  exact kc_next h
theorem ovr_kw {key : List UInt8} {n N i : Nat} (hk : key.length = 4 * n) (h : 4 * i + 4 ≤ N) {g : Nat → UInt8} (hv : (List.range 4).map g = nextW key n i (ks key n i)) : ovr (kw key n N i) (4 * i) g 4 = kw key n N (i + 1) := kw_next hk h hv
set_option maxHeartbeats 8000000 in
theorem aesNew_s : SoundC prog 65 aesNewS := by
  refine sound_f tyAes_ok (fnok_cons table_s (fnok_cons twice_s fnok_nil)) rfl func65 rfl call65 (D := pl65) ?_ ?_
  · intro args hp K h
    unfold aesNewS at h
    split at h
    · exact Nat.le_of_ble_eq_true rfl
    · exact h.elim
  · intro args hp K h
    unfold aesNewS at h
    split at h
    · rename_i key
      obtain ⟨ht, hn⟩ := cond_e h
      by_cases hk : key.length = 16
      · have h := ht (decide_eq_true (.inl hk))
        have hkn : key.length = 4 * 4 := hk
        rw [hk] at h
        have hq : (key.length : Int).tdiv 4 = 4 := by rw [hk]; rfl
        have hf : fits ((key.length : Int).tdiv 4) := by rw [hq]; unfold fits; omega
        have hf2 : (4 : Int) ≠ 0 ∧ fits ((key.length : Int).tdiv 4) := ⟨by decide, hf⟩
        repeat ((conv => whnf); first | refine pre_a ?_ | refine cond_ta ?_ | refine cond_fa ?_ | refine same_i ?_)
        conv => whnf
        rw [hq]
        repeat ((conv => whnf); first | refine pre_a ?_ | refine cond_ta ?_ | refine cond_fa ?_ | refine same_i ?_)
        conv => whnf
        refine loop_h (Ix (44)) (fun q => ⟨[(0, .str key), (2, .nilptr), (3, .bool false), (4, .ptr 0 0 0 []), (5, .int 4), (6, .sl 1 0 0 [] 44 44), (7, .u8 (rc ((q.i - 1) / 4))), (32, .int 44), (33, .int q.i)], [.mk 147 [.arr8 256 box, .nilsl], .mk 140 [.arr8 176 (kw key 4 176 q.i)]]⟩) (fun q => (44) - q.i) ⟨0, Nat.zero_le _⟩ [0, 1] ?_ ?_
        · repeat ((conv => whnf); refine same_i ?_)
          conv => whnf
          refine same_q (congrArg SV.u8 (by unfold rc; rfl)) ?_
          repeat ((conv => whnf); refine same_i ?_)
          exact trivial
        · intro q
          have hi := q.hi
          have hl := kw_len hkn (N := 176) (i := q.i) (by omega)
          have hI : ((q.i : Int)).toNat = q.i := Int.toNat_natCast _
          by_cases h4 : q.i < 44
          · by_cases h5 : q.i < 4
            · repeat ((conv => whnf); first | refine pre_a ?_ | refine cond_ta ?_ | refine cond_fa ?_ | refine same_i ?_)
              conv => whnf
              refine ⟨⟨q.i + 1, h4⟩, [0, 1], by show (44) - (q.i + 1) < (44) - q.i; omega, ?_⟩
              repeat ((conv => whnf); refine same_i ?_)
              conv => whnf
              refine same_q (congrArg (fun x => SV.agg [SV.arr8 176 x]) (splice_kw hkn (by omega) ?hv ?hkk)) ?_
              case hkk => show q.i * 4 = 4 * q.i; omega
              case hv =>
                unfold nextW
                rw [if_pos h5, show (4 * (q.i : Int)).toNat = 4 * q.i by omega, List.length_drop, Nat.min_eq_right (by omega)]
              repeat ((conv => whnf); refine same_i ?_)
              conv => whnf
              refine same_q (congrArg SV.u8 (by show rc ((q.i - 1) / 4) = rc ((q.i + 1 - 1) / 4); rw [rc_small h5, Nat.add_sub_cancel])) ?_
              repeat ((conv => whnf); refine same_i ?_)
              exact trivial
            · have hm0 : ((q.i : Int)).tmod 4 = ((q.i % 4 : Nat) : Int) := by rw [Int.tmod_eq_emod_of_nonneg (by omega)]; omega
              obtain ⟨T, hT⟩ : ∃ T, T = ((ks key 4 q.i).drop (4 * (q.i - 1))).take 4 := ⟨_, rfl⟩
              have hTl : T.length = 4 := by rw [hT, List.length_take, List.length_drop, ks_len hkn]; omega
              have tT : List.take ty140.sz (List.drop (off (addO [] ((q.i : Int) - 1).toNat ty140.sz)) (kw key 4 176 q.i)) = T := by
                rw [hT, ← kw_sub hkn (N := 176) (by omega)]
                show List.take 4 (List.drop (((q.i : Int) - 1).toNat * 4) _) = _
                rw [show ((q.i : Int) - 1).toNat * 4 = 4 * (q.i - 1) by omega]
              have hnx : (List.range 4).map (fun k => (ks key 4 q.i).getD (4 * (q.i - 4) + k) 0 ^^^ (tmpW 4 q.i T).getD k 0) = nextW key 4 q.i (ks key 4 q.i) := by
                unfold nextW; rw [if_neg h5, ← hT]
              by_cases h6 : q.i % 4 = 0
              · repeat ((conv => whnf); first | refine pre_a ?_ | refine cond_ta ?_ | refine cond_fa ?_ | refine same_i ?_)
                conv => whnf
                rw [tT]
                repeat ((conv => whnf); first | refine pre_a ?_ | refine cond_ta ?_ | refine cond_fa ?_ | refine same_i ?_ | refine pre_i (by first | exact box_lt _) ?_ | refine cond_t (by first | exact box_lt _) ?_ | refine cond_f (by first | exact box_lt _) ?_)
                conv => whnf
                refine loop_h (Ix (4)) (fun r => ⟨[(0, .str key), (2, .nilptr), (3, .bool false), (4, .ptr 0 0 0 []), (5, .int 4), (6, .sl 1 0 0 [] 44 44), (7, .u8 (tw (rc ((q.i - 1) / 4)))), (32, .int 44), (33, .int q.i), (8, .int q.i), (9, .ptr 2 0 0 []), (112, .int r.i)], [.mk 147 [.arr8 256 box, .nilsl], .mk 140 [.arr8 176 (ovr (kw key 4 176 q.i) (4 * q.i) (fun k => (ks key 4 q.i).getD (4 * (q.i - 4) + k) 0 ^^^ (tmpW 4 q.i T).getD k 0) r.i)], .mk 140 [.arr8 4 (tmpW 4 q.i T)]]⟩) (fun r => (4) - r.i) ⟨0, Nat.zero_le _⟩ [0, 1, 2] ?_ ?_
                · repeat ((conv => whnf); refine same_i ?_)
                  conv => whnf
                  refine same_q (congrArg (fun x => SV.agg [SV.arr8 176 x]) (ovr_zero _ _ _).symm) ?_
                  repeat ((conv => whnf); refine same_i ?_)
                  conv => whnf
                  refine same_q (congrArg (fun x => SV.agg [SV.arr8 4 x]) (by unfold tmpW; rw [if_pos h6]; rfl)) ?_
                  repeat ((conv => whnf); refine same_i ?_)
                  exact trivial
                · intro r
                  have hri := r.hi
                  have hJ : ((r.i : Int)).toNat = r.i := Int.toNat_natCast _
                  have hTW := tmpW_len (n := 4) (i := q.i) hTl
                  have hlo := ovr_len (l := kw key 4 176 q.i) (a := 4 * q.i) (i := r.i) (by omega) (fun k => (ks key 4 q.i).getD (4 * (q.i - 4) + k) 0 ^^^ (tmpW 4 q.i T).getD k 0)
                  by_cases h7 : r.i < 4
                  · repeat ((conv => whnf); first | refine pre_a ?_ | refine cond_ta ?_ | refine cond_fa ?_ | refine same_i ?_)
                    conv => whnf
                    refine ⟨⟨r.i + 1, h7⟩, [0, 1, 2], by show (4) - (r.i + 1) < (4) - r.i; omega, ?_⟩
                    repeat ((conv => whnf); refine same_i ?_)
                    conv => whnf
                    refine same_q (congrArg (fun x => SV.agg [SV.arr8 176 x]) (ovr_step (by omega) ?hv ?hkk)) ?_
                    case hkk => show q.i * 4 + r.i = 4 * q.i + r.i; omega
                    case hv =>
                      show (ovr _ _ _ _).getD (((q.i : Int) - 4).toNat * 4 + r.i) 0 ^^^ _ = _
                      rw [ovr_get (by omega) _ (by omega), kw_old hkn (by omega), show ((q.i : Int) - 4).toNat * 4 + r.i = 4 * (q.i - 4) + r.i by omega]
                      rfl
                    repeat ((conv => whnf); refine same_i ?_)
                    exact trivial
                  · have e7 : r.i = 4 := by omega
                    rw [e7, ovr_kw hkn (by omega) hnx]
                    repeat ((conv => whnf); first | refine pre_a ?_ | refine cond_ta ?_ | refine cond_fa ?_ | refine same_i ?_)
                    conv => whnf
                    refine ⟨⟨q.i + 1, h4⟩, [0, 1], by show (44) - (q.i + 1) < (44) - q.i; omega, ?_⟩
                    repeat ((conv => whnf); refine same_i ?_)
                    conv => whnf
                    refine same_q (congrArg SV.u8 (by show (tw (rc ((q.i - 1) / 4))) = rc ((q.i + 1 - 1) / 4); rw [Nat.add_sub_cancel, rc_next (by omega) (by omega) h6])) ?_
                    repeat ((conv => whnf); refine same_i ?_)
                    exact trivial
              · repeat ((conv => whnf); first | refine pre_a ?_ | refine cond_ta ?_ | refine cond_fa ?_ | refine same_i ?_)
                conv => whnf
                rw [tT]
                refine loop_h (Ix (4)) (fun r => ⟨[(0, .str key), (2, .nilptr), (3, .bool false), (4, .ptr 0 0 0 []), (5, .int 4), (6, .sl 1 0 0 [] 44 44), (7, .u8 (rc ((q.i - 1) / 4))), (32, .int 44), (33, .int q.i), (8, .int q.i), (9, .ptr 2 0 0 []), (112, .int r.i)], [.mk 147 [.arr8 256 box, .nilsl], .mk 140 [.arr8 176 (ovr (kw key 4 176 q.i) (4 * q.i) (fun k => (ks key 4 q.i).getD (4 * (q.i - 4) + k) 0 ^^^ (tmpW 4 q.i T).getD k 0) r.i)], .mk 140 [.arr8 4 (tmpW 4 q.i T)]]⟩) (fun r => (4) - r.i) ⟨0, Nat.zero_le _⟩ [0, 1, 2] ?_ ?_
                · repeat ((conv => whnf); refine same_i ?_)
                  conv => whnf
                  refine same_q (congrArg (fun x => SV.agg [SV.arr8 176 x]) (ovr_zero _ _ _).symm) ?_
                  repeat ((conv => whnf); refine same_i ?_)
                  conv => whnf
                  refine same_q (congrArg (fun x => SV.agg [SV.arr8 4 x]) (by unfold tmpW; rw [if_neg h6, if_neg (fun h => absurd h.1 (by decide))])) ?_
                  repeat ((conv => whnf); refine same_i ?_)
                  exact trivial
                · intro r
                  have hri := r.hi
                  have hJ : ((r.i : Int)).toNat = r.i := Int.toNat_natCast _
                  have hTW := tmpW_len (n := 4) (i := q.i) hTl
                  have hlo := ovr_len (l := kw key 4 176 q.i) (a := 4 * q.i) (i := r.i) (by omega) (fun k => (ks key 4 q.i).getD (4 * (q.i - 4) + k) 0 ^^^ (tmpW 4 q.i T).getD k 0)
                  by_cases h7 : r.i < 4
                  · repeat ((conv => whnf); first | refine pre_a ?_ | refine cond_ta ?_ | refine cond_fa ?_ | refine same_i ?_)
                    conv => whnf
                    refine ⟨⟨r.i + 1, h7⟩, [0, 1, 2], by show (4) - (r.i + 1) < (4) - r.i; omega, ?_⟩
                    repeat ((conv => whnf); refine same_i ?_)
                    conv => whnf
                    refine same_q (congrArg (fun x => SV.agg [SV.arr8 176 x]) (ovr_step (by omega) ?hv ?hkk)) ?_
                    case hkk => show q.i * 4 + r.i = 4 * q.i + r.i; omega
                    case hv =>
                      show (ovr _ _ _ _).getD (((q.i : Int) - 4).toNat * 4 + r.i) 0 ^^^ _ = _
                      rw [ovr_get (by omega) _ (by omega), kw_old hkn (by omega), show ((q.i : Int) - 4).toNat * 4 + r.i = 4 * (q.i - 4) + r.i by omega]
                      rfl
                    repeat ((conv => whnf); refine same_i ?_)
                    exact trivial
                  · have e7 : r.i = 4 := by omega
                    rw [e7, ovr_kw hkn (by omega) hnx]
                    repeat ((conv => whnf); first | refine pre_a ?_ | refine cond_ta ?_ | refine cond_fa ?_ | refine same_i ?_)
                    conv => whnf
                    refine ⟨⟨q.i + 1, h4⟩, [0, 1], by show (44) - (q.i + 1) < (44) - q.i; omega, ?_⟩
                    repeat ((conv => whnf); refine same_i ?_)
                    conv => whnf
                    refine same_q (congrArg SV.u8 (by show (rc ((q.i - 1) / 4)) = rc ((q.i + 1 - 1) / 4); rw [Nat.add_sub_cancel, rc_keep (by omega) h6])) ?_
                    repeat ((conv => whnf); refine same_i ?_)
                    exact trivial
          · have e4 : q.i = 44 := by omega
            rw [e4, kw_all (by rfl)]
            have hW := ks_len hkn 44
            generalize ks key 4 44 = W at *
            repeat ((conv => whnf); first | refine pre_a ?_ | refine cond_ta ?_ | refine cond_fa ?_ | refine same_i ?_)
            conv => whnf
            refine loop_h (Ix (44)) (fun u => ⟨[(0, .str key), (2, .nilptr), (3, .bool false), (4, .ptr 0 0 0 []), (5, .int 4), (6, .sl 1 0 0 [] 44 44), (141, .int 44), (142, .int u.i)], [.mk 147 [.arr8 256 box, .sl 2 0 0 [] 11 11], .mk 140 [.arr8 176 W], .mk 103 [.arr8 176 (kc W u.i)]]⟩) (fun u => (44) - u.i) ⟨0, Nat.zero_le _⟩ [0, 1, 2] ?_ ?_
            · repeat ((conv => whnf); refine same_i ?_)
              conv => whnf
              refine same_q (congrArg (fun x => SV.agg [SV.arr8 176 x]) (by rw [kc_zero, hW]; rfl)) ?_
              repeat ((conv => whnf); refine same_i ?_)
              exact trivial
            · intro u
              have hui := u.hi
              have hlk := kc_len (W := W) (i := u.i) (by omega)
              have hU : ((u.i : Int)).toNat = u.i := Int.toNat_natCast _
              have hd : (u.i : Int).tdiv 4 = ((u.i / 4 : Nat) : Int) := by rw [Int.tdiv_eq_ediv_of_nonneg (by omega)]; omega
              have hm : (u.i : Int).tmod 4 = ((u.i % 4 : Nat) : Int) := by rw [Int.tmod_eq_emod_of_nonneg (by omega)]; omega
              have hpd : (4 : Int) ≠ 0 ∧ fits ((u.i : Int).tdiv 4) := ⟨by decide, by unfold fits; omega⟩
              by_cases h8 : u.i < 44
              · have hs : slO 16 (4 * (u.i : Int).tmod 4).toNat = 4 * (u.i % 4) := by rw [slO_eq (by omega)]; omega
                have hv4 : (List.take 4 (List.drop (off (addO [] ((u.i : Int)).toNat ty140.sz)) W)) = (W.drop (4 * u.i)).take 4 := by
                  show List.take 4 (List.drop (((u.i : Int)).toNat * 4) W) = _
                  rw [hU, Nat.mul_comm]
                have hv5 : ((W.drop (4 * u.i)).take 4).length = 4 := by rw [List.length_take, List.length_drop]; omega
                repeat ((conv => whnf); first | refine pre_a ?_ | refine cond_ta ?_ | refine cond_fa ?_ | refine same_i ?_)
                conv => whnf
                rw [hs, hv4, hv5, Nat.min_eq_left (show 4 ≤ 16 - (4 * (u.i : Int).tmod 4).toNat by omega)]
                conv => whnf
                refine ⟨⟨u.i + 1, h8⟩, [0, 1, 2], by show (44) - (u.i + 1) < (44) - u.i; omega, ?_⟩
                repeat ((conv => whnf); refine same_i ?_)
                conv => whnf
                refine same_q (congrArg (fun x => SV.agg [SV.arr8 176 x]) (splice_kc (by omega) ?hv ?hkk)) ?_
                case hkk => show ((u.i : Int).tdiv 4).toNat * 16 + 4 * (u.i % 4) = 4 * u.i; omega
                case hv => exact List.take_of_length_le (by omega)
                repeat ((conv => whnf); refine same_i ?_)
                exact trivial
              · have e8 : u.i = 44 := by omega
                rw [e8, kc_all (by omega)]
                repeat ((conv => whnf); first | refine pre_a ?_ | refine cond_ta ?_ | refine cond_fa ?_ | refine same_i ?_)
                conv => whnf
                refine final_h (hp' := [.mk 147 [.arr8 256 box, .sl 1 0 0 [] 11 11], .mk 103 [.arr8 176 W]]) [0, 2] h ?_
                repeat ((conv => whnf); refine same_i ?_)
                exact trivial
      · by_cases hk2 : key.length = 32
        · have h := ht (decide_eq_true (.inr hk2))
          have hk := hk2
          have hkn : key.length = 4 * 8 := hk2
          rw [hk2] at h
          have hq : (key.length : Int).tdiv 4 = 8 := by rw [hk]; rfl
          have hf : fits ((key.length : Int).tdiv 4) := by rw [hq]; unfold fits; omega
          have hf2 : (4 : Int) ≠ 0 ∧ fits ((key.length : Int).tdiv 4) := ⟨by decide, hf⟩
          repeat ((conv => whnf); first | refine pre_a ?_ | refine cond_ta ?_ | refine cond_fa ?_ | refine same_i ?_)
          conv => whnf
          rw [hq]
          repeat ((conv => whnf); first | refine pre_a ?_ | refine cond_ta ?_ | refine cond_fa ?_ | refine same_i ?_)
          conv => whnf
          refine loop_h (Ix (60)) (fun q => ⟨[(0, .str key), (2, .nilptr), (3, .bool false), (4, .ptr 0 0 0 []), (5, .int 8), (6, .sl 1 0 0 [] 60 60), (7, .u8 (rc ((q.i - 1) / 8))), (32, .int 60), (33, .int q.i)], [.mk 147 [.arr8 256 box, .nilsl], .mk 140 [.arr8 240 (kw key 8 240 q.i)]]⟩) (fun q => (60) - q.i) ⟨0, Nat.zero_le _⟩ [0, 1] ?_ ?_
          · repeat ((conv => whnf); refine same_i ?_)
            conv => whnf
            refine same_q (congrArg SV.u8 (by unfold rc; rfl)) ?_
            repeat ((conv => whnf); refine same_i ?_)
            exact trivial
          · intro q
            have hi := q.hi
            have hl := kw_len hkn (N := 240) (i := q.i) (by omega)
            have hI : ((q.i : Int)).toNat = q.i := Int.toNat_natCast _
            by_cases h4 : q.i < 60
            · by_cases h5 : q.i < 8
              · repeat ((conv => whnf); first | refine pre_a ?_ | refine cond_ta ?_ | refine cond_fa ?_ | refine same_i ?_)
                conv => whnf
                refine ⟨⟨q.i + 1, h4⟩, [0, 1], by show (60) - (q.i + 1) < (60) - q.i; omega, ?_⟩
                repeat ((conv => whnf); refine same_i ?_)
                conv => whnf
                refine same_q (congrArg (fun x => SV.agg [SV.arr8 240 x]) (splice_kw hkn (by omega) ?hv ?hkk)) ?_
                case hkk => show q.i * 4 = 4 * q.i; omega
                case hv =>
                  unfold nextW
                  rw [if_pos h5, show (4 * (q.i : Int)).toNat = 4 * q.i by omega, List.length_drop, Nat.min_eq_right (by omega)]
                repeat ((conv => whnf); refine same_i ?_)
                conv => whnf
                refine same_q (congrArg SV.u8 (by show rc ((q.i - 1) / 8) = rc ((q.i + 1 - 1) / 8); rw [rc_small h5, Nat.add_sub_cancel])) ?_
                repeat ((conv => whnf); refine same_i ?_)
                exact trivial
              · have hm0 : ((q.i : Int)).tmod 8 = ((q.i % 8 : Nat) : Int) := by rw [Int.tmod_eq_emod_of_nonneg (by omega)]; omega
                obtain ⟨T, hT⟩ : ∃ T, T = ((ks key 8 q.i).drop (4 * (q.i - 1))).take 4 := ⟨_, rfl⟩
                have hTl : T.length = 4 := by rw [hT, List.length_take, List.length_drop, ks_len hkn]; omega
                have tT : List.take ty140.sz (List.drop (off (addO [] ((q.i : Int) - 1).toNat ty140.sz)) (kw key 8 240 q.i)) = T := by
                  rw [hT, ← kw_sub hkn (N := 240) (by omega)]
                  show List.take 4 (List.drop (((q.i : Int) - 1).toNat * 4) _) = _
                  rw [show ((q.i : Int) - 1).toNat * 4 = 4 * (q.i - 1) by omega]
                have hnx : (List.range 4).map (fun k => (ks key 8 q.i).getD (4 * (q.i - 8) + k) 0 ^^^ (tmpW 8 q.i T).getD k 0) = nextW key 8 q.i (ks key 8 q.i) := by
                  unfold nextW; rw [if_neg h5, ← hT]
                by_cases h6 : q.i % 8 = 0
                · repeat ((conv => whnf); first | refine pre_a ?_ | refine cond_ta ?_ | refine cond_fa ?_ | refine same_i ?_)
                  conv => whnf
                  rw [tT]
                  repeat ((conv => whnf); first | refine pre_a ?_ | refine cond_ta ?_ | refine cond_fa ?_ | refine same_i ?_ | refine pre_i (by first | exact box_lt _) ?_ | refine cond_t (by first | exact box_lt _) ?_ | refine cond_f (by first | exact box_lt _) ?_)
                  conv => whnf
                  refine loop_h (Ix (4)) (fun r => ⟨[(0, .str key), (2, .nilptr), (3, .bool false), (4, .ptr 0 0 0 []), (5, .int 8), (6, .sl 1 0 0 [] 60 60), (7, .u8 (tw (rc ((q.i - 1) / 8)))), (32, .int 60), (33, .int q.i), (8, .int q.i), (9, .ptr 2 0 0 []), (112, .int r.i)], [.mk 147 [.arr8 256 box, .nilsl], .mk 140 [.arr8 240 (ovr (kw key 8 240 q.i) (4 * q.i) (fun k => (ks key 8 q.i).getD (4 * (q.i - 8) + k) 0 ^^^ (tmpW 8 q.i T).getD k 0) r.i)], .mk 140 [.arr8 4 (tmpW 8 q.i T)]]⟩) (fun r => (4) - r.i) ⟨0, Nat.zero_le _⟩ [0, 1, 2] ?_ ?_
                  · repeat ((conv => whnf); refine same_i ?_)
                    conv => whnf
                    refine same_q (congrArg (fun x => SV.agg [SV.arr8 240 x]) (ovr_zero _ _ _).symm) ?_
                    repeat ((conv => whnf); refine same_i ?_)
                    conv => whnf
                    refine same_q (congrArg (fun x => SV.agg [SV.arr8 4 x]) (by unfold tmpW; rw [if_pos h6]; rfl)) ?_
                    repeat ((conv => whnf); refine same_i ?_)
                    exact trivial
                  · intro r
                    have hri := r.hi
                    have hJ : ((r.i : Int)).toNat = r.i := Int.toNat_natCast _
                    have hTW := tmpW_len (n := 8) (i := q.i) hTl
                    have hlo := ovr_len (l := kw key 8 240 q.i) (a := 4 * q.i) (i := r.i) (by omega) (fun k => (ks key 8 q.i).getD (4 * (q.i - 8) + k) 0 ^^^ (tmpW 8 q.i T).getD k 0)
                    by_cases h7 : r.i < 4
                    · repeat ((conv => whnf); first | refine pre_a ?_ | refine cond_ta ?_ | refine cond_fa ?_ | refine same_i ?_)
                      conv => whnf
                      refine ⟨⟨r.i + 1, h7⟩, [0, 1, 2], by show (4) - (r.i + 1) < (4) - r.i; omega, ?_⟩
                      repeat ((conv => whnf); refine same_i ?_)
                      conv => whnf
                      refine same_q (congrArg (fun x => SV.agg [SV.arr8 240 x]) (ovr_step (by omega) ?hv ?hkk)) ?_
                      case hkk => show q.i * 4 + r.i = 4 * q.i + r.i; omega
                      case hv =>
                        show (ovr _ _ _ _).getD (((q.i : Int) - 8).toNat * 4 + r.i) 0 ^^^ _ = _
                        rw [ovr_get (by omega) _ (by omega), kw_old hkn (by omega), show ((q.i : Int) - 8).toNat * 4 + r.i = 4 * (q.i - 8) + r.i by omega]
                        rfl
                      repeat ((conv => whnf); refine same_i ?_)
                      exact trivial
                    · have e7 : r.i = 4 := by omega
                      rw [e7, ovr_kw hkn (by omega) hnx]
                      repeat ((conv => whnf); first | refine pre_a ?_ | refine cond_ta ?_ | refine cond_fa ?_ | refine same_i ?_)
                      conv => whnf
                      refine ⟨⟨q.i + 1, h4⟩, [0, 1], by show (60) - (q.i + 1) < (60) - q.i; omega, ?_⟩
                      repeat ((conv => whnf); refine same_i ?_)
                      conv => whnf
                      refine same_q (congrArg SV.u8 (by show (tw (rc ((q.i - 1) / 8))) = rc ((q.i + 1 - 1) / 8); rw [Nat.add_sub_cancel, rc_next (by omega) (by omega) h6])) ?_
                      repeat ((conv => whnf); refine same_i ?_)
                      exact trivial
                · by_cases h9 : q.i % 8 = 4
                  · repeat ((conv => whnf); first | refine pre_a ?_ | refine cond_ta ?_ | refine cond_fa ?_ | refine same_i ?_)
                    conv => whnf
                    rw [tT]
                    repeat ((conv => whnf); first | refine pre_a ?_ | refine cond_ta ?_ | refine cond_fa ?_ | refine same_i ?_)
                    conv => whnf
                    refine loop_h (Ix (4)) (fun k => ⟨[(0, .str key), (2, .nilptr), (3, .bool false), (4, .ptr 0 0 0 []), (5, .int 8), (6, .sl 1 0 0 [] 60 60), (7, .u8 (rc ((q.i - 1) / 8))), (32, .int 60), (33, .int q.i), (8, .int q.i), (9, .ptr 2 0 0 []), (98, .int k.i)], [.mk 147 [.arr8 256 box, .nilsl], .mk 140 [.arr8 240 (kw key 8 240 q.i)], .mk 140 [.arr8 4 (ovr T 0 (fun j => box.getD (T.getD j 0).toNat 0) k.i)]]⟩) (fun k => (4) - k.i) ⟨0, Nat.zero_le _⟩ [0, 1, 2] ?_ ?_
                    · repeat ((conv => whnf); refine same_i ?_)
                      exact trivial
                    · intro k
                      have hki := k.hi
                      have hKK : ((k.i : Int)).toNat = k.i := Int.toNat_natCast _
                      have hlo := ovr_len (l := T) (a := 0) (i := k.i) (by omega) (fun j => box.getD (T.getD j 0).toNat 0)
                      by_cases h10 : k.i < 4
                      · repeat ((conv => whnf); first | refine pre_a ?_ | refine cond_ta ?_ | refine cond_fa ?_ | refine same_i ?_ | refine pre_i (by first | exact box_lt _) ?_ | refine cond_t (by first | exact box_lt _) ?_ | refine cond_f (by first | exact box_lt _) ?_)
                        conv => whnf
                        refine ⟨⟨k.i + 1, h10⟩, [0, 1, 2], by show (4) - (k.i + 1) < (4) - k.i; omega, ?_⟩
                        repeat ((conv => whnf); refine same_i ?_)
                        conv => whnf
                        refine same_q (congrArg (fun x => SV.agg [SV.arr8 4 x]) (ovr_step (by omega) ?hv ?hkk)) ?_
                        case hkk => show k.i = 0 + k.i; omega
                        case hv =>
                          show box.getD (UInt8.toNat ((ovr _ _ _ _).getD k.i 0)) 0 = box.getD (T.getD k.i 0).toNat 0
                          rw [ovr_get (by omega) _ (by omega)]
                        repeat ((conv => whnf); refine same_i ?_)
                        exact trivial
                      · have e10 : k.i = 4 := by omega
                        rw [e10]
                        repeat ((conv => whnf); first | refine pre_a ?_ | refine cond_ta ?_ | refine cond_fa ?_ | refine same_i ?_)
                        conv => whnf
                        refine loop_h (Ix (4)) (fun r => ⟨[(0, .str key), (2, .nilptr), (3, .bool false), (4, .ptr 0 0 0 []), (5, .int 8), (6, .sl 1 0 0 [] 60 60), (7, .u8 (rc ((q.i - 1) / 8))), (32, .int 60), (33, .int q.i), (8, .int q.i), (9, .ptr 2 0 0 []), (112, .int r.i)], [.mk 147 [.arr8 256 box, .nilsl], .mk 140 [.arr8 240 (ovr (kw key 8 240 q.i) (4 * q.i) (fun k => (ks key 8 q.i).getD (4 * (q.i - 8) + k) 0 ^^^ (tmpW 8 q.i T).getD k 0) r.i)], .mk 140 [.arr8 4 (tmpW 8 q.i T)]]⟩) (fun r => (4) - r.i) ⟨0, Nat.zero_le _⟩ [0, 1, 2] ?_ ?_
                        · repeat ((conv => whnf); refine same_i ?_)
                          conv => whnf
                          refine same_q (congrArg (fun x => SV.agg [SV.arr8 240 x]) (ovr_zero _ _ _).symm) ?_
                          repeat ((conv => whnf); refine same_i ?_)
                          conv => whnf
                          refine same_q (congrArg (fun x => SV.agg [SV.arr8 4 x]) (by unfold tmpW; rw [if_neg h6, if_pos ⟨rfl, h9⟩]; exact ovr_fin hTl _)) ?_
                          repeat ((conv => whnf); refine same_i ?_)
                          exact trivial
                        · intro r
                          have hri := r.hi
                          have hJ : ((r.i : Int)).toNat = r.i := Int.toNat_natCast _
                          have hTW := tmpW_len (n := 8) (i := q.i) hTl
                          have hlo := ovr_len (l := kw key 8 240 q.i) (a := 4 * q.i) (i := r.i) (by omega) (fun k => (ks key 8 q.i).getD (4 * (q.i - 8) + k) 0 ^^^ (tmpW 8 q.i T).getD k 0)
                          by_cases h7 : r.i < 4
                          · repeat ((conv => whnf); first | refine pre_a ?_ | refine cond_ta ?_ | refine cond_fa ?_ | refine same_i ?_)
                            conv => whnf
                            refine ⟨⟨r.i + 1, h7⟩, [0, 1, 2], by show (4) - (r.i + 1) < (4) - r.i; omega, ?_⟩
                            repeat ((conv => whnf); refine same_i ?_)
                            conv => whnf
                            refine same_q (congrArg (fun x => SV.agg [SV.arr8 240 x]) (ovr_step (by omega) ?hv ?hkk)) ?_
                            case hkk => show q.i * 4 + r.i = 4 * q.i + r.i; omega
                            case hv =>
                              show (ovr _ _ _ _).getD (((q.i : Int) - 8).toNat * 4 + r.i) 0 ^^^ _ = _
                              rw [ovr_get (by omega) _ (by omega), kw_old hkn (by omega), show ((q.i : Int) - 8).toNat * 4 + r.i = 4 * (q.i - 8) + r.i by omega]
                              rfl
                            repeat ((conv => whnf); refine same_i ?_)
                            exact trivial
                          · have e7 : r.i = 4 := by omega
                            rw [e7, ovr_kw hkn (by omega) hnx]
                            repeat ((conv => whnf); first | refine pre_a ?_ | refine cond_ta ?_ | refine cond_fa ?_ | refine same_i ?_)
                            conv => whnf
                            refine ⟨⟨q.i + 1, h4⟩, [0, 1], by show (60) - (q.i + 1) < (60) - q.i; omega, ?_⟩
                            repeat ((conv => whnf); refine same_i ?_)
                            conv => whnf
                            refine same_q (congrArg SV.u8 (by show (rc ((q.i - 1) / 8)) = rc ((q.i + 1 - 1) / 8); rw [Nat.add_sub_cancel, rc_keep (by omega) h6])) ?_
                            repeat ((conv => whnf); refine same_i ?_)
                            exact trivial
                  · repeat ((conv => whnf); first | refine pre_a ?_ | refine cond_ta ?_ | refine cond_fa ?_ | refine same_i ?_)
                    conv => whnf
                    rw [tT]
                    refine loop_h (Ix (4)) (fun r => ⟨[(0, .str key), (2, .nilptr), (3, .bool false), (4, .ptr 0 0 0 []), (5, .int 8), (6, .sl 1 0 0 [] 60 60), (7, .u8 (rc ((q.i - 1) / 8))), (32, .int 60), (33, .int q.i), (8, .int q.i), (9, .ptr 2 0 0 []), (112, .int r.i)], [.mk 147 [.arr8 256 box, .nilsl], .mk 140 [.arr8 240 (ovr (kw key 8 240 q.i) (4 * q.i) (fun k => (ks key 8 q.i).getD (4 * (q.i - 8) + k) 0 ^^^ (tmpW 8 q.i T).getD k 0) r.i)], .mk 140 [.arr8 4 (tmpW 8 q.i T)]]⟩) (fun r => (4) - r.i) ⟨0, Nat.zero_le _⟩ [0, 1, 2] ?_ ?_
                    · repeat ((conv => whnf); refine same_i ?_)
                      conv => whnf
                      refine same_q (congrArg (fun x => SV.agg [SV.arr8 240 x]) (ovr_zero _ _ _).symm) ?_
                      repeat ((conv => whnf); refine same_i ?_)
                      conv => whnf
                      refine same_q (congrArg (fun x => SV.agg [SV.arr8 4 x]) (by unfold tmpW; rw [if_neg h6, if_neg (fun h => h9 h.2)])) ?_
                      repeat ((conv => whnf); refine same_i ?_)
                      exact trivial
                    · intro r
                      have hri := r.hi
                      have hJ : ((r.i : Int)).toNat = r.i := Int.toNat_natCast _
                      have hTW := tmpW_len (n := 8) (i := q.i) hTl
                      have hlo := ovr_len (l := kw key 8 240 q.i) (a := 4 * q.i) (i := r.i) (by omega) (fun k => (ks key 8 q.i).getD (4 * (q.i - 8) + k) 0 ^^^ (tmpW 8 q.i T).getD k 0)
                      by_cases h7 : r.i < 4
                      · repeat ((conv => whnf); first | refine pre_a ?_ | refine cond_ta ?_ | refine cond_fa ?_ | refine same_i ?_)
                        conv => whnf
                        refine ⟨⟨r.i + 1, h7⟩, [0, 1, 2], by show (4) - (r.i + 1) < (4) - r.i; omega, ?_⟩
                        repeat ((conv => whnf); refine same_i ?_)
                        conv => whnf
                        refine same_q (congrArg (fun x => SV.agg [SV.arr8 240 x]) (ovr_step (by omega) ?hv ?hkk)) ?_
                        case hkk => show q.i * 4 + r.i = 4 * q.i + r.i; omega
                        case hv =>
                          show (ovr _ _ _ _).getD (((q.i : Int) - 8).toNat * 4 + r.i) 0 ^^^ _ = _
                          rw [ovr_get (by omega) _ (by omega), kw_old hkn (by omega), show ((q.i : Int) - 8).toNat * 4 + r.i = 4 * (q.i - 8) + r.i by omega]
                          rfl
                        repeat ((conv => whnf); refine same_i ?_)
                        exact trivial
                      · have e7 : r.i = 4 := by omega
                        rw [e7, ovr_kw hkn (by omega) hnx]
                        repeat ((conv => whnf); first | refine pre_a ?_ | refine cond_ta ?_ | refine cond_fa ?_ | refine same_i ?_)
                        conv => whnf
                        refine ⟨⟨q.i + 1, h4⟩, [0, 1], by show (60) - (q.i + 1) < (60) - q.i; omega, ?_⟩
                        repeat ((conv => whnf); refine same_i ?_)
                        conv => whnf
                        refine same_q (congrArg SV.u8 (by show (rc ((q.i - 1) / 8)) = rc ((q.i + 1 - 1) / 8); rw [Nat.add_sub_cancel, rc_keep (by omega) h6])) ?_
                        repeat ((conv => whnf); refine same_i ?_)
                        exact trivial
            · have e4 : q.i = 60 := by omega
              rw [e4, kw_all (by rfl)]
              have hW := ks_len hkn 60
              generalize ks key 8 60 = W at *
              repeat ((conv => whnf); first | refine pre_a ?_ | refine cond_ta ?_ | refine cond_fa ?_ | refine same_i ?_)
              conv => whnf
              refine loop_h (Ix (60)) (fun u => ⟨[(0, .str key), (2, .nilptr), (3, .bool false), (4, .ptr 0 0 0 []), (5, .int 8), (6, .sl 1 0 0 [] 60 60), (141, .int 60), (142, .int u.i)], [.mk 147 [.arr8 256 box, .sl 2 0 0 [] 15 15], .mk 140 [.arr8 240 W], .mk 103 [.arr8 240 (kc W u.i)]]⟩) (fun u => (60) - u.i) ⟨0, Nat.zero_le _⟩ [0, 1, 2] ?_ ?_
              · repeat ((conv => whnf); refine same_i ?_)
                conv => whnf
                refine same_q (congrArg (fun x => SV.agg [SV.arr8 240 x]) (by rw [kc_zero, hW]; rfl)) ?_
                repeat ((conv => whnf); refine same_i ?_)
                exact trivial
              · intro u
                have hui := u.hi
                have hlk := kc_len (W := W) (i := u.i) (by omega)
                have hU : ((u.i : Int)).toNat = u.i := Int.toNat_natCast _
                have hd : (u.i : Int).tdiv 4 = ((u.i / 4 : Nat) : Int) := by rw [Int.tdiv_eq_ediv_of_nonneg (by omega)]; omega
                have hm : (u.i : Int).tmod 4 = ((u.i % 4 : Nat) : Int) := by rw [Int.tmod_eq_emod_of_nonneg (by omega)]; omega
                have hpd : (4 : Int) ≠ 0 ∧ fits ((u.i : Int).tdiv 4) := ⟨by decide, by unfold fits; omega⟩
                by_cases h8 : u.i < 60
                · have hs : slO 16 (4 * (u.i : Int).tmod 4).toNat = 4 * (u.i % 4) := by rw [slO_eq (by omega)]; omega
                  have hv4 : (List.take 4 (List.drop (off (addO [] ((u.i : Int)).toNat ty140.sz)) W)) = (W.drop (4 * u.i)).take 4 := by
                    show List.take 4 (List.drop (((u.i : Int)).toNat * 4) W) = _
                    rw [hU, Nat.mul_comm]
                  have hv5 : ((W.drop (4 * u.i)).take 4).length = 4 := by rw [List.length_take, List.length_drop]; omega
                  repeat ((conv => whnf); first | refine pre_a ?_ | refine cond_ta ?_ | refine cond_fa ?_ | refine same_i ?_)
                  conv => whnf
                  rw [hs, hv4, hv5, Nat.min_eq_left (show 4 ≤ 16 - (4 * (u.i : Int).tmod 4).toNat by omega)]
                  conv => whnf
                  refine ⟨⟨u.i + 1, h8⟩, [0, 1, 2], by show (60) - (u.i + 1) < (60) - u.i; omega, ?_⟩
                  repeat ((conv => whnf); refine same_i ?_)
                  conv => whnf
                  refine same_q (congrArg (fun x => SV.agg [SV.arr8 240 x]) (splice_kc (by omega) ?hv ?hkk)) ?_
                  case hkk => show ((u.i : Int).tdiv 4).toNat * 16 + 4 * (u.i % 4) = 4 * u.i; omega
                  case hv => exact List.take_of_length_le (by omega)
                  repeat ((conv => whnf); refine same_i ?_)
                  exact trivial
                · have e8 : u.i = 60 := by omega
                  rw [e8, kc_all (by omega)]
                  repeat ((conv => whnf); first | refine pre_a ?_ | refine cond_ta ?_ | refine cond_fa ?_ | refine same_i ?_)
                  conv => whnf
                  refine final_h (hp' := [.mk 147 [.arr8 256 box, .sl 1 0 0 [] 15 15], .mk 103 [.arr8 240 W]]) [0, 2] h ?_
                  repeat ((conv => whnf); refine same_i ?_)
                  exact trivial
        · have h := hn (decide_eq_false (fun h => h.elim hk hk2))
          repeat ((conv => whnf); first | refine pre_a ?_ | refine cond_ta ?_ | refine cond_fa ?_ | refine same_i ?_)
          conv => whnf
          refine final_h (hp' := []) [] h ?_
          repeat ((conv => whnf); refine same_i ?_)
          exact trivial
    · exact h.elim
end Go.Sym.A
