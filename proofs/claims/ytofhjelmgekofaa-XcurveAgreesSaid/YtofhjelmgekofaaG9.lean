/-
  Contracts of functions of the program, each said of symbolic values, and plain laws; no condition beyond each statement's own.
-/
import Derived.Test.YtofhjelmgekofaaG8
import Derived.Test.YtofhjelmgekofaaRows
import Derived.Shelf.Spec.BitsCarry
set_option linter.unusedSimpArgs false
set_option linter.unusedVariables false
namespace Go.Sym.N
open Go.Proofs.Try
def ty3 : TyI := ⟨(.int .i64), 1, 8, (.int 0), false⟩
theorem ty3_ok : TyOK prog 3 ty3 := ⟨⟨_, info_of Go.Proofs.Try.typeInfo3, rfl, rfl, fun _ => rfl⟩, ⟨by simp [ty3, SV.ok, okL], by simp [ty3, Ty.agg], by simp [ty3, SV.size, sizeL]⟩, Go.Proofs.Try.underlying3, fun h => by cases h⟩
def ty4 : TyI := ⟨.bool, 1, 1, (.bool false), false⟩
theorem ty4_ok : TyOK prog 4 ty4 := ⟨⟨_, info_of Go.Proofs.Try.typeInfo4, rfl, rfl, fun _ => rfl⟩, ⟨by simp [ty4, SV.ok, okL], by simp [ty4, Ty.agg], by simp [ty4, SV.size, sizeL]⟩, Go.Proofs.Try.underlying4, fun h => by cases h⟩
def ty5 : TyI := ⟨(.int .u8), 1, 1, (.u8 0), false⟩
theorem ty5_ok : TyOK prog 5 ty5 := ⟨⟨_, info_of Go.Proofs.Try.typeInfo5, rfl, rfl, fun _ => rfl⟩, ⟨by simp [ty5, SV.ok, okL], by simp [ty5, Ty.agg], by simp [ty5, SV.size, sizeL]⟩, Go.Proofs.Try.underlying5, fun h => by cases h⟩
def ty9 : TyI := ⟨.str, 1, 16, (.str []), false⟩
theorem ty9_ok : TyOK prog 9 ty9 := ⟨⟨_, info_of Go.Proofs.Try.typeInfo9, rfl, rfl, fun _ => rfl⟩, ⟨by simp [ty9, SV.ok, okL], by simp [ty9, Ty.agg], by simp [ty9, SV.size, sizeL]⟩, Go.Proofs.Try.underlying9, fun h => by cases h⟩
def ty24 : TyI := ⟨(.int .i64), 1, 8, (.int 0), false⟩
theorem ty24_ok : TyOK prog 24 ty24 := ⟨⟨_, info_of Go.Proofs.Try.typeInfo24, rfl, rfl, fun _ => rfl⟩, ⟨by simp [ty24, SV.ok, okL], by simp [ty24, Ty.agg], by simp [ty24, SV.size, sizeL]⟩, Go.Proofs.Try.underlying24, fun h => by cases h⟩
def ty35 : TyI := ⟨(.sl 5), 1, 24, (.nilsl), false⟩
theorem ty35_ok : TyOK prog 35 ty35 := ⟨⟨_, info_of Go.Proofs.Try.typeInfo35, rfl, rfl, fun _ => rfl⟩, ⟨by simp [ty35, SV.ok, okL], by simp [ty35, Ty.agg], by simp [ty35, SV.size, sizeL]⟩, Go.Proofs.Try.underlying35, fun h => by cases h⟩
def ty41 : TyI := ⟨(.sl 9), 1, 24, (.nilsl), false⟩
theorem ty41_ok : TyOK prog 41 ty41 := ⟨⟨_, info_of Go.Proofs.Try.typeInfo41, rfl, rfl, fun _ => rfl⟩, ⟨by simp [ty41, SV.ok, okL], by simp [ty41, Ty.agg], by simp [ty41, SV.size, sizeL]⟩, Go.Proofs.Try.underlying41, fun h => by cases h⟩
def ty42 : TyI := ⟨(.sl 3), 1, 24, (.nilsl), false⟩
theorem ty42_ok : TyOK prog 42 ty42 := ⟨⟨_, info_of Go.Proofs.Try.typeInfo42, rfl, rfl, fun _ => rfl⟩, ⟨by simp [ty42, SV.ok, okL], by simp [ty42, Ty.agg], by simp [ty42, SV.size, sizeL]⟩, Go.Proofs.Try.underlying42, fun h => by cases h⟩
def ty50 : TyI := ⟨(.int .u64), 1, 8, (.u64 0), false⟩
theorem ty50_ok : TyOK prog 50 ty50 := ⟨⟨_, info_of Go.Proofs.Try.typeInfo50, rfl, rfl, fun _ => rfl⟩, ⟨by simp [ty50, SV.ok, okL], by simp [ty50, Ty.agg], by simp [ty50, SV.size, sizeL]⟩, Go.Proofs.Try.underlying50, fun h => by cases h⟩
def ty67 : TyI := ⟨.func, 1, 8, (.nilfn), false⟩
theorem ty67_ok : TyOK prog 67 ty67 := ⟨⟨_, info_of Go.Proofs.Try.typeInfo67, rfl, rfl, fun _ => rfl⟩, ⟨by simp [ty67, SV.ok, okL], by simp [ty67, Ty.agg], by simp [ty67, SV.size, sizeL]⟩, ⟨_, _, _, Go.Proofs.Try.underlying67⟩, fun h => by cases h⟩
def ty69 : TyI := ⟨.ptr, 1, 8, (.nilptr), false⟩
theorem ty69_ok : TyOK prog 69 ty69 := ⟨⟨_, info_of Go.Proofs.Try.typeInfo69, rfl, rfl, fun _ => rfl⟩, ⟨by simp [ty69, SV.ok, okL], by simp [ty69, Ty.agg], by simp [ty69, SV.size, sizeL]⟩, ⟨_, Go.Proofs.Try.underlying69⟩, fun h => by cases h⟩
def ty70 : TyI := ⟨(.int .u32), 1, 4, (.u32 0), false⟩
theorem ty70_ok : TyOK prog 70 ty70 := ⟨⟨_, info_of Go.Proofs.Try.typeInfo70, rfl, rfl, fun _ => rfl⟩, ⟨by simp [ty70, SV.ok, okL], by simp [ty70, Ty.agg], by simp [ty70, SV.size, sizeL]⟩, Go.Proofs.Try.underlying70, fun h => by cases h⟩
def ty71 : TyI := ⟨(.arr 8 70), 8, 32, (.arr32 8 [0, 0, 0, 0, 0, 0, 0, 0]), true⟩
theorem ty71_ok : TyOK prog 71 ty71 := ⟨⟨_, info_of Go.Proofs.Try.typeInfo71, rfl, rfl, fun _ => rfl⟩, ⟨by simp [ty71, SV.ok, okL], by simp [ty71, Ty.agg], by simp [ty71, SV.size, sizeL]⟩, Go.Proofs.Try.underlying71, fun _ => ⟨by decide +kernel, Go.Proofs.Try.eqGuardType71⟩⟩
def ty72 : TyI := ⟨(.arr 8 70), 8, 32, (.arr32 8 [0, 0, 0, 0, 0, 0, 0, 0]), true⟩
theorem ty72_ok : TyOK prog 72 ty72 := ⟨⟨_, info_of Go.Proofs.Try.typeInfo72, rfl, rfl, fun _ => rfl⟩, ⟨by simp [ty72, SV.ok, okL], by simp [ty72, Ty.agg], by simp [ty72, SV.size, sizeL]⟩, Go.Proofs.Try.underlying72, fun _ => ⟨by decide +kernel, Go.Proofs.Try.eqGuardType72⟩⟩
def ty77 : TyI := ⟨(.int .u64), 1, 8, (.u64 0), false⟩
theorem ty77_ok : TyOK prog 77 ty77 := ⟨⟨_, info_of Go.Proofs.Try.typeInfo77, rfl, rfl, fun _ => rfl⟩, ⟨by simp [ty77, SV.ok, okL], by simp [ty77, Ty.agg], by simp [ty77, SV.size, sizeL]⟩, Go.Proofs.Try.underlying77, fun h => by cases h⟩
def ty78 : TyI := ⟨(.arr 4 77), 4, 32, (.arr64 4 [0, 0, 0, 0]), true⟩
theorem ty78_ok : TyOK prog 78 ty78 := ⟨⟨_, info_of Go.Proofs.Try.typeInfo78, rfl, rfl, fun _ => rfl⟩, ⟨by simp [ty78, SV.ok, okL], by simp [ty78, Ty.agg], by simp [ty78, SV.size, sizeL]⟩, Go.Proofs.Try.underlying78, fun _ => ⟨by decide +kernel, Go.Proofs.Try.eqGuardType78⟩⟩
def ty79 : TyI := ⟨(.arr 4 77), 4, 32, (.arr64 4 [0, 0, 0, 0]), true⟩
theorem ty79_ok : TyOK prog 79 ty79 := ⟨⟨_, info_of Go.Proofs.Try.typeInfo79, rfl, rfl, fun _ => rfl⟩, ⟨by simp [ty79, SV.ok, okL], by simp [ty79, Ty.agg], by simp [ty79, SV.size, sizeL]⟩, Go.Proofs.Try.underlying79, fun _ => ⟨by decide +kernel, Go.Proofs.Try.eqGuardType79⟩⟩
def ty94 : TyI := ⟨(.struct [(0, 79), (4, 77), (5, 79), (9, 79)]), 13, 104, (.agg [.arr64 4 [0, 0, 0, 0], .u64 0, .arr64 4 [0, 0, 0, 0], .arr64 4 [0, 0, 0, 0]]), true⟩
theorem ty94_ok : TyOK prog 94 ty94 := ⟨⟨_, info_of Go.Proofs.Try.typeInfo94, rfl, rfl, fun _ => rfl⟩, ⟨by simp [ty94, SV.ok, okL], by simp [ty94, Ty.agg], by simp [ty94, SV.size, sizeL]⟩, ⟨_, Go.Proofs.Try.underlying94, rfl, by decide⟩, fun _ => ⟨by decide +kernel, Go.Proofs.Try.eqGuardType94⟩⟩
def ty97 : TyI := ⟨(.arr 6 77), 6, 48, (.arr64 6 [0, 0, 0, 0, 0, 0]), true⟩
theorem ty97_ok : TyOK prog 97 ty97 := ⟨⟨_, info_of Go.Proofs.Try.typeInfo97, rfl, rfl, fun _ => rfl⟩, ⟨by simp [ty97, SV.ok, okL], by simp [ty97, Ty.agg], by simp [ty97, SV.size, sizeL]⟩, Go.Proofs.Try.underlying97, fun _ => ⟨by decide +kernel, Go.Proofs.Try.eqGuardType97⟩⟩
def ty108 : TyI := ⟨(.arr 10 77), 10, 80, (.arr64 10 (List.replicate 10 0)), true⟩
theorem ty108_ok : TyOK prog 108 ty108 := ⟨⟨_, info_of Go.Proofs.Try.typeInfo108, rfl, rfl, fun _ => rfl⟩, ⟨by simp [ty108, SV.ok, okL], by simp [ty108, Ty.agg], by simp [ty108, SV.size, sizeL]⟩, Go.Proofs.Try.underlying108, fun _ => ⟨by decide +kernel, Go.Proofs.Try.eqGuardType108⟩⟩
def tys : List (Nat × TyI) := [(3, ty3), (4, ty4), (5, ty5), (9, ty9), (24, ty24), (35, ty35), (41, ty41), (42, ty42), (50, ty50), (67, ty67), (69, ty69), (70, ty70), (71, ty71), (72, ty72), (77, ty77), (78, ty78), (79, ty79), (94, ty94), (97, ty97), (108, ty108)]
theorem tys_ok : ∀ t i, look tys t = some i → TyOK prog t i := (tyok_cons ty3_ok (tyok_cons ty4_ok (tyok_cons ty5_ok (tyok_cons ty9_ok (tyok_cons ty24_ok (tyok_cons ty35_ok (tyok_cons ty41_ok (tyok_cons ty42_ok (tyok_cons ty50_ok (tyok_cons ty67_ok (tyok_cons ty69_ok (tyok_cons ty70_ok (tyok_cons ty71_ok (tyok_cons ty72_ok (tyok_cons ty77_ok (tyok_cons ty78_ok (tyok_cons ty79_ok (tyok_cons ty94_ok (tyok_cons ty97_ok (tyok_cons ty108_ok tyok_nil))))))))))))))))))))
/-- sizes -/
theorem tysz : ty3.sz = 1 ∧ ty3.bytes = 8 ∧ ty4.sz = 1 ∧ ty4.bytes = 1 ∧ ty5.sz = 1 ∧ ty5.bytes = 1 ∧ ty9.sz = 1 ∧ ty9.bytes = 16 ∧ ty24.sz = 1 ∧ ty24.bytes = 8 ∧ ty35.sz = 1 ∧ ty35.bytes = 24 ∧ ty41.sz = 1 ∧ ty41.bytes = 24 ∧ ty42.sz = 1 ∧ ty42.bytes = 24 ∧ ty50.sz = 1 ∧ ty50.bytes = 8 ∧ ty67.sz = 1 ∧ ty67.bytes = 8 ∧ ty69.sz = 1 ∧ ty69.bytes = 8 ∧ ty70.sz = 1 ∧ ty70.bytes = 4 ∧ ty71.sz = 8 ∧ ty71.bytes = 32 ∧ ty72.sz = 8 ∧ ty72.bytes = 32 ∧ ty77.sz = 1 ∧ ty77.bytes = 8 ∧ ty78.sz = 4 ∧ ty78.bytes = 32 ∧ ty79.sz = 4 ∧ ty79.bytes = 32 ∧ ty94.sz = 13 ∧ ty94.bytes = 104 ∧ ty97.sz = 6 ∧ ty97.bytes = 48 ∧ ty108.sz = 10 ∧ ty108.bytes = 80 := by
  refine ⟨rfl, rfl, rfl, rfl, rfl, rfl, rfl, rfl, rfl, rfl, rfl, rfl, rfl, rfl, rfl, rfl, rfl, rfl, rfl, rfl, rfl, rfl, rfl, rfl, rfl, rfl, rfl, rfl, rfl, rfl, rfl, rfl, rfl, rfl, rfl, rfl, rfl, rfl, rfl, rfl⟩
/-- lengths -/
theorem lens : (∀ {α : Type} {x y : List α}, (x ++ y).length = x.length + y.length) ∧ (∀ {α : Type} {i : Nat} {l : List α}, (List.take i l).length = min i l.length) ∧ (∀ {α : Type} {i : Nat} {l : List α}, (List.drop i l).length = l.length - i) ∧ (∀ {α : Type}, ([] : List α).length = 0) ∧ (∀ {α : Type} {a : α} {l : List α}, (a :: l).length = l.length + 1) ∧ (∀ {α : Type} {n : Nat} {a : α}, (List.replicate n a).length = n) ∧ (∀ {α : Type} {l : List α} {i : Nat} {a : α}, (l.set i a).length = l.length) :=
  ⟨List.length_append, List.length_take, List.length_drop, List.length_nil, List.length_cons, List.length_replicate, List.length_set⟩
end Go.Sym.N
