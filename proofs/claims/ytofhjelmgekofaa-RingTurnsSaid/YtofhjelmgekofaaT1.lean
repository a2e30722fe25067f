/-
  Contracts of functions of the program, each said of symbolic values; no condition beyond each statement's own.
-/
import Derived.Test.YtofhjelmgekofaaSymAc
import Derived.Test.YtofhjelmgekofaaRows
namespace Go.Sym.R
open Go.Proofs.Try
def ty3 : TyI := ⟨(.int .i64), 1, 8, (.int 0), false⟩
theorem ty3_ok : TyOK prog 3 ty3 := ⟨⟨_, info_of Go.Proofs.Try.typeInfo3, rfl, rfl, fun _ => rfl⟩, ⟨by simp [ty3, SV.ok, okL], by simp [ty3, Ty.agg], by simp [ty3, SV.size, sizeL]⟩, Go.Proofs.Try.underlying3, fun h => by cases h⟩
def ty4 : TyI := ⟨.bool, 1, 1, (.bool false), false⟩
theorem ty4_ok : TyOK prog 4 ty4 := ⟨⟨_, info_of Go.Proofs.Try.typeInfo4, rfl, rfl, fun _ => rfl⟩, ⟨by simp [ty4, SV.ok, okL], by simp [ty4, Ty.agg], by simp [ty4, SV.size, sizeL]⟩, Go.Proofs.Try.underlying4, fun h => by cases h⟩
def ty5 : TyI := ⟨(.int .u8), 1, 1, (.u8 0), false⟩
theorem ty5_ok : TyOK prog 5 ty5 := ⟨⟨_, info_of Go.Proofs.Try.typeInfo5, rfl, rfl, fun _ => rfl⟩, ⟨by simp [ty5, SV.ok, okL], by simp [ty5, Ty.agg], by simp [ty5, SV.size, sizeL]⟩, Go.Proofs.Try.underlying5, fun h => by cases h⟩
def ty9 : TyI := ⟨.str, 1, 16, (.str []), false⟩
theorem ty9_ok : TyOK prog 9 ty9 := ⟨⟨_, info_of Go.Proofs.Try.typeInfo9, rfl, rfl, fun _ => rfl⟩, ⟨by simp [ty9, SV.ok, okL], by simp [ty9, Ty.agg], by simp [ty9, SV.size, sizeL]⟩, Go.Proofs.Try.underlying9, fun h => by cases h⟩
def ty23 : TyI := ⟨.ptr, 1, 8, (.nilptr), false⟩
theorem ty23_ok : TyOK prog 23 ty23 := ⟨⟨_, info_of Go.Proofs.Try.typeInfo23, rfl, rfl, fun _ => rfl⟩, ⟨by simp [ty23, SV.ok, okL], by simp [ty23, Ty.agg], by simp [ty23, SV.size, sizeL]⟩, ⟨_, Go.Proofs.Try.underlying23⟩, fun h => by cases h⟩
def ty24 : TyI := ⟨(.int .i64), 1, 8, (.int 0), false⟩
theorem ty24_ok : TyOK prog 24 ty24 := ⟨⟨_, info_of Go.Proofs.Try.typeInfo24, rfl, rfl, fun _ => rfl⟩, ⟨by simp [ty24, SV.ok, okL], by simp [ty24, Ty.agg], by simp [ty24, SV.size, sizeL]⟩, Go.Proofs.Try.underlying24, fun h => by cases h⟩
def ty35 : TyI := ⟨(.sl 5), 1, 24, (.nilsl), false⟩
theorem ty35_ok : TyOK prog 35 ty35 := ⟨⟨_, info_of Go.Proofs.Try.typeInfo35, rfl, rfl, fun _ => rfl⟩, ⟨by simp [ty35, SV.ok, okL], by simp [ty35, Ty.agg], by simp [ty35, SV.size, sizeL]⟩, Go.Proofs.Try.underlying35, fun h => by cases h⟩
def ty63 : TyI := ⟨(.struct [(0, 35), (1, 3), (2, 3)]), 3, 40, (.agg [.nilsl, .int 0, .int 0]), false⟩
theorem ty63_ok : TyOK prog 63 ty63 := ⟨⟨_, info_of Go.Proofs.Try.typeInfo63, rfl, rfl, fun _ => rfl⟩, ⟨by simp [ty63, SV.ok, okL], by simp [ty63, Ty.agg], by simp [ty63, SV.size, sizeL]⟩, ⟨_, Go.Proofs.Try.underlying63, rfl, by decide⟩, fun h => by cases h⟩
def ty79 : TyI := ⟨(.arr 4 77), 4, 32, (.arr64 4 [0, 0, 0, 0]), true⟩
theorem ty79_ok : TyOK prog 79 ty79 := ⟨⟨_, info_of Go.Proofs.Try.typeInfo79, rfl, rfl, fun _ => rfl⟩, ⟨by simp [ty79, SV.ok, okL], by simp [ty79, Ty.agg], by simp [ty79, SV.size, sizeL]⟩, Go.Proofs.Try.underlying79, fun _ => ⟨by decide +kernel, Go.Proofs.Try.eqGuardType79⟩⟩
def ty71 : TyI := ⟨(.arr 8 70), 8, 32, (.arr32 8 [0, 0, 0, 0, 0, 0, 0, 0]), true⟩
theorem ty71_ok : TyOK prog 71 ty71 := ⟨⟨_, info_of Go.Proofs.Try.typeInfo71, rfl, rfl, fun _ => rfl⟩, ⟨by simp [ty71, SV.ok, okL], by simp [ty71, Ty.agg], by simp [ty71, SV.size, sizeL]⟩, Go.Proofs.Try.underlying71, fun _ => ⟨by decide +kernel, Go.Proofs.Try.eqGuardType71⟩⟩
def tys : List (Nat × TyI) := [(3, ty3), (4, ty4), (5, ty5), (9, ty9), (23, ty23), (24, ty24), (35, ty35), (63, ty63), (79, ty79), (71, ty71)]
theorem tys_ok : ∀ t i, look tys t = some i → TyOK prog t i := by
  intro t i h
  simp only [tys, look] at h
  split at h
  · rename_i e; subst e; cases h; exact ty3_ok
  split at h
  · rename_i e; subst e; cases h; exact ty4_ok
  split at h
  · rename_i e; subst e; cases h; exact ty5_ok
  split at h
  · rename_i e; subst e; cases h; exact ty9_ok
  split at h
  · rename_i e; subst e; cases h; exact ty23_ok
  split at h
  · rename_i e; subst e; cases h; exact ty24_ok
  split at h
  · rename_i e; subst e; cases h; exact ty35_ok
  split at h
  · rename_i e; subst e; cases h; exact ty63_ok
  split at h
  · rename_i e; subst e; cases h; exact ty79_ok
  split at h
  · rename_i e; subst e; cases h; exact ty71_ok
  cases h
end Go.Sym.R
