/-
  Contracts of functions of the program, each said of symbolic values, and plain laws; no condition beyond each statement's own.
-/
import GoSem.Core.Value
import Derived.Test.YtmmpgjcpielefaaGreatGLStreamActs12
set_option linter.unusedSimpArgs false
set_option linter.unusedVariables false
namespace Go.Sym.Lp
structure Ix (n:Nat) where
  i:Nat
  hi:i≤n
variable {α:Type}
def ovr (l:List α) (a:Nat) (g:Nat→α) (i:Nat):List α:=l.take a++(List.range i).map g++l.drop (a+i)
theorem yg {l:List α} {a i:Nat} (h:a+i≤l.length) (g:Nat→α):(ovr l a g i).length=l.length:=by
  unfold ovr;simp;omega
theorem zaj (l:List α) (a:Nat) (g:Nat→α):ovr l a g 0=l:=by unfold ovr;simp
theorem zdd {l:List α} {a i:Nat} (h:a+i≤l.length) (g:Nat→α) (j:Nat):(ovr l a g i)[j]?=if a≤j∧j<a+i then some (g (j-a)) else l[j]?:=by
  unfold ovr
  by_cases h1:j<a
  ·rw [if_neg (by omega),List.append_assoc,List.getElem?_append_left (by simp;omega),List.getElem?_take_of_lt h1]
  ·by_cases h2:j<a+i
   ·rw [if_pos ⟨by omega,h2⟩,List.append_assoc,List.getElem?_append_right (by simp;omega),List.getElem?_append_left (by simp;omega),List.length_take,Nat.min_eq_left (by omega),List.getElem?_map,List.getElem?_range (by omega)]
    rfl
   ·rw [if_neg (by omega),List.getElem?_append_right (by simp;omega),List.getElem?_drop]
    congr 1;simp;omega
theorem ya7 {l:List α} {a i:Nat} (h:a+i<l.length) (g:Nat→α):(ovr l a g i).set (a+i) (g i)=ovr l a g (i+1):=by
  apply List.ext_getElem?
  intro j
  rw [List.getElem?_set,yg (by omega),zdd (by omega),zdd (by omega)]
  by_cases h1:a+i=j
  ·rw [if_pos h1,if_pos (by omega),if_pos (by omega),show j-a=i by omega]
  ·rw [if_neg h1]
   by_cases h2:a≤j∧j<a+i
   ·rw [if_pos h2,if_pos (by omega)]
   ·rw [if_neg h2,if_neg (by omega)]
theorem yw {l:List α} {a i j:Nat} (h:a+i≤l.length) (g:Nat→α) (hj:j<a∨a+i≤j) (z:α):(ovr l a g i).getD j z=l.getD j z:=by
  rw [List.getD_eq_getElem?_getD,List.getD_eq_getElem?_getD,zdd h,if_neg (by omega)]
theorem z9 {l:List α} {a i:Nat} (h:a+i<l.length) {g:Nat→α} {v:α} (hv:v=g i) {k:Nat} (hk:k=a+i):(ovr l a g i).set k v=ovr l a g (i+1):=by
  subst hv hk;exact ya7 h g
theorem ya9 (l:List α) (g:Nat→α):ovr l 0 g l.length=(List.range l.length).map g:=by
  unfold ovr;simp
theorem y4 {l:List α} {n:Nat} (h:l.length=n) (g:Nat→α):ovr l 0 g n=(List.range n).map g:=by subst h;exact ya9 l g
theorem zij (n:Nat) (g:Nat→α) {j:Nat} (h:j<n) (z:α):((List.range n).map g).getD j z=g j:=by
  rw [List.getD_eq_getElem?_getD,List.getElem?_map,List.getElem?_range h];rfl
theorem zz (n:Nat) (g:Nat→α):((List.range n).map g).length=n:=by simp
theorem yo {n:Nat} {g g':Nat→α} (h: ∀i,i<n→g i=g' i):(List.range n).map g=(List.range n).map g':=
  List.map_congr_left fun i hi=>h i (List.mem_range.1 hi)
theorem zne {l:List α} {n:Nat} (h:l.length=n) (z:α):(List.range n).map (fun i=>l.getD i z)=l:=by
  subst h
  apply List.ext_getElem?
  intro j
  by_cases hj:j<l.length
  ·rw [List.getElem?_map,List.getElem?_range hj,Option.map_some,List.getD_eq_getElem?_getD,List.getElem?_eq_getElem hj];rfl
  ·rw [List.getElem?_eq_none (by simp;omega),List.getElem?_eq_none (by omega)]
end Go.Sym.Lp
namespace Go.Sym.Lp
theorem zgy {α:Type} {l:List α} {a n i:Nat} (h:i<n) (z:α):((l.drop a).take n).getD i z=l.getD (a+i) z:=by
  rw [List.getD_eq_getElem?_getD,List.getElem?_take_of_lt h,List.getElem?_drop,←List.getD_eq_getElem?_getD]
end Go.Sym.Lp

namespace Go.Sym.Lp
open Go
theorem zv {v u:SV} {p:Prop} (e:v=u) (h:p):zqv v u p:=by subst e;exact zb h
theorem z8f {P:Program} {f:FuncId} {S T:Spec} (h:zp P f S) (hST: ∀args hp K,T args hp K→S args hp K):zp P f T:=
  fun args hp K ht ρ w hr hok=>h args hp K (hST args hp K ht) ρ w hr hok
theorem zix (m a:Nat):slO m a≤a:=by unfold slO;split<;>omega
theorem y7 {m a:Nat} (h:m≠a):slO m a=a:=by unfold slO;rw [if_neg h]
theorem zeg {x:Int} {n:Nat} (h:0≤x):(x.tmod n).toNat=x.toNat%n:=by
  obtain ⟨k,rfl⟩:=Int.eq_ofNat_of_zero_le h
  rw [←Int.ofNat_tmod];exact Int.toNat_natCast _
theorem zqx {a b:Nat} {l m:List UInt8} (h1:a=b) (h2:l=m):SV.agg [SV.arr8 a l]=SV.agg [SV.arr8 b m]:=by rw [h1,h2]
end Go.Sym.Lp
