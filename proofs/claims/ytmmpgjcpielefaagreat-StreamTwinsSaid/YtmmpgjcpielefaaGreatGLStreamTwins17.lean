/-
  Contracts of functions of the program, each said of symbolic values, and plain laws; no condition beyond each statement's own.
-/
import GoSem.Core.Value
import Derived.Test.YtmmpgjcpielefaaGreatGLStreamTwins16
set_option linter.unusedSimpArgs false
set_option linter.unusedVariables false
namespace Go.Sym.Lp
structure Ix (n:Nat) where
  i:Nat
  hi:i≤n
variable {α:Type}
def ovr (l:List α) (a:Nat) (g:Nat→α) (i:Nat):List α:=l.take a++(List.range i).map g++l.drop (a+i)
theorem yr {l:List α} {a i:Nat} (h:a+i≤l.length) (g:Nat→α):(ovr l a g i).length=l.length:=by
  unfold ovr;simp;omega
theorem zcc (l:List α) (a:Nat) (g:Nat→α):ovr l a g 0=l:=by unfold ovr;simp
theorem zb3 {l:List α} {a i:Nat} (h:a+i≤l.length) (g:Nat→α) (j:Nat):(ovr l a g i)[j]?=if a≤j∧j<a+i then some (g (j-a)) else l[j]?:=by
  unfold ovr
  by_cases h1:j<a
  ·rw [if_neg (by omega),List.append_assoc,List.getElem?_append_left (by simp;omega),List.getElem?_take_of_lt h1]
  ·by_cases h2:j<a+i
   ·rw [if_pos ⟨by omega,h2⟩,List.append_assoc,List.getElem?_append_right (by simp;omega),List.getElem?_append_left (by simp;omega),List.length_take,Nat.min_eq_left (by omega),List.getElem?_map,List.getElem?_range (by omega)]
    rfl
   ·rw [if_neg (by omega),List.getElem?_append_right (by simp;omega),List.getElem?_drop]
    congr 1;simp;omega
theorem z4x {l:List α} {a i:Nat} (h:a+i<l.length) (g:Nat→α):(ovr l a g i).set (a+i) (g i)=ovr l a g (i+1):=by
  apply List.ext_getElem?
  intro j
  rw [List.getElem?_set,yr (by omega),zb3 (by omega),zb3 (by omega)]
  by_cases h1:a+i=j
  ·rw [if_pos h1,if_pos (by omega),if_pos (by omega),show j-a=i by omega]
  ·rw [if_neg h1]
   by_cases h2:a≤j∧j<a+i
   ·rw [if_pos h2,if_pos (by omega)]
   ·rw [if_neg h2,if_neg (by omega)]
theorem yz {l:List α} {a i j:Nat} (h:a+i≤l.length) (g:Nat→α) (hj:j<a∨a+i≤j) (z:α):(ovr l a g i).getD j z=l.getD j z:=by
  rw [List.getD_eq_getElem?_getD,List.getD_eq_getElem?_getD,zb3 h,if_neg (by omega)]
theorem ye {l:List α} {a i:Nat} (h:a+i<l.length) {g:Nat→α} {v:α} (hv:v=g i) {k:Nat} (hk:k=a+i):(ovr l a g i).set k v=ovr l a g (i+1):=by
  subst hv hk;exact z4x h g
theorem z59 (l:List α) (g:Nat→α):ovr l 0 g l.length=(List.range l.length).map g:=by
  unfold ovr;simp
theorem x2 {l:List α} {n:Nat} (h:l.length=n) (g:Nat→α):ovr l 0 g n=(List.range n).map g:=by subst h;exact z59 l g
theorem zni (n:Nat) (g:Nat→α) {j:Nat} (h:j<n) (z:α):((List.range n).map g).getD j z=g j:=by
  rw [List.getD_eq_getElem?_getD,List.getElem?_map,List.getElem?_range h];rfl
theorem z7 (n:Nat) (g:Nat→α):((List.range n).map g).length=n:=by simp
theorem xy {n:Nat} {g g':Nat→α} (h: ∀i,i<n→g i=g' i):(List.range n).map g=(List.range n).map g':=
  List.map_congr_left fun i hi=>h i (List.mem_range.1 hi)
end Go.Sym.Lp
namespace Go.Sym.Lp
theorem zio {α:Type} {l:List α} {a n i:Nat} (h:i<n) (z:α):((l.drop a).take n).getD i z=l.getD (a+i) z:=by
  rw [List.getD_eq_getElem?_getD,List.getElem?_take_of_lt h,List.getElem?_drop,←List.getD_eq_getElem?_getD]
end Go.Sym.Lp

namespace Go.Sym.Lp
open Go
theorem yc {v u:SV} {p:Prop} (e:v=u) (h:p):znh v u p:=by subst e;exact zb h
theorem z1o {P:Program} {f:FuncId} {S T:Spec} (h:zp P f S) (hST: ∀args hp K,T args hp K→S args hp K):zp P f T:=
  fun args hp K ht ρ w hr hok=>h args hp K (hST args hp K ht) ρ w hr hok
theorem ze4 (m a:Nat):slO m a≤a:=by unfold slO;split<;>omega
theorem yy {m a:Nat} (h:m≠a):slO m a=a:=by unfold slO;rw [if_neg h]
theorem zcy {x:Int} {n:Nat} (h:0≤x):(x.tmod n).toNat=x.toNat%n:=by
  obtain ⟨k,rfl⟩:=Int.eq_ofNat_of_zero_le h
  rw [←Int.ofNat_tmod];exact Int.toNat_natCast _
end Go.Sym.Lp
