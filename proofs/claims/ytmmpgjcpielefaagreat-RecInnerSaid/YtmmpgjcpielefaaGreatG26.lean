/-
  Contracts of functions of the program, each said of symbolic values, and plain laws; no condition beyond each statement's own.
-/
import Derived.Test.YtmmpgjcpielefaaGreatG25
import Derived.Test.YtmmpgjcpielefaaGreatG23
set_option linter.unusedSimpArgs false
set_option linter.unusedVariables false
namespace Go.Sym.Z
open Go Go.Proofs.Tryz Go.Sym.Lp Go.Sym.Cha Go.Sym.Sha
set_option maxRecDepth 100000
attribute [local irreducible] zb5 y8 y7 zby zce
def ygq:List (Nat×List PStep):= []
def yf7:List (Nat×List PStep):= []
def yei:List (Nat×List PStep):= [(6,[⟨0,[]⟩,⟨1,[]⟩,⟨2,[]⟩,⟨3,[]⟩,⟨4,[0,1,2,3]⟩,⟨5,[0,1,2,3]⟩,⟨6,[0,1,2,3]⟩,⟨7,[0,1,2,3]⟩,⟨8,[4,5,6,7]⟩,⟨9,[]⟩]),(7,[⟨0,[]⟩,⟨1,[0]⟩,⟨2,[0]⟩,⟨3,[0]⟩,⟨4,[0]⟩,⟨5,[0,1,2,3,4]⟩,⟨6,[0,1,2,3,4]⟩,⟨7,[0,1,2,3,4]⟩,⟨8,[0,1,2,3,4]⟩,⟨9,[0]⟩,⟨10,[0,1,2,3,4,5,6,7,8,9]⟩,⟨12,[0,1,2,3,4,5,6,7,8,9,10]⟩,⟨15,[0,1,2,3,4,5,6,7,8,9,10,12]⟩,⟨16,[0,1,2,3,4,5,6,7,8,9,10,12]⟩,⟨19,[0,1,2,3,4,5,6,7,8,9,10,12,15,16]⟩,⟨21,[0,1,2,3,4,5,6,7,8,9,10,12,15,16,19]⟩,⟨24,[0,1,2,3,4,5,6,7,8,9,10,12,15,16,19,21]⟩,⟨25,[0,1,2,3,4,5,6,7,8,9,10,12,15,16,19,21]⟩,⟨11,[0,1,2,3,4,5,6,7,8,9,12,15,16,19,21,24,25]⟩,⟨13,[0,1,2,3,4,5,6,7,8,9,15,16,19,21,24,25]⟩,⟨14,[0,1,2,3,4,5,6,7,8,9,15,16,19,21,24,25]⟩,⟨17,[0,1,2,3,4,5,6,7,8,9,19,21,24,25]⟩,⟨18,[0,19,21,24,25]⟩,⟨20,[0,1,2,3,4,5,6,7,8,9,15,16,21,24,25,14,17,18]⟩,⟨22,[0,1,2,3,4,5,6,7,8,9,15,16,24,25,14,17,18]⟩,⟨23,[0,1,2,3,4,5,6,7,8,9,15,16,24,25,14,17,18]⟩,⟨26,[0,1,2,3,4,5,6,7,8,9,15,16,14,17,18]⟩,⟨27,[0]⟩,⟨28,[]⟩,⟨29,[]⟩]),(18,[⟨0,[]⟩,⟨1,[]⟩,⟨2,[0,1]⟩,⟨3,[0,1]⟩,⟨4,[2,3]⟩,⟨5,[]⟩]),(19,[⟨0,[]⟩,⟨1,[]⟩,⟨2,[0,1]⟩,⟨4,[0,1,2]⟩,⟨7,[0,1,2,4]⟩,⟨11,[0,1,2,4,7]⟩,⟨12,[0,1,2,4,7,11]⟩,⟨13,[0,1,2,4,7,11]⟩,⟨14,[0,1,2,4,7]⟩,⟨15,[0,1,2,4,7,11,12,13,14]⟩,⟨16,[0,1,2,4,7,11,12,13,14]⟩,⟨17,[0,1,2,4,7,11,12,13,14,15,16]⟩,⟨18,[0,1,2,4,7,11,12,13,14,15,16]⟩,⟨19,[0,1,2,4,7,11,12,13,14]⟩,⟨20,[0,1,2,4,7]⟩,⟨22,[0,1,2,4,7,11,12,13,14,15,16,17,18,19,20]⟩,⟨23,[0,1,2,4,7,11,12,13,14,15,16,17,18,19,20,22]⟩,⟨24,[0,1,2,4,7,11,12,13,14,15,16,17,18,19,20,23]⟩,⟨25,[0,1,2,4,7,11,12,13,14,15,16,17,18,19,20,23]⟩,⟨26,[0,1,2,4,7,11,12,13,14,15,16,17,18,19,20]⟩,⟨27,[0,1,2,4,7,11,12,13,14,15,16,17,18,19,20]⟩,⟨28,[0,1,2,4,7,11,12,13,14,15,16,17,18,19,20]⟩,⟨29,[0,1,2,4,7,11,12,13,14,15,16,17,18,19,20]⟩,⟨31,[0,1,2,4,7,11,12,13,14,15,16,17,18,19,20,22,23,24,25,26,27,28,29]⟩,⟨32,[0,1,2,4,7,11,12,13,14,15,16,17,18,19,20,22,23,24,25,26,27,28,29]⟩,⟨33,[0,1,2,4,7,11,12,13,14,15,16,17,18,19,20,22,23,24,25,26,27,28,29]⟩,⟨3,[0,1,4,7,11,12,13,14,15,16,17,18,19,20,22,23,24,25,26,27,28,29,31,32,33]⟩,⟨5,[0,1,7,11,12,13,14,15,16,17,18,19,20,22,23,24,25,26,27,28,29,31,32,33]⟩,⟨6,[0,1,7,11,12,13,14,15,16,17,18,19,20,22,23,24,25,26,27,28,29,31,32,33]⟩,⟨8,[0,1,11,12,13,14,15,16,17,18,19,20,22,23,24,25,26,27,28,29,31,32,33,6]⟩,⟨9,[0,1,11,12,13,14,15,16,17,18,19,20,22,23,24,25,26,27,28,29,31,32,33]⟩,⟨10,[11,12,13,14,15,16,17,18,19,20,22,23,24,25,26,27,28,29,31,32,33]⟩,⟨21,[22,23,24,25,26,27,28,29,31,32,33]⟩,⟨30,[31,32,33]⟩,⟨34,[]⟩,⟨35,[]⟩]),(20,[⟨0,[]⟩,⟨2,[0]⟩,⟨5,[0,2]⟩,⟨8,[0,2,5]⟩,⟨9,[0,2,5,8]⟩,⟨10,[0,2,5,8]⟩,⟨11,[0,2,5]⟩,⟨12,[0,2,5,8,9,10,11]⟩,⟨13,[0,2,5,8,9,10,11,12]⟩,⟨14,[0,2,5,8,9,10,11,12]⟩,⟨15,[0,2,5,8,9,10,11]⟩,⟨16,[0,2,5]⟩,⟨17,[0,2,5,8,9,10,11,12,13,14,15,16]⟩,⟨18,[0,2,5,8,9,10,11,12,13,14,15,16]⟩,⟨19,[0,2,5,8,9,10,11,12,13,14,15,16,17,18]⟩,⟨20,[0,2,5,8,9,10,11,12,13,14,15,16,17,18]⟩,⟨21,[0,2,5,8,9,10,11,12,13,14,15,16]⟩,⟨22,[0,2,5]⟩,⟨1,[2,5,8,9,10,11,12,13,14,15,16,17,18,19,20,21,22]⟩,⟨3,[5,8,9,10,11,12,13,14,15,16,17,18,19,20,21,22]⟩,⟨4,[5,8,9,10,11,12,13,14,15,16,17,18,19,20,21,22]⟩,⟨6,[8,9,10,11,12,13,14,15,16,17,18,19,20,21,22,4]⟩,⟨7,[8,9,10,11,12,13,14,15,16,17,18,19,20,21,22]⟩,⟨23,[]⟩,⟨24,[]⟩]),(26,[⟨0,[]⟩,⟨1,[0]⟩,⟨2,[0,1]⟩,⟨3,[0,1,2]⟩,⟨4,[0,1,3]⟩,⟨5,[0,1,3]⟩,⟨6,[0,1]⟩,⟨7,[0,1]⟩,⟨8,[0,1]⟩,⟨9,[0,1,2,3,4,5,6,7,8]⟩,⟨10,[0,1,2,3,4,5,6,7,8]⟩,⟨11,[0,1,2,3,4,5,6,7,8]⟩,⟨12,[0,1]⟩,⟨13,[0,1]⟩,⟨14,[1,2,3,4,5,6,7,8,9,10,11,12,13]⟩,⟨15,[1,2,3,4,5,6,7,8,9,10,11,12,13]⟩,⟨16,[]⟩,⟨17,[]⟩])]
def yfw:List (Nat×List PStep):= [(6,[⟨0,[]⟩,⟨1,[]⟩,⟨2,[]⟩,⟨3,[]⟩,⟨4,[0,1,2,3]⟩,⟨5,[0,1,2,3]⟩,⟨6,[0,1,2,3]⟩,⟨7,[0,1,2,3]⟩,⟨8,[4,5,6,7]⟩,⟨9,[]⟩]),(7,[⟨0,[]⟩,⟨1,[0]⟩,⟨2,[0]⟩,⟨3,[0]⟩,⟨4,[0]⟩,⟨5,[0,1,2,3,4]⟩,⟨6,[0,1,2,3,4]⟩,⟨7,[0,1,2,3,4]⟩,⟨8,[0,1,2,3,4]⟩,⟨9,[0]⟩,⟨10,[0,1,2,3,4,5,6,7,8,9]⟩,⟨12,[0,1,2,3,4,5,6,7,8,9,10]⟩,⟨15,[0,1,2,3,4,5,6,7,8,9,10,12]⟩,⟨16,[0,1,2,3,4,5,6,7,8,9,10,12]⟩,⟨19,[0,1,2,3,4,5,6,7,8,9,10,12,15,16]⟩,⟨21,[0,1,2,3,4,5,6,7,8,9,10,12,15,16,19]⟩,⟨24,[0,1,2,3,4,5,6,7,8,9,10,12,15,16,19,21]⟩,⟨25,[0,1,2,3,4,5,6,7,8,9,10,12,15,16,19,21]⟩,⟨11,[0,1,2,3,4,5,6,7,8,9,12,15,16,19,21,24,25]⟩,⟨13,[0,1,2,3,4,5,6,7,8,9,15,16,19,21,24,25]⟩,⟨14,[0,1,2,3,4,5,6,7,8,9,15,16,19,21,24,25]⟩,⟨17,[0,1,2,3,4,5,6,7,8,9,19,21,24,25]⟩,⟨18,[0,19,21,24,25]⟩,⟨20,[0,1,2,3,4,5,6,7,8,9,15,16,21,24,25,14,17,18]⟩,⟨22,[0,1,2,3,4,5,6,7,8,9,15,16,24,25,14,17,18]⟩,⟨23,[0,1,2,3,4,5,6,7,8,9,15,16,24,25,14,17,18]⟩,⟨26,[0,1,2,3,4,5,6,7,8,9,15,16,14,17,18]⟩,⟨27,[0]⟩,⟨28,[]⟩,⟨29,[]⟩]),(13,[⟨0,[]⟩,⟨1,[]⟩,⟨2,[0,1]⟩,⟨3,[0,1]⟩,⟨4,[2,3]⟩,⟨5,[]⟩]),(14,[⟨0,[]⟩,⟨1,[]⟩,⟨2,[0,1]⟩,⟨4,[0,1,2]⟩,⟨7,[0,1,2,4]⟩,⟨11,[0,1,2,4,7]⟩,⟨12,[0,1,2,4,7,11]⟩,⟨13,[0,1,2,4,7,11]⟩,⟨14,[0,1,2,4,7]⟩,⟨15,[0,1,2,4,7,11,12,13,14]⟩,⟨16,[0,1,2,4,7,11,12,13,14]⟩,⟨17,[0,1,2,4,7,11,12,13,14,15,16]⟩,⟨18,[0,1,2,4,7,11,12,13,14,15,16]⟩,⟨19,[0,1,2,4,7,11,12,13,14]⟩,⟨20,[0,1,2,4,7]⟩,⟨22,[0,1,2,4,7,11,12,13,14,15,16,17,18,19,20]⟩,⟨23,[0,1,2,4,7,11,12,13,14,15,16,17,18,19,20,22]⟩,⟨24,[0,1,2,4,7,11,12,13,14,15,16,17,18,19,20,23]⟩,⟨25,[0,1,2,4,7,11,12,13,14,15,16,17,18,19,20,23]⟩,⟨26,[0,1,2,4,7,11,12,13,14,15,16,17,18,19,20]⟩,⟨27,[0,1,2,4,7,11,12,13,14,15,16,17,18,19,20]⟩,⟨29,[0,1,2,4,7,11,12,13,14,15,16,17,18,19,20,22,23,24,25,26,27]⟩,⟨30,[0,1,2,4,7,11,12,13,14,15,16,17,18,19,20,22,23,24,25,26,27]⟩,⟨31,[0,1,2,4,7,11,12,13,14,15,16,17,18,19,20,22,23,24,25,26,27]⟩,⟨3,[0,1,4,7,11,12,13,14,15,16,17,18,19,20,22,23,24,25,26,27,29,30,31]⟩,⟨5,[0,1,7,11,12,13,14,15,16,17,18,19,20,22,23,24,25,26,27,29,30,31]⟩,⟨6,[0,1,7,11,12,13,14,15,16,17,18,19,20,22,23,24,25,26,27,29,30,31]⟩,⟨8,[0,1,11,12,13,14,15,16,17,18,19,20,22,23,24,25,26,27,29,30,31,6]⟩,⟨9,[0,1,11,12,13,14,15,16,17,18,19,20,22,23,24,25,26,27,29,30,31]⟩,⟨10,[11,12,13,14,15,16,17,18,19,20,22,23,24,25,26,27,29,30,31]⟩,⟨21,[22,23,24,25,26,27,29,30,31]⟩,⟨28,[29,30,31]⟩,⟨32,[]⟩,⟨33,[]⟩]),(15,[⟨0,[]⟩,⟨2,[0]⟩,⟨5,[0,2]⟩,⟨8,[0,2,5]⟩,⟨9,[0,2,5,8]⟩,⟨10,[0,2,5,8]⟩,⟨11,[0,2,5]⟩,⟨12,[0,2,5,8,9,10,11]⟩,⟨13,[0,2,5,8,9,10,11,12]⟩,⟨14,[0,2,5,8,9,10,11,12]⟩,⟨15,[0,2,5,8,9,10,11]⟩,⟨16,[0,2,5]⟩,⟨17,[0,2,5,8,9,10,11,12,13,14,15,16]⟩,⟨18,[0,2,5,8,9,10,11,12,13,14,15,16]⟩,⟨19,[0,2,5,8,9,10,11,12,13,14,15,16,17,18]⟩,⟨20,[0,2,5,8,9,10,11,12,13,14,15,16,17,18]⟩,⟨21,[0,2,5,8,9,10,11,12,13,14,15,16]⟩,⟨22,[0,2,5]⟩,⟨1,[2,5,8,9,10,11,12,13,14,15,16,17,18,19,20,21,22]⟩,⟨3,[5,8,9,10,11,12,13,14,15,16,17,18,19,20,21,22]⟩,⟨4,[5,8,9,10,11,12,13,14,15,16,17,18,19,20,21,22]⟩,⟨6,[8,9,10,11,12,13,14,15,16,17,18,19,20,21,22,4]⟩,⟨7,[8,9,10,11,12,13,14,15,16,17,18,19,20,21,22]⟩,⟨23,[]⟩,⟨24,[]⟩]),(21,[⟨0,[]⟩,⟨1,[0]⟩,⟨2,[1]⟩,⟨3,[1]⟩,⟨4,[]⟩,⟨5,[]⟩,⟨6,[0,1,2,3,4,5]⟩,⟨7,[0,1,2,3,4,5]⟩,⟨8,[0,1,2,3,4,5]⟩,⟨9,[]⟩,⟨10,[1,2,3,4,5,6,7,8,9]⟩,⟨11,[1,2,3,4,5,6,7,8,9]⟩,⟨12,[]⟩,⟨13,[]⟩])]
def yds:List (Nat×TyI):= [(3,ty3),(4,ty4),(5,ty5),(9,ty9),(48,zd3),(51,zd6),(113,xu),(99,xm),(242,zf7),(245,zf1),(249,zf0),(239,zfy),(248,zfx),(207,zfv)]
theorem zaj: ∀t i,y9 yds t=some i→yx prog t i:=(zd zda (zd zc8 (zd zc9 (zd zdf (zd zbq (zd zbr (zd zbh (zd zcx (zd zvq (zd zub (zd zuo (zd zt4 (zd zug (zd zt1 zau))))))))))))))
theorem ycx {k:Int}:(UInt64.ofInt k&&&UInt64.ofNat 63).toNat=(k%64).toNat:=by
  rw [UInt64.toNat_and,show (UInt64.ofNat 63).toNat=2^6-1 by decide,Nat.and_two_pow_sub_one_eq_mod]
  have h:(UInt64.ofInt k).toNat=(k%18446744073709551616).toNat:=by
    unfold UInt64.ofInt
    rw [UInt64.toNat_ofNat']
    have:=Int.emod_nonneg k (show (2^64:Int)≠0 by decide)
    have:=Int.emod_lt_of_pos k (show (0:Int)<2^64 by decide)
    omega
  rw [h]
  omega
def zwd:Spec:=fun args hp K=>match args,hp with
  | [.u64 x,.int k],[]=>Pre (k%64≠0) (K (.u64 (zkt x (k%64).toNat)) [])
  |_,_=>False
theorem z8i:zm prog 192 zwd:=by
  refine zk zaj zg rfl func192 rfl call192 (D:=ygq) ?_ ?_
  ·intro args hp K h
   unfold zwd at h
   split at h
   ·exact Nat.le_of_ble_eq_true rfl
   ·exact h.elim
  ·intro args hp K h
   unfold zwd at h
   split at h
   ·rename_i x k
    obtain ⟨hk,h⟩:=zl h
    have hs:=ycx (k:=k)
    have hm:=Int.emod_lt_of_pos k (show (0:Int)<64 by decide)
    have hm0:=Int.emod_nonneg k (show (64:Int)≠0 by decide)
    have hd:(UInt64.ofNat 64-(UInt64.ofInt k&&&UInt64.ofNat 63)).toNat=64-(k%64).toNat:=by
      rw [UInt64.toNat_sub_of_le _ _ (by rw [UInt64.le_iff_toNat_le,hs];show _≤64;omega),hs];rfl
    refine za ?_
    rw [hs,hd]
    conv=>whnf
    exact ze [] h
   ·exact h.elim
def zxm:Spec:=fun args hp K=>match args,hp with
  | [.sl 0 0 0 o n c],[.mk t [.arr8 m l]]=>Pre (off o+n≤l.length∧n≤1000) (K (.u64 (num ((l.drop (off o)).take n))) [.mk t [.arr8 m l]])
  |_,_=>False
theorem zzg:zm prog 191 zxm:=by
  refine zk zaj zg rfl func191 rfl call191 (D:=yf7) ?_ ?_
  ·intro args hp K h
   unfold zxm at h
   split at h
   ·exact Nat.le_of_ble_eq_true rfl
   ·exact h.elim
  ·intro args hp K h
   unfold zxm at h
   split at h
   ·rename_i o n c t m l
    obtain ⟨⟨hl,hn⟩,h⟩:=zl h
    have hB:((l.drop (off o)).take n).length=n:=by rw [List.length_take,List.length_drop];omega
    have hN:num ((l.drop (off o)).take n)=zb5 ((l.drop (off o)).take n) n:=by unfold num;rw [hB]
    rw [hN] at h
    refine za ?_
    refine zp (Ix (n)) (fun q=>⟨[(0,.sl 0 0 0 o n c),(3,.u64 (zb5 ((l.drop (off o)).take n) q.i)),(6,.sl 0 0 0 o n c),(7,.int n),(8,.int q.i)],[.mk t [.arr8 m l]]⟩) (fun q=>(n)-q.i) ⟨0,Nat.zero_le _⟩ [0] ?_ ?_
    ·repeat ((conv=>whnf);refine zb ?_)
     conv=>whnf
     exact zh (congrArg SV.u64 (show (0:UInt64)=zb5 _ 0 by unfold zb5;rfl))
    ·intro q
     have hi:=q.hi
     have hA:off (ye o ((q.i:Int)).toNat ty5.sz)=off o+q.i:=by rw [zv];show off o+((q.i:Int)).toNat*1=_;omega
     by_cases h4:q.i<n
     ·refine za ?_
      refine ⟨⟨q.i+1,h4⟩,[0],by show (n)-(q.i+1)<(n)-q.i;omega,?_⟩
      repeat ((conv=>whnf);refine zb ?_)
      conv=>whnf
      exact zh (congrArg SV.u64 (show _=zb5 ((l.drop (off o)).take n) (q.i+1) by simp only [zb5];rw [zgn h4,←hA];rfl))
     ·have e4:q.i=n:=by omega
      rw [e4]
      refine za ?_
      exact ze [0] h
   ·exact h.elim
def zrb:Spec:=fun args hp K=>match args,hp with
  | [.ptr 0 0 0 [],.sl 1 0 0 o n c],[.mk t0 [.int m,.arr64 8 H,.arr64 80 k,.sl 1 0 0 [] rn rc,.u64 all],.mk t [.arr8 L l]]=>Pre (H.length=8∧k.length=80∧64≤n∧off o+n≤l.length∧n≤c)
      (K (.tup []) [.mk t0 [.int m,.arr64 8 (zjt k H ((l.drop (off o)).take 64)),.arr64 80 k,.sl 1 0 0 [] rn rc,.u64 all],.mk t [.arr8 L l]])
  |_,_=>False
set_option maxHeartbeats 4000000 in
theorem z6d:zm prog 189 zrb:=by
  refine zk zaj (zc zzg (zc zx8 zg)) rfl func189 rfl call189 (D:=yei) ?_ ?_
  ·intro args hp K h
   unfold zrb at h
   split at h
   ·exact Nat.le_of_ble_eq_true rfl
   ·exact h.elim
  ·intro args hp K h
   unfold zrb at h
   split at h
   ·rename_i o n c t0 m H k rn rc all t L l
    obtain ⟨⟨hH,hk,hn,hl,hc⟩,h⟩:=zl h
    obtain ⟨B,hB⟩: ∃B,B=(l.drop (off o)).take 64:=⟨_,rfl⟩
    rw [←hB] at h
    refine za ?_
    refine zp (Ix (64)) (fun q=>⟨[(0,.ptr 0 0 0 []),(1,.sl 1 0 0 o n c),(4,.ptr 2 0 0 []),(16,.int q.i)],[.mk t0 [.int m,.arr64 8 H,.arr64 80 k,.sl 1 0 0 [] rn rc,.u64 all],.mk t [.arr8 L l],.mk 249 [.arr32 64 (y8 B q.i)]]⟩) (fun q=>(64)-q.i) ⟨0,Nat.zero_le _⟩ [0,1,2] ?_ ?_
    ·repeat ((conv=>whnf);refine zb ?_)
     conv=>whnf
     exact zh (congrArg (fun x=>SV.agg [SV.arr32 64 x]) (show _=y8 B 0 by unfold y8;rfl))
    ·intro q
     have hi:=q.hi
     have hwl:=zic B q.i
     have hx0:off (ye [] ((q.i:Int)).toNat xu.sz)=q.i:=by rw [zv];show 0+((q.i:Int)).toNat*1=_;omega
     by_cases h4:q.i<64
     ·by_cases h16:q.i<16
      ·have hof:off (ye o (4*(q.i:Int)).toNat ty5.sz)=off o+4*q.i:=by rw [zv];show off o+(4*(q.i:Int)).toNat*1=_;omega
       have hso:off (ye o (slO c (4*(q.i:Int)).toNat) ty5.sz)=off o+4*q.i:=by rw [zv,xt (by omega)];show off o+(4*(q.i:Int)).toNat*1=_;omega
       have hpw:off (ye o (slO c (4*(q.i:Int)).toNat) ty5.sz)+((4*(q.i:Int)+4).toNat-(4*(q.i:Int)).toNat)≤l.length:=by rw [hso];omega
       have hpw2:off (ye o (slO c (4*(q.i:Int)).toNat) ty5.sz)+((4*(q.i:Int)+4).toNat-(4*(q.i:Int)).toNat)≤l.length∧(4*(q.i:Int)+4).toNat-(4*(q.i:Int)).toNat≤1000:=⟨hpw,by omega⟩
       have hnum:num (List.take ((4*(q.i:Int)+4).toNat-(4*(q.i:Int)).toNat) (List.drop (off (ye o (slO c (4*(q.i:Int)).toNat) ty5.sz)) l))=num ((B.drop (4*q.i)).take 4):=by
         rw [hso,hB,show (4*(q.i:Int)+4).toNat-(4*(q.i:Int)).toNat=4 by omega,List.drop_take,List.take_take,List.drop_drop,Nat.min_eq_left (by omega)]
       refine za ?_
       refine ⟨⟨q.i+1,h4⟩,[0,1,2],by show (64)-(q.i+1)<(64)-q.i;omega,?_⟩
       repeat ((conv=>whnf);refine zb ?_)
       conv=>whnf
       exact zh (congrArg (fun x=>SV.agg [SV.arr32 64 x]) (show _=y8 B (q.i+1) by rw [hnum,hx0,z4k h16]))
      ·have hx15:off (ye [] ((q.i:Int)-15).toNat xu.sz)=q.i-15:=by rw [zv];show 0+((q.i:Int)-15).toNat*1=_;omega
       have hx2:off (ye [] ((q.i:Int)-2).toNat xu.sz)=q.i-2:=by rw [zv];show 0+((q.i:Int)-2).toNat*1=_;omega
       have hx16:off (ye [] ((q.i:Int)-16).toNat xu.sz)=q.i-16:=by rw [zv];show 0+((q.i:Int)-16).toNat*1=_;omega
       have hx7:off (ye [] ((q.i:Int)-7).toNat xu.sz)=q.i-7:=by rw [zv];show 0+((q.i:Int)-7).toNat*1=_;omega
       refine za ?_
       refine ⟨⟨q.i+1,h4⟩,[0,1,2],by show (64)-(q.i+1)<(64)-q.i;omega,?_⟩
       repeat ((conv=>whnf);refine zb ?_)
       conv=>whnf
       exact zh (congrArg (fun x=>SV.agg [SV.arr32 64 x]) (show _=y8 B (q.i+1) by rw [hx0,hx15,hx2,hx16,hx7,z6z h16];rfl))
     ·have e4:q.i=64:=by omega
      rw [e4] at hwl
      rw [e4]
      generalize hW:y8 B 64=W at*
      clear hx0 hi h4 e4 q
      refine za ?_
      have hS0:([0,0,0,0,0,0,0,0]:List UInt32).length=8:=rfl
      refine zp (Ix (8)) (fun q=>⟨[(0,.ptr 0 0 0 []),(4,.ptr 2 0 0 []),(8,.ptr 3 0 0 []),(70,.int q.i)],[.mk t0 [.int m,.arr64 8 H,.arr64 80 k,.sl 1 0 0 [] rn rc,.u64 all],.mk t [.arr8 L l],.mk 249 [.arr32 64 W],.mk 239 [.arr32 8 (ovr [0,0,0,0,0,0,0,0] 0 (fun i=>(g64 H i).toUInt32) q.i)]]⟩) (fun q=>(8)-q.i) ⟨0,Nat.zero_le _⟩ [0,1,2,3] ?_ ?_
      ·exact zt
      ·intro q
       have hi:=q.hi
       have hlo:=yc (l:=([0,0,0,0,0,0,0,0]:List UInt32)) (a:=0) (i:=q.i) (by rw [hS0];omega) (fun i=>(g64 H i).toUInt32)
       rw [hS0] at hlo
       have hI:((q.i:Int)).toNat=q.i:=Int.toNat_natCast _
       by_cases h4:q.i<8
       ·refine za ?_
        refine ⟨⟨q.i+1,h4⟩,[0,1,2,3],by show (8)-(q.i+1)<(8)-q.i;omega,?_⟩
        repeat ((conv=>whnf);refine zb ?_)
        conv=>whnf
        refine zq (congrArg (fun x=>SV.agg [SV.arr32 8 x]) (z8 (by rw [hS0];omega) ?hv ?hkk)) ?_
        case hkk=>show ((q.i:Int)).toNat=0+q.i;omega
        case hv=>show (List.getD H ((q.i:Int)).toNat 0).toUInt32=_;rw [hI];rfl
        exact zt
       ·have e4:q.i=8:=by omega
        rw [e4,yy hS0]
        obtain ⟨S,hSd⟩: ∃S,S=(List.range 8).map fun i=>(g64 H i).toUInt32:=⟨_,rfl⟩
        have hSl:S.length=8:=by rw [hSd];exact zz _ _
        rw [←hSd]
        clear hi h4 e4 hlo hI q
        refine za ?_
        refine zp (Ix (64)) (fun q=>⟨[(0,.ptr 0 0 0 []),(4,.ptr 2 0 0 []),(8,.ptr 3 0 0 []),(83,.int q.i)],[.mk t0 [.int m,.arr64 8 H,.arr64 80 k,.sl 1 0 0 [] rn rc,.u64 all],.mk t [.arr8 L l],.mk 249 [.arr32 64 W],.mk 239 [.arr32 8 (zby k W S q.i)]]⟩) (fun q=>(64)-q.i) ⟨0,Nat.zero_le _⟩ [0,1,2,3] ?_ ?_
        ·repeat ((conv=>whnf);refine zb ?_)
         conv=>whnf
         exact zh (congrArg (fun x=>SV.agg [SV.arr32 8 x]) (show _=zby k W S 0 by unfold zby;rfl))
        ·intro q
         have hi:=q.hi
         have hrl:=zq0 (k:=k) (w:=W) hSl q.i
         have hx0:off (ye [] ((q.i:Int)).toNat xu.sz)=q.i:=by rw [zv];show 0+((q.i:Int)).toNat*1=_;omega
         have hy0:off (ye [] ((q.i:Int)).toNat xm.sz)=q.i:=by rw [zv];show 0+((q.i:Int)).toNat*1=_;omega
         by_cases h4:q.i<64
         ·refine za ?_
          conv=>whnf
          refine ⟨⟨q.i+1,h4⟩,[0,1,2,3],by show (64)-(q.i+1)<(64)-q.i;omega,?_⟩
          repeat ((conv=>whnf);refine zb ?_)
          conv=>whnf
          exact zh (congrArg (fun x=>SV.agg [SV.arr32 8 x]) (show _=zby k W S (q.i+1) by simp only [zby];rw [←hx0];rfl))
         ·have e4:q.i=64:=by omega
          rw [e4] at hrl
          rw [e4]
          obtain ⟨Z,hZ⟩: ∃Z,Z=zby k W S 64:=⟨_,rfl⟩
          rw [←hZ] at hrl
          rw [←hZ]
          clear hy0 hx0 hi h4 e4 q
          refine za ?_
          refine zp (Ix (8)) (fun q=>⟨[(0,.ptr 0 0 0 []),(4,.ptr 2 0 0 []),(8,.ptr 3 0 0 []),(170,.int q.i)],[.mk t0 [.int m,.arr64 8 (ovr H 0 (fun i=>((g64 H i).toUInt32+g32 Z i).toUInt64) q.i),.arr64 80 k,.sl 1 0 0 [] rn rc,.u64 all],.mk t [.arr8 L l],.mk 249 [.arr32 64 W],.mk 239 [.arr32 8 Z]]⟩) (fun q=>(8)-q.i) ⟨0,Nat.zero_le _⟩ [0,1,2,3] ?_ ?_
          ·exact zt
          ·intro q
           have hi:=q.hi
           have hlo:=yc (l:=H) (a:=0) (i:=q.i) (by omega) (fun i=>((g64 H i).toUInt32+g32 Z i).toUInt64)
           have hI:((q.i:Int)).toNat=q.i:=Int.toNat_natCast _
           by_cases h4:q.i<8
           ·refine za ?_
            refine ⟨⟨q.i+1,h4⟩,[0,1,2,3],by show (8)-(q.i+1)<(8)-q.i;omega,?_⟩
            repeat ((conv=>whnf);refine zb ?_)
            conv=>whnf
            refine zq (congrArg (fun x=>SV.agg [SV.int m,SV.arr64 8 x,SV.arr64 80 k,SV.sl 1 0 0 [] rn rc,SV.u64 all]) (z8 (by omega) ?hv ?hkk)) ?_
            case hkk=>show ((q.i:Int)).toNat=0+q.i;omega
            case hv=>
              show ((List.getD (ovr H 0 (fun i=>((g64 H i).toUInt32+g32 Z i).toUInt64) q.i) ((q.i:Int)).toNat 0).toUInt32+List.getD Z ((q.i:Int)).toNat 0).toUInt64=_
              rw [yp (by omega) _ (by omega),hI];rfl
            exact zt
           ·have e4:q.i=8:=by omega
            have hfin:ovr H 0 (fun i=>((g64 H i).toUInt32+g32 Z i).toUInt64) 8=zjt k H B:=by
              rw [yy hH];unfold zjt;rw [hW,←hSd,←hZ]
            rw [e4,hfin]
            refine za ?_
            exact ze [0,1] h
   ·exact h.elim
def zq9:Spec:=fun args hp K=>match args,hp with
  | [.ptr 0 0 0 [],.sl 1 0 0 o n c],[.mk t0 [.int m,.arr64 8 H,.arr64 80 k,.sl 1 0 0 [] rn rc,.u64 all],.mk t [.arr8 L l]]=>Pre (H.length=8∧k.length=80∧128≤n∧off o+n≤l.length∧n≤c)
      (K (.tup []) [.mk t0 [.int m,.arr64 8 (zfq k H ((l.drop (off o)).take 128)),.arr64 80 k,.sl 1 0 0 [] rn rc,.u64 all],.mk t [.arr8 L l]])
  |_,_=>False
set_option maxHeartbeats 4000000 in
theorem z5d:zm prog 190 zq9:=by
  refine zk zaj (zc zzg (zc z8i zg)) rfl func190 rfl call190 (D:=yfw) ?_ ?_
  ·intro args hp K h
   unfold zq9 at h
   split at h
   ·exact Nat.le_of_ble_eq_true rfl
   ·exact h.elim
  ·intro args hp K h
   unfold zq9 at h
   split at h
   ·rename_i o n c t0 m H k rn rc all t L l
    obtain ⟨⟨hH,hk,hn,hl,hc⟩,h⟩:=zl h
    obtain ⟨B,hB⟩: ∃B,B=(l.drop (off o)).take 128:=⟨_,rfl⟩
    rw [←hB] at h
    refine za ?_
    refine zp (Ix (80)) (fun q=>⟨[(0,.ptr 0 0 0 []),(1,.sl 1 0 0 o n c),(4,.ptr 2 0 0 []),(15,.int q.i)],[.mk t0 [.int m,.arr64 8 H,.arr64 80 k,.sl 1 0 0 [] rn rc,.u64 all],.mk t [.arr8 L l],.mk 245 [.arr64 80 (y7 B q.i)]]⟩) (fun q=>(80)-q.i) ⟨0,Nat.zero_le _⟩ [0,1,2] ?_ ?_
    ·repeat ((conv=>whnf);refine zb ?_)
     conv=>whnf
     exact zh (congrArg (fun x=>SV.agg [SV.arr64 80 x]) (show _=y7 B 0 by unfold y7;rfl))
    ·intro q
     have hi:=q.hi
     have hwl:=zhw B q.i
     have hx0:off (ye [] ((q.i:Int)).toNat xm.sz)=q.i:=by rw [zv];show 0+((q.i:Int)).toNat*1=_;omega
     by_cases h4:q.i<80
     ·by_cases h16:q.i<16
      ·have hof:off (ye o (8*(q.i:Int)).toNat ty5.sz)=off o+8*q.i:=by rw [zv];show off o+(8*(q.i:Int)).toNat*1=_;omega
       have hso:off (ye o (slO c (8*(q.i:Int)).toNat) ty5.sz)=off o+8*q.i:=by rw [zv,xt (by omega)];show off o+(8*(q.i:Int)).toNat*1=_;omega
       have hpw:off (ye o (slO c (8*(q.i:Int)).toNat) ty5.sz)+((8*(q.i:Int)+8).toNat-(8*(q.i:Int)).toNat)≤l.length:=by rw [hso];omega
       have hpw2:off (ye o (slO c (8*(q.i:Int)).toNat) ty5.sz)+((8*(q.i:Int)+8).toNat-(8*(q.i:Int)).toNat)≤l.length∧(8*(q.i:Int)+8).toNat-(8*(q.i:Int)).toNat≤1000:=⟨hpw,by omega⟩
       have hnum:num (List.take ((8*(q.i:Int)+8).toNat-(8*(q.i:Int)).toNat) (List.drop (off (ye o (slO c (8*(q.i:Int)).toNat) ty5.sz)) l))=num ((B.drop (8*q.i)).take 8):=by
         rw [hso,hB,show (8*(q.i:Int)+8).toNat-(8*(q.i:Int)).toNat=8 by omega,List.drop_take,List.take_take,List.drop_drop,Nat.min_eq_left (by omega)]
       refine za ?_
       refine ⟨⟨q.i+1,h4⟩,[0,1,2],by show (80)-(q.i+1)<(80)-q.i;omega,?_⟩
       repeat ((conv=>whnf);refine zb ?_)
       conv=>whnf
       exact zh (congrArg (fun x=>SV.agg [SV.arr64 80 x]) (show _=y7 B (q.i+1) by rw [hnum,hx0,zw0 h16]))
      ·have hx15:off (ye [] ((q.i:Int)-15).toNat xm.sz)=q.i-15:=by rw [zv];show 0+((q.i:Int)-15).toNat*1=_;omega
       have hx2:off (ye [] ((q.i:Int)-2).toNat xm.sz)=q.i-2:=by rw [zv];show 0+((q.i:Int)-2).toNat*1=_;omega
       have hx16:off (ye [] ((q.i:Int)-16).toNat xm.sz)=q.i-16:=by rw [zv];show 0+((q.i:Int)-16).toNat*1=_;omega
       have hx7:off (ye [] ((q.i:Int)-7).toNat xm.sz)=q.i-7:=by rw [zv];show 0+((q.i:Int)-7).toNat*1=_;omega
       refine za ?_
       refine ⟨⟨q.i+1,h4⟩,[0,1,2],by show (80)-(q.i+1)<(80)-q.i;omega,?_⟩
       repeat ((conv=>whnf);refine zb ?_)
       conv=>whnf
       exact zh (congrArg (fun x=>SV.agg [SV.arr64 80 x]) (show _=y7 B (q.i+1) by rw [hx0,hx15,hx2,hx16,hx7,zw9 h16];rfl))
     ·have e4:q.i=80:=by omega
      rw [e4] at hwl
      rw [e4]
      generalize hW:y7 B 80=W at*
      clear hx0 hi h4 e4 q
      refine za ?_
      have hSl:=hH
      refine zp (Ix (80)) (fun q=>⟨[(0,.ptr 0 0 0 []),(4,.ptr 2 0 0 []),(8,.ptr 3 0 0 []),(72,.int q.i)],[.mk t0 [.int m,.arr64 8 H,.arr64 80 k,.sl 1 0 0 [] rn rc,.u64 all],.mk t [.arr8 L l],.mk 245 [.arr64 80 W],.mk 242 [.arr64 8 (zce k W H q.i)]]⟩) (fun q=>(80)-q.i) ⟨0,Nat.zero_le _⟩ [0,1,2,3] ?_ ?_
      ·repeat ((conv=>whnf);refine zb ?_)
       conv=>whnf
       exact zh (congrArg (fun x=>SV.agg [SV.arr64 8 x]) (show _=zce k W H 0 by unfold zce;rfl))
      ·intro q
       have hi:=q.hi
       have hrl:=zqo (k:=k) (w:=W) hSl q.i
       have hx0:off (ye [] ((q.i:Int)).toNat xm.sz)=q.i:=by rw [zv];show 0+((q.i:Int)).toNat*1=_;omega
       have hy0:off (ye [] ((q.i:Int)).toNat xm.sz)=q.i:=by rw [zv];show 0+((q.i:Int)).toNat*1=_;omega
       by_cases h4:q.i<80
       ·refine za ?_
        conv=>whnf
        refine ⟨⟨q.i+1,h4⟩,[0,1,2,3],by show (80)-(q.i+1)<(80)-q.i;omega,?_⟩
        repeat ((conv=>whnf);refine zb ?_)
        conv=>whnf
        exact zh (congrArg (fun x=>SV.agg [SV.arr64 8 x]) (show _=zce k W H (q.i+1) by simp only [zce];rw [←hx0];rfl))
       ·have e4:q.i=80:=by omega
        rw [e4] at hrl
        rw [e4]
        obtain ⟨Z,hZ⟩: ∃Z,Z=zce k W H 80:=⟨_,rfl⟩
        rw [←hZ] at hrl
        rw [←hZ]
        clear hy0 hx0 hi h4 e4 q
        refine za ?_
        refine zp (Ix (8)) (fun q=>⟨[(0,.ptr 0 0 0 []),(4,.ptr 2 0 0 []),(8,.ptr 3 0 0 []),(157,.int q.i)],[.mk t0 [.int m,.arr64 8 (ovr H 0 (fun i=>g64 H i+g64 Z i) q.i),.arr64 80 k,.sl 1 0 0 [] rn rc,.u64 all],.mk t [.arr8 L l],.mk 245 [.arr64 80 W],.mk 242 [.arr64 8 Z]]⟩) (fun q=>(8)-q.i) ⟨0,Nat.zero_le _⟩ [0,1,2,3] ?_ ?_
        ·exact zt
        ·intro q
         have hi:=q.hi
         have hlo:=yc (l:=H) (a:=0) (i:=q.i) (by omega) (fun i=>g64 H i+g64 Z i)
         have hI:((q.i:Int)).toNat=q.i:=Int.toNat_natCast _
         by_cases h4:q.i<8
         ·refine za ?_
          refine ⟨⟨q.i+1,h4⟩,[0,1,2,3],by show (8)-(q.i+1)<(8)-q.i;omega,?_⟩
          repeat ((conv=>whnf);refine zb ?_)
          conv=>whnf
          refine zq (congrArg (fun x=>SV.agg [SV.int m,SV.arr64 8 x,SV.arr64 80 k,SV.sl 1 0 0 [] rn rc,SV.u64 all]) (z8 (by omega) ?hv ?hkk)) ?_
          case hkk=>show ((q.i:Int)).toNat=0+q.i;omega
          case hv=>
            show List.getD (ovr H 0 (fun i=>g64 H i+g64 Z i) q.i) ((q.i:Int)).toNat 0+List.getD Z ((q.i:Int)).toNat 0=_
            rw [yp (by omega) _ (by omega),hI];rfl
          exact zt
         ·have e4:q.i=8:=by omega
          have hfin:ovr H 0 (fun i=>g64 H i+g64 Z i) 8=zfq k H B:=by
            rw [yy hH];unfold zfq;rw [hW,←hZ]
          rw [e4,hfin]
          refine za ?_
          exact ze [0,1] h
   ·exact h.elim
end Go.Sym.Z

namespace Go.Sym.Z
open Go Go.Proofs.Tryz Go.Sym.Lp Go.Sym.Cha Go.Sym.Sha
set_option maxRecDepth 100000
attribute [local irreducible] zjt zfq xb KC HB zam
def yfs:List (Nat×List PStep):= []
def ygw:List (Nat×List PStep):= []
def ye6:List (Nat×List PStep):= []
def yfv:List (Nat×List PStep):= []
def yep:List (Nat×List PStep):= []
def zxr:Spec:=fun args hp K=>match args,hp with
  | [.ptr 0 0 0 [],.sl 1 0 0 o n c],[.mk t0 [.int m,.arr64 8 H,.arr64 80 k,.sl 1 0 0 [] rn rc,.u64 all],.mk t [.arr8 L l]]=>Pre (H.length=8∧k.length=80∧bk m≤n∧off o+n≤l.length∧n≤c)
      (K (.tup []) [.mk t0 [.int m,.arr64 8 (zam m k H ((l.drop (off o)).take (bk m))),.arr64 80 k,.sl 1 0 0 [] rn rc,.u64 all],.mk t [.arr8 L l]])
  |_,_=>False
theorem z7u:zm prog 186 zxr:=by
  refine zk zaj (zc z6d (zc z5d zg)) rfl func186 rfl call186 (D:=yfs) ?_ ?_
  ·intro args hp K h
   unfold zxr at h
   split at h
   ·exact Nat.le_of_ble_eq_true rfl
   ·exact h.elim
  ·intro args hp K h
   unfold zxr at h
   split at h
   ·rename_i o n c t0 m H k rn rc all t L l
    obtain ⟨⟨hH,hk,hn,hl,hc⟩,h⟩:=zl h
    by_cases hm:m=256
    ·have hb:bk m=64:=by unfold bk;rw [if_pos hm]
     have hT:zam m k H ((l.drop (off o)).take (bk m))=zjt k H ((l.drop (off o)).take 64):=by unfold zam;rw [if_pos hm,hb]
     rw [hT] at h
     rw [hb] at hn
     have hp:H.length=8∧k.length=80∧64≤n∧off o+n≤l.length∧n≤c:=⟨hH,hk,hn,hl,hc⟩
     refine za ?_
     exact ze [0,1] h
    ·have hb:bk m=128:=by unfold bk;rw [if_neg hm]
     have hT:zam m k H ((l.drop (off o)).take (bk m))=zfq k H ((l.drop (off o)).take 128):=by unfold zam;rw [if_neg hm,hb]
     rw [hT] at h
     rw [hb] at hn
     have hp:H.length=8∧k.length=80∧128≤n∧off o+n≤l.length∧n≤c:=⟨hH,hk,hn,hl,hc⟩
     refine za ?_
     exact ze [0,1] h
   ·exact h.elim
def zth:Spec:=fun args hp K=>match args,hp with
  | [.ptr 0 0 0 []],[.mk t0 [.int m,.arr64 8 H,.arr64 80 k,.nilsl,.u64 all]]=>K (.int (bk m:Nat)) [.mk t0 [.int m,.arr64 8 H,.arr64 80 k,.nilsl,.u64 all]]
  | [.ptr 0 0 0 []],[.mk t0 [.int m,.arr64 8 H,.arr64 80 k,.sl 1 0 0 [] rn rc,.u64 all],.mk t [.arr8 L l]]=>K (.int (bk m:Nat)) [.mk t0 [.int m,.arr64 8 H,.arr64 80 k,.sl 1 0 0 [] rn rc,.u64 all],.mk t [.arr8 L l]]
  |_,_=>False
theorem zva:zm prog 185 zth:=by
  refine zk zaj zg rfl func185 rfl call185 (D:=ygw) ?_ ?_
  ·intro args hp K h
   unfold zth at h
   split at h
   ·exact Nat.le_of_ble_eq_true rfl
   ·exact Nat.le_of_ble_eq_true rfl
   ·exact h.elim
  ·intro args hp K h
   unfold zth at h
   split at h
   ·rename_i t0 m H k all
    by_cases hm:m=256
    ·have hb:bk m=64:=by unfold bk;rw [if_pos hm]
     rw [hb] at h
     refine za ?_
     exact ze [0] h
    ·have hb:bk m=128:=by unfold bk;rw [if_neg hm]
     rw [hb] at h
     refine za ?_
     exact ze [0] h
   ·rename_i t0 m H k rn rc all t L l
    by_cases hm:m=256
    ·have hb:bk m=64:=by unfold bk;rw [if_pos hm]
     rw [hb] at h
     refine za ?_
     exact ze [0,1] h
    ·have hb:bk m=128:=by unfold bk;rw [if_neg hm]
     rw [hb] at h
     refine za ?_
     exact ze [0,1] h
   ·exact h.elim
def ztf:Spec:=fun args hp K=>match args,hp with
  | [.int n],[]=>K (.arr64 8 (HB n)) []
  |_,_=>False
theorem z6c:zm prog 182 ztf:=by
  refine zk zaj zg rfl func182 rfl call182 (D:=ye6) ?_ ?_
  ·intro args hp K h
   unfold ztf at h
   split at h
   ·exact Nat.le_of_ble_eq_true rfl
   ·exact h.elim
  ·intro args hp K h
   unfold ztf at h
   split at h
   ·rename_i n
    by_cases hn:n=256
    ·rw [show HB n=_ from by unfold HB;rw [if_pos hn]] at h
     refine za ?_
     exact ze [] h
    ·rw [show HB n=_ from by unfold HB;rw [if_neg hn]] at h
     refine za ?_
     exact ze [] h
   ·exact h.elim
def zrw:Spec:=fun args hp K=>match args,hp with
  | [],[]=>K (.arr64 80 KC) []
  |_,_=>False
theorem z2m:zm prog 183 zrw:=by
  refine zk zaj zg rfl func183 rfl call183 (D:=yfv) ?_ ?_
  ·intro args hp K h
   unfold zrw at h
   split at h
   ·exact Nat.le_of_ble_eq_true rfl
   ·exact h.elim
  ·intro args hp K h
   unfold zrw at h
   split at h
   ·refine za ?_
    refine yv (hp':= []) [] h ?_
    repeat ((conv=>whnf);refine zb ?_)
    conv=>whnf
    exact zh (congrArg (SV.arr64 80) (show _=KC by unfold KC;decide+kernel))
   ·exact h.elim
def z7b:Spec:=fun args hp K=>match args,hp with
  | [.int n],[]=>zx (decide (n=256∨n=384)) (K (.tup [.ptr 0 0 0 [],.int 0]) [.mk 248 [.int n,.arr64 8 (HB n),.arr64 80 KC,.nilsl,.u64 0]]) (K (.tup [.nilptr,.int 200]) [])
  |_,_=>False
theorem z27:zm prog 170 z7b:=by
  refine zk zaj (zc z6c (zc z2m zg)) rfl func170 rfl call170 (D:=yep) ?_ ?_
  ·intro args hp K h
   unfold z7b at h
   split at h
   ·exact Nat.le_of_ble_eq_true rfl
   ·exact h.elim
  ·intro args hp K h
   unfold z7b at h
   split at h
   ·rename_i n
    obtain ⟨ht,hf⟩:=zy h
    have hl:=zoy n
    have hk:=zm0
    by_cases h1:n=256
    ·have h:=ht (decide_eq_true (.inl h1))
     refine za ?_
     exact ze [0] h
    ·by_cases h2:n=384
     ·have h:=ht (decide_eq_true (.inr h2))
      refine za ?_
      exact ze [0] h
     ·have h:=hf (decide_eq_false (by omega))
      refine za ?_
      exact ze [] h
   ·exact h.elim
end Go.Sym.Z
