/-
  Contracts of functions of the program, each said of symbolic values, and plain laws; no condition beyond each statement's own.
-/
import Derived.Test.YtmmpgjcpielefaaGreatGLStreamActs14
import Derived.Test.YtmmpgjcpielefaaGreatGLStreamActs17
set_option linter.unusedSimpArgs false
set_option linter.unusedVariables false
namespace Go.Sym.Z
open Go Go.Proofs.Tryz Go.Sym.Lp Go.Sym.Cha
set_option maxRecDepth 100000
def yka:List (Nat×List PStep):= []
def yjj:List (Nat×List PStep):= [(1,[⟨0,[]⟩,⟨1,[]⟩,⟨2,[]⟩,⟨3,[0,1,2]⟩,⟨4,[0,1,2]⟩,⟨5,[0,1,2]⟩,⟨6,[0,1,2]⟩,⟨7,[]⟩,⟨8,[0,1,2,3,4,5,6,7]⟩,⟨9,[0,1,2,3,4,5,6,7]⟩,⟨10,[0,1,2,3,4,5,6,7]⟩,⟨11,[0,1,2,3,4,5,6,7]⟩,⟨12,[]⟩,⟨13,[0,1,2,3,4,5,6,7,8,9,10,11,12]⟩,⟨14,[0,1,2,3,4,5,6,7,8,9,10,11,12]⟩,⟨15,[0,1,2,3,4,5,6,7,8,9,10,11,12]⟩,⟨16,[0,1,2,3,4,5,6,7,8,9,10,11,12]⟩,⟨17,[]⟩,⟨18,[]⟩])]
def yi8:List (Nat×List PStep):= []
def yht:List (Nat×List PStep):= [(0,[⟨0,[]⟩,⟨1,[0]⟩,⟨2,[1]⟩,⟨3,[]⟩,⟨4,[]⟩,⟨5,[0,1,2,3,4]⟩,⟨6,[0,1,2,3,4,5]⟩,⟨7,[0,1,2,3,4,6]⟩,⟨8,[0,1,2,3,4]⟩,⟨9,[0,1,2,3,4]⟩,⟨10,[]⟩,⟨11,[1,2,3,4,5,6,7,8,9,10]⟩,⟨12,[]⟩,⟨13,[]⟩]),(1,[⟨0,[]⟩,⟨1,[0]⟩,⟨2,[0,1]⟩,⟨3,[0,1,2]⟩,⟨4,[0,1,3]⟩,⟨5,[0,1]⟩,⟨6,[0,1]⟩,⟨7,[0,1,2,3,4,5,6]⟩,⟨8,[0,1,2,3,4,5,6,7]⟩,⟨9,[0,1,2,3,4,5,6,8]⟩,⟨10,[0,1,2,3,4,5,6]⟩,⟨11,[0,1,2,3,4,5,6]⟩,⟨12,[0,1]⟩,⟨14,[1,2,3,4,5,6,7,8,9,10,11,12]⟩,⟨13,[0,1,14]⟩,⟨15,[]⟩,⟨16,[]⟩]),(2,[⟨0,[]⟩,⟨1,[0]⟩,⟨2,[1]⟩,⟨3,[]⟩,⟨4,[]⟩,⟨5,[0,1,2,3,4]⟩,⟨6,[0,1,2,3,4,5]⟩,⟨7,[0,1,2,3,4,6]⟩,⟨8,[0,1,2,3,4]⟩,⟨9,[0,1,2,3,4]⟩,⟨10,[]⟩,⟨11,[1,2,3,4,5,6,7,8,9,10]⟩,⟨12,[]⟩,⟨13,[]⟩]),(3,[⟨0,[]⟩,⟨1,[0]⟩,⟨2,[0,1]⟩,⟨3,[0,1,2]⟩,⟨4,[0,1,3]⟩,⟨5,[0,1]⟩,⟨6,[0,1]⟩,⟨7,[0,1,2,3,4,5,6]⟩,⟨8,[0,1,2,3,4,5,6,7]⟩,⟨9,[0,1,2,3,4,5,6,8]⟩,⟨10,[0,1,2,3,4,5,6]⟩,⟨11,[0,1,2,3,4,5,6]⟩,⟨12,[0,1]⟩,⟨14,[1,2,3,4,5,6,7,8,9,10,11,12]⟩,⟨13,[0,1,14]⟩,⟨15,[]⟩,⟨16,[]⟩]),(4,[⟨0,[]⟩,⟨1,[0]⟩,⟨2,[1]⟩,⟨3,[]⟩,⟨4,[]⟩,⟨5,[0,1,2,3,4]⟩,⟨6,[0,1,2,3,4,5]⟩,⟨7,[0,1,2,3,4,6]⟩,⟨8,[0,1,2,3,4]⟩,⟨9,[0,1,2,3,4]⟩,⟨10,[]⟩,⟨11,[1,2,3,4,5,6,7,8,9,10]⟩,⟨12,[]⟩,⟨13,[]⟩]),(5,[⟨0,[]⟩,⟨1,[0]⟩,⟨2,[0,1]⟩,⟨3,[0,1,2]⟩,⟨4,[0,1,3]⟩,⟨5,[0,1]⟩,⟨6,[0,1]⟩,⟨7,[0,1,2,3,4,5,6]⟩,⟨8,[0,1,2,3,4,5,6,7]⟩,⟨9,[0,1,2,3,4,5,6,8]⟩,⟨10,[0,1,2,3,4,5,6]⟩,⟨11,[0,1,2,3,4,5,6]⟩,⟨12,[0,1]⟩,⟨14,[1,2,3,4,5,6,7,8,9,10,11,12]⟩,⟨13,[0,1,14]⟩,⟨15,[]⟩,⟨16,[]⟩]),(6,[⟨0,[]⟩,⟨1,[0]⟩,⟨2,[1]⟩,⟨3,[]⟩,⟨4,[]⟩,⟨5,[0,1,2,3,4]⟩,⟨6,[0,1,2,3,4,5]⟩,⟨7,[0,1,2,3,4,6]⟩,⟨8,[0,1,2,3,4]⟩,⟨9,[0,1,2,3,4]⟩,⟨10,[]⟩,⟨11,[1,2,3,4,5,6,7,8,9,10]⟩,⟨12,[]⟩,⟨13,[]⟩]),(7,[⟨0,[]⟩,⟨1,[0]⟩,⟨2,[0,1]⟩,⟨3,[0,1,2]⟩,⟨4,[0,1,3]⟩,⟨5,[0,1]⟩,⟨6,[0,1]⟩,⟨7,[0,1,2,3,4,5,6]⟩,⟨8,[0,1,2,3,4,5,6,7]⟩,⟨9,[0,1,2,3,4,5,6,8]⟩,⟨10,[0,1,2,3,4,5,6]⟩,⟨11,[0,1,2,3,4,5,6]⟩,⟨12,[0,1]⟩,⟨14,[1,2,3,4,5,6,7,8,9,10,11,12]⟩,⟨13,[0,1,14]⟩,⟨15,[]⟩,⟨16,[]⟩])]
def ykd:List (Nat×List PStep):= [(19,[⟨0,[]⟩,⟨1,[0]⟩,⟨2,[0]⟩,⟨3,[0]⟩,⟨4,[0]⟩,⟨5,[0,1,2,3,4]⟩,⟨6,[0,1,2,3,4]⟩,⟨7,[0,1,2,3,4]⟩,⟨8,[0,1,2,3,4]⟩,⟨9,[0]⟩,⟨10,[0,1,2,3,4,5,6,7,8,9]⟩,⟨11,[0,1,2,3,4,5,6,7,8,9]⟩,⟨12,[0,1,2,3,4,5,6,7,8,9]⟩,⟨13,[0]⟩,⟨14,[0]⟩,⟨15,[]⟩,⟨16,[]⟩])]
def yj6:List (Nat×List PStep):= [(1,[⟨0,[]⟩,⟨1,[0]⟩,⟨2,[]⟩,⟨3,[]⟩,⟨4,[0,1,2,3]⟩,⟨5,[0,1,2,3,4]⟩,⟨6,[0,1,2,3,4]⟩,⟨7,[0,1,2,3]⟩,⟨8,[0,1,2,3]⟩,⟨9,[0,1,2,3]⟩,⟨10,[]⟩,⟨11,[0,1,2,3,4,5,6,7,8,9,10]⟩,⟨12,[0,1,2,3,4,5,6,7,8,9,10,11]⟩,⟨13,[0,1,2,3,4,5,6,7,8,9,10,11]⟩,⟨14,[0,1,2,3,4,5,6,7,8,9,10]⟩,⟨15,[0,1,2,3,4,5,6,7,8,9,10]⟩,⟨16,[0,1,2,3,4,5,6,7,8,9,10]⟩,⟨17,[]⟩,⟨18,[0,1,2,3,4,5,6,7,8,9,10,11,12,13,14,15,16,17]⟩,⟨19,[0,1,2,3,4,5,6,7,8,9,10,11,12,13,14,15,16,17,18]⟩,⟨20,[0,1,2,3,4,5,6,7,8,9,10,11,12,13,14,15,16,17,18]⟩,⟨21,[0,1,2,3,4,5,6,7,8,9,10,11,12,13,14,15,16,17]⟩,⟨22,[0,1,2,3,4,5,6,7,8,9,10,11,12,13,14,15,16,17]⟩,⟨23,[0,1,2,3,4,5,6,7,8,9,10,11,12,13,14,15,16,17]⟩,⟨24,[]⟩,⟨25,[]⟩])]
def yhl:List (Nat×List PStep):= [(1,[⟨0,[]⟩,⟨1,[0]⟩,⟨2,[]⟩,⟨3,[0,1,2]⟩,⟨4,[0,1,2,3]⟩,⟨5,[0,1,2,3]⟩,⟨6,[0,1,2]⟩,⟨7,[]⟩,⟨8,[]⟩])]
def yjp:List (Nat×List PStep):= [(1,[⟨0,[]⟩,⟨1,[0]⟩,⟨2,[0]⟩,⟨3,[0]⟩,⟨4,[0,1,2,3]⟩,⟨5,[0,1,2,3]⟩,⟨6,[0,1,2,3]⟩,⟨7,[0]⟩,⟨8,[]⟩,⟨9,[]⟩]),(2,[⟨0,[]⟩,⟨1,[0]⟩,⟨2,[0]⟩,⟨3,[0]⟩,⟨4,[0,1,2,3]⟩,⟨5,[0,1,2,3]⟩,⟨6,[0,1,2,3]⟩,⟨7,[0]⟩,⟨8,[0]⟩,⟨9,[]⟩,⟨10,[]⟩]),(3,[⟨0,[]⟩,⟨1,[0]⟩,⟨2,[0]⟩,⟨3,[0]⟩,⟨4,[0,1,2,3]⟩,⟨5,[0,1,2,3]⟩,⟨6,[0,1,2,3]⟩,⟨7,[0]⟩,⟨8,[]⟩,⟨9,[]⟩]),(4,[⟨0,[]⟩,⟨1,[0]⟩,⟨2,[0]⟩,⟨3,[0]⟩,⟨4,[0,1,2,3]⟩,⟨5,[0,1,2,3]⟩,⟨6,[0,1,2,3]⟩,⟨7,[0]⟩,⟨8,[0]⟩,⟨9,[]⟩,⟨10,[]⟩]),(5,[⟨0,[]⟩,⟨1,[0]⟩,⟨2,[0]⟩,⟨3,[0]⟩,⟨4,[0,1,2,3]⟩,⟨5,[0,1,2,3]⟩,⟨6,[0,1,2,3]⟩,⟨7,[0]⟩,⟨8,[]⟩,⟨9,[]⟩]),(6,[⟨0,[]⟩,⟨1,[0]⟩,⟨2,[0]⟩,⟨3,[0]⟩,⟨4,[0,1,2,3]⟩,⟨5,[0,1,2,3]⟩,⟨6,[0,1,2,3]⟩,⟨7,[0]⟩,⟨8,[0]⟩,⟨9,[]⟩,⟨10,[]⟩]),(7,[⟨0,[]⟩,⟨1,[0]⟩,⟨2,[0]⟩,⟨3,[0]⟩,⟨4,[0,1,2,3]⟩,⟨5,[0,1,2,3]⟩,⟨6,[0,1,2,3]⟩,⟨7,[0]⟩,⟨8,[]⟩,⟨9,[]⟩]),(8,[⟨0,[]⟩,⟨1,[0]⟩,⟨2,[0]⟩,⟨3,[0]⟩,⟨4,[0,1,2,3]⟩,⟨5,[0,1,2,3]⟩,⟨6,[0,1,2,3]⟩,⟨7,[0]⟩,⟨8,[0]⟩,⟨9,[]⟩,⟨10,[]⟩])]
def ygv:List (Nat×TyI):= [(3,ty3),(4,ty4),(5,ty5),(9,ty9),(48,zd6),(51,zeb),(113,xw),(187,znr),(164,zo1),(188,zn3),(235,znq)]
theorem za0: ∀t i,y8 ygv t=some i→yt prog t i:=(zc zbg (zc zbj (zc zbc (zc zbf (zc zaq (zc zap (zc zai (zc z87 (zc z4b (zc z6t (zc z6y x1)))))))))))
theorem yh0 {k:Int}:(UInt64.ofInt k&&&UInt64.ofNat 31).toNat=(k%32).toNat:=by
  rw [UInt64.toNat_and,show (UInt64.ofNat 31).toNat=2^5-1 by decide,Nat.and_two_pow_sub_one_eq_mod]
  have h:(UInt64.ofInt k).toNat=(k%18446744073709551616).toNat:=by
    unfold UInt64.ofInt
    rw [UInt64.toNat_ofNat']
    have:=Int.emod_nonneg k (show (2^64:Int)≠0 by decide)
    have:=Int.emod_lt_of_pos k (show (0:Int)<2^64 by decide)
    omega
  rw [h]
  omega
def zzg:Spec:=fun args hp K=>match args,hp with
  | [.u32 x,.int k],[]=>Pre (k%32≠0) (K (.u32 (zhe x (k%32).toNat)) [])
  |_,_=>False
theorem z0v:zp prog 176 zzg:=by
  refine zm za0 zi rfl func176 rfl call176 (D:=yka) ?_ ?_
  ·intro args hp K h
   unfold zzg at h
   split at h
   ·exact Nat.le_of_ble_eq_true rfl
   ·exact h.elim
  ·intro args hp K h
   unfold zzg at h
   split at h
   ·rename_i x k
    obtain ⟨hk,h⟩:=zq h
    have hs:=yh0 (k:=k)
    have hm:=Int.emod_lt_of_pos k (show (0:Int)<32 by decide)
    have hm0:=Int.emod_nonneg k (show (32:Int)≠0 by decide)
    have hd:(UInt64.ofNat 32-(UInt64.ofInt k&&&UInt64.ofNat 31)).toNat=32-(k%32).toNat:=by
      rw [UInt64.toNat_sub_of_le _ _ (by rw [UInt64.le_iff_toNat_le,hs];show _≤32;omega),hs];rfl
    refine za ?_
    rw [hs,hd]
    conv=>whnf
    exact zf [] h
   ·exact h.elim
def z47:Spec:=fun args hp K=>match args,hp with
  | [.str s],[]=>Pre (4≤s.length) (K (.u32 (wd s 0)) [])
  |_,_=>False
theorem yeb:zp prog 160 z47:=by
  refine zm za0 zi rfl func160 rfl call160 (D:=yjj) ?_ ?_
  ·intro args hp K h
   unfold z47 at h
   split at h
   ·exact Nat.le_of_ble_eq_true rfl
   ·exact h.elim
  ·intro args hp K h
   unfold z47 at h
   split at h
   ·rename_i s
    obtain ⟨hs,h⟩:=zq h
    refine za ?_
    exact zf [] h
   ·exact h.elim
def leS:Spec:=fun args hp K=>match args,hp with
  | [.str s,.int a],[]=>Pre (0≤a∧a+4≤s.length∧s.length≤9223372036854775807) (K (.u32 (wd s a.toNat)) [])
  |_,_=>False
theorem ymc:zp prog 124 leS:=by
  refine zm za0 zi rfl func124 rfl call124 (D:=yj6) ?_ ?_
  ·intro args hp K h
   unfold leS at h
   split at h
   ·exact Nat.le_of_ble_eq_true rfl
   ·exact h.elim
  ·intro args hp K h
   unfold leS at h
   split at h
   ·rename_i s a
    obtain ⟨⟨ha,hs,hs2⟩,h⟩:=zq h
    have e1:(a+1).toNat=a.toNat+1:=by omega
    have e2:(a+2).toNat=a.toNat+2:=by omega
    have e3:(a+3).toNat=a.toNat+3:=by omega
    refine za ?_
    rw [e1,e2,e3]
    conv=>whnf
    exact zf [] h
   ·exact h.elim
def z44:Spec:=fun args hp K=>match args,hp with
  | [.u32 x,.int k],[]=>Pre (0<k∧k<32) (K (.u32 (zhe x k.toNat)) [])
  |_,_=>False
theorem ygj:zp prog 154 z44:=by
  refine zm za0 zi rfl func154 rfl call154 (D:=yhl) ?_ ?_
  ·intro args hp K h
   unfold z44 at h
   split at h
   ·exact Nat.le_of_ble_eq_true rfl
   ·exact h.elim
  ·intro args hp K h
   unfold z44 at h
   split at h
   ·rename_i x k
    obtain ⟨hk,h⟩:=zq h
    have e1:(32-k).toNat=32-k.toNat:=by omega
    refine za ?_
    rw [e1]
    conv=>whnf
    exact zf [] h
   ·exact h.elim
def zoj:Spec:=fun args hp K=>match args,hp with
  | [.ptr 0 0 0 [],.int a,.int b,.int c,.int d],[.mk t [.arr32 16 x]]=>Pre (x.length=16∧(0≤a∧a<16)∧(0≤b∧b<16)∧(0≤c∧c<16)∧(0≤d∧d<16)) (K (.tup []) [.mk t [.arr32 16 (qr x a.toNat b.toNat c.toNat d.toNat)]])
  |_,_=>False
theorem z3s:zp prog 161 zoj:=by
  refine zm za0 (zd z0v zi) rfl func161 rfl call161 (D:=yht) ?_ ?_
  ·intro args hp K h
   unfold zoj at h
   split at h
   ·exact Nat.le_of_ble_eq_true rfl
   ·exact h.elim
  ·intro args hp K h
   unfold zoj at h
   split at h
   ·rename_i a b c d t x
    obtain ⟨⟨hx,ha,hb,hc,hd⟩,h⟩:=zq h
    refine za ?_
    exact zf [0] h
   ·exact h.elim
def zln:Spec:=fun args hp K=>match args,hp with
  | [.arr32 16 x,.int a,.int b,.int c,.int d],[]=>Pre (x.length=16∧(0≤a∧a<16)∧(0≤b∧b<16)∧(0≤c∧c<16)∧(0≤d∧d<16)) (K (.arr32 16 (qr x a.toNat b.toNat c.toNat d.toNat)) [])
  |_,_=>False
theorem zzc:zp prog 125 zln:=by
  refine zm za0 (zd ygj zi) rfl func125 rfl call125 (D:=yjp) ?_ ?_
  ·intro args hp K h
   unfold zln at h
   split at h
   ·exact Nat.le_of_ble_eq_true rfl
   ·exact h.elim
  ·intro args hp K h
   unfold zln at h
   split at h
   ·rename_i x a b c d
    obtain ⟨⟨hx,ha,hb,hc,hd⟩,h⟩:=zq h
    refine za ?_
    exact zf [] h
   ·exact h.elim
def zy4:Spec:=fun args hp K=>match args,hp with
  | [.str key,.str nonce,.u32 n],[]=>Pre (key.length=32∧nonce.length=12) (K (.arr32 16 (beg key nonce n)) [])
  |_,_=>False
attribute [local irreducible] qr wd zhe
theorem z0j:zp prog 137 zy4:=by
  refine zm za0 (zd yeb zi) rfl func137 rfl call137 (D:=yi8) ?_ ?_
  ·intro args hp K h
   unfold zy4 at h
   split at h
   ·exact Nat.le_of_ble_eq_true rfl
   ·exact h.elim
  ·intro args hp K h
   unfold zy4 at h
   split at h
   ·rename_i key nonce n
    obtain ⟨⟨hk,hn⟩,h⟩:=zq h
    refine za ?_
    refine zt (Ix (8)) (fun q=>⟨[(0,.str key),(1,.str nonce),(2,.u32 n),(6,.ptr 0 0 0 []),(7,.ptr 1 0 0 []),(11,.int q.i)],[.mk 188 [.arr32 16 (List.replicate 16 0)],.mk 188 [.arr32 16 (ovr c0 4 (fun i=>wd key (4*i)) q.i)]]⟩) (fun q=>(8)-q.i) ⟨0,Nat.zero_le _⟩ [0,1] ?_ ?_
    ·exact zn
    ·intro q
     have hi:=q.hi
     have hI:((4:Int)+(q.i:Int)).toNat=4+q.i:=by omega
     have hl0:=z7s
     have hlo:=yg (l:=c0) (a:=4) (i:=q.i) (by omega) (fun i=>wd key (4*i))
     by_cases h4:q.i<8
     ·refine za ?_
      refine ⟨⟨q.i+1,h4⟩,[0,1],by show (8)-(q.i+1)<(8)-q.i;omega,?_⟩
      repeat ((conv=>whnf);refine zb ?_)
      conv=>whnf
      refine zv (congrArg (fun x=>SV.agg [SV.arr32 16 x]) (z9 (by omega) ?hv ?hkk)) ?_
      case hkk=>show ((4:Int)+(q.i:Int)).toNat=4+q.i;omega
      case hv=>
        show wd (List.drop (4*(q.i:Int)).toNat key) 0=_
        rw [show (4*(q.i:Int)).toNat=4*q.i by omega,z1a]
      exact zn
     ·have e4:q.i=8:=by omega
      rw [e4] at hlo
      rw [e4]
      have hl2:((ovr c0 4 (fun i=>wd key (4*i)) 8).set 12 n).length=16:=by rw [List.length_set,hlo];rfl
      refine za ?_
      refine zt (Ix (3)) (fun r=>⟨[(0,.str key),(1,.str nonce),(2,.u32 n),(6,.ptr 0 0 0 []),(7,.ptr 1 0 0 []),(25,.int r.i)],[.mk 188 [.arr32 16 (List.replicate 16 0)],.mk 188 [.arr32 16 (ovr ((ovr c0 4 (fun i=>wd key (4*i)) 8).set 12 n) 13 (fun i=>wd nonce (4*i)) r.i)]]⟩) (fun r=>(3)-r.i) ⟨0,Nat.zero_le _⟩ [0,1] ?_ ?_
      ·exact zn
      ·intro r
       have hri:=r.hi
       have hlr:=yg (l:=(ovr c0 4 (fun i=>wd key (4*i)) 8).set 12 n) (a:=13) (i:=r.i) (by omega) (fun i=>wd nonce (4*i))
       by_cases h5:r.i<3
       ·refine za ?_
        refine ⟨⟨r.i+1,h5⟩,[0,1],by show (3)-(r.i+1)<(3)-r.i;omega,?_⟩
        repeat ((conv=>whnf);refine zb ?_)
        conv=>whnf
        refine zv (congrArg (fun x=>SV.agg [SV.arr32 16 x]) (z9 (by omega) ?hv ?hkk)) ?_
        case hkk=>show ((13:Int)+(r.i:Int)).toNat=13+r.i;omega
        case hv=>
          show wd (List.drop (4*(r.i:Int)).toNat nonce) 0=_
          rw [show (4*(r.i:Int)).toNat=4*r.i by omega,z1a]
        exact zn
       ·have e5:r.i=3:=by omega
        rw [e5,z57]
        refine za ?_
        exact zf [] h
   ·exact h.elim
def zyd:Spec:=fun args hp K=>match args,hp with
  | [.arr32 16 x],[]=>Pre (x.length=16) (K (.arr8 64 (zph x)) [])
  |_,_=>False
theorem z05:zp prog 138 zyd:=by
  refine zm za0 (zd z3s zi) rfl func138 rfl call138 (D:=ykd) ?_ ?_
  ·intro args hp K h
   unfold zyd at h
   split at h
   ·exact Nat.le_of_ble_eq_true rfl
   ·exact h.elim
  ·intro args hp K h
   unfold zyd at h
   split at h
   ·rename_i x
    obtain ⟨hx,h⟩:=zq h
    refine za ?_
    refine zt (Ix (10)) (fun q=>⟨[(0,.arr32 16 x),(1,.ptr 0 0 0 []),(2,.ptr 1 0 0 []),(3,.ptr 2 0 0 []),(9,.int q.i)],[.mk 188 [.arr32 16 x],.mk 187 [.arr8 64 (List.replicate 64 0)],.mk 188 [.arr32 16 (zia x q.i)]]⟩) (fun q=>(10)-q.i) ⟨0,Nat.zero_le _⟩ [0,1,2] ?_ ?_
    ·exact zn
    ·intro q
     have hi:=q.hi
     have hX:=zql x q.i
     by_cases h4:q.i<10
     ·refine za ?_
      generalize hXe:zia x q.i=X at*
      refine zt (Ix (4)) (fun r=>⟨[(0,.arr32 16 x),(1,.ptr 0 0 0 []),(2,.ptr 1 0 0 []),(3,.ptr 2 0 0 []),(9,.int q.i),(11,.int r.i)],[.mk 188 [.arr32 16 x],.mk 187 [.arr8 64 (List.replicate 64 0)],.mk 188 [.arr32 16 (zil X r.i)]]⟩) (fun r=>(4)-r.i) ⟨0,Nat.zero_le _⟩ [0,1,2] ?_ ?_
      ·exact zn
      ·intro r
       have hri:=r.hi
       have hc:=zhj X r.i
       by_cases h5:r.i<4
       ·have e0:((r.i:Int)).toNat=r.i:=Int.toNat_natCast _
        have e1:((4:Int)+(r.i:Int)).toNat=4+r.i:=by omega
        have e2:((8:Int)+(r.i:Int)).toNat=8+r.i:=by omega
        have e3:((12:Int)+(r.i:Int)).toNat=12+r.i:=by omega
        have hp5:(zil X r.i).length=16∧(0≤(r.i:Int)∧(r.i:Int)<16)∧(0≤(4:Int)+(r.i:Int)∧(4:Int)+(r.i:Int)<16)∧(0≤(8:Int)+(r.i:Int)∧(8:Int)+(r.i:Int)<16)∧(0≤(12:Int)+(r.i:Int)∧(12:Int)+(r.i:Int)<16):=⟨by omega,by omega,by omega,by omega,by omega⟩
        refine za ?_
        rw [e0,e1,e2,e3]
        conv=>whnf
        refine ⟨⟨r.i+1,h5⟩,[0,1,2],by show (4)-(r.i+1)<(4)-r.i;omega,?_⟩
        exact zn
       ·have e5:r.i=4:=by omega
        rw [e5] at hc
        rw [e5]
        generalize hYe:zil X 4=Y at*
        refine za ?_
        refine zt (Ix (4)) (fun u=>⟨[(0,.arr32 16 x),(1,.ptr 0 0 0 []),(2,.ptr 1 0 0 []),(3,.ptr 2 0 0 []),(9,.int q.i),(23,.int u.i)],[.mk 188 [.arr32 16 x],.mk 187 [.arr8 64 (List.replicate 64 0)],.mk 188 [.arr32 16 (zie Y u.i)]]⟩) (fun u=>(4)-u.i) ⟨0,Nat.zero_le _⟩ [0,1,2] ?_ ?_
        ·exact zn
        ·intro u
         have hui:=u.hi
         have hd:=zhm Y u.i
         by_cases h6:u.i<4
         ·have e0:((u.i:Int)).toNat=u.i:=Int.toNat_natCast _
          have e1:((4:Int)+((u.i:Int)+1).tmod 4).toNat=4+(u.i+1)%4:=by rw [Int.tmod_eq_emod_of_nonneg (by omega)];omega
          have e2:((8:Int)+((u.i:Int)+2).tmod 4).toNat=8+(u.i+2)%4:=by rw [Int.tmod_eq_emod_of_nonneg (by omega)];omega
          have e3:((12:Int)+((u.i:Int)+3).tmod 4).toNat=12+(u.i+3)%4:=by rw [Int.tmod_eq_emod_of_nonneg (by omega)];omega
          have n1:=Int.tmod_nonneg (a:=(u.i:Int)+1) 4 (by omega)
          have n2:=Int.tmod_nonneg (a:=(u.i:Int)+2) 4 (by omega)
          have n3:=Int.tmod_nonneg (a:=(u.i:Int)+3) 4 (by omega)
          have hp5:(zie Y u.i).length=16∧(0≤(u.i:Int)∧(u.i:Int)<16)∧(0≤(4:Int)+((u.i:Int)+1).tmod 4∧(4:Int)+((u.i:Int)+1).tmod 4<16)∧(0≤(8:Int)+((u.i:Int)+2).tmod 4∧(8:Int)+((u.i:Int)+2).tmod 4<16)∧(0≤(12:Int)+((u.i:Int)+3).tmod 4∧(12:Int)+((u.i:Int)+3).tmod 4<16):=⟨by omega,by omega,by omega,by omega,by omega⟩
          refine za ?_
          rw [e0,e1,e2,e3]
          conv=>whnf
          refine ⟨⟨u.i+1,h6⟩,[0,1,2],by show (4)-(u.i+1)<(4)-u.i;omega,?_⟩
          exact zn
         ·have e6:u.i=4:=by omega
          rw [e6,show zie Y 4=zia x (q.i+1) by rw [←hYe,←hXe];rfl]
          refine za ?_
          refine ⟨⟨q.i+1,h4⟩,[0,1,2],by show (10)-(q.i+1)<(10)-q.i;omega,?_⟩
          exact zn
     ·have e4:q.i=10:=by omega
      rw [e4] at hX
      rw [e4]
      refine za ?_
      refine zt (Ix (64)) (fun u=>⟨[(0,.arr32 16 x),(1,.ptr 0 0 0 []),(2,.ptr 1 0 0 []),(3,.ptr 2 0 0 []),(6,.ptr 3 0 0 []),(42,.int u.i)],[.mk 188 [.arr32 16 x],.mk 187 [.arr8 64 (List.replicate 64 0)],.mk 188 [.arr32 16 (zia x 10)],.mk 187 [.arr8 64 (ovr (List.replicate 64 0) 0 (outG x) u.i)]]⟩) (fun u=>(64)-u.i) ⟨0,Nat.zero_le _⟩ [0,1,2,3] ?_ ?_
      ·exact zn
      ·intro u
       have hui:=u.hi
       have hd4:(u.i:Int).tdiv 4=((u.i/ 4:Nat):Int):=by rw [Int.tdiv_eq_ediv_of_nonneg (by omega)];omega
       have hm4:(u.i:Int).tmod 4=((u.i%4:Nat):Int):=by rw [Int.tmod_eq_emod_of_nonneg (by omega)];omega
       have hpd:(4:Int)≠0∧ya ((u.i:Int).tdiv 4):=⟨by decide,by unfold ya;omega⟩
       have hlo:=yg (l:=List.replicate 64 (0:UInt8)) (a:=0) (i:=u.i) (by rw [List.length_replicate];omega) (outG x)
       rw [List.length_replicate] at hlo
       by_cases h6:u.i<64
       ·refine za ?_
        refine ⟨⟨u.i+1,h6⟩,[0,1,2,3],by show (64)-(u.i+1)<(64)-u.i;omega,?_⟩
        repeat ((conv=>whnf);refine zb ?_)
        conv=>whnf
        refine zv (congrArg (fun x=>SV.agg [SV.arr8 64 x]) (z9 (by rw [List.length_replicate];omega) ?hv ?hkk)) ?_
        case hkk=>show ((u.i:Int)).toNat=0+u.i;omega
        case hv=>
          show ((g32 x ((u.i:Int).tdiv 4).toNat+g32 (zia x 10) ((u.i:Int).tdiv 4).toNat)>>>UInt32.ofNat (8*(u.i:Int).tmod 4).toNat).toUInt8=_
          rw [hd4,hm4,Int.toNat_natCast,show (8*((u.i%4:Nat):Int)).toNat=8*(u.i%4) by omega];rfl
        exact zn
       ·have e6:u.i=64:=by omega
        rw [e6,y4 (List.length_replicate)]
        refine za ?_
        exact zf [] h
   ·exact h.elim
end Go.Sym.Z

namespace Go.Sym.Z
open Go Go.Proofs.Tryz Go.Sym.Lp Go.Sym.Cha Go.Sym.Sha
set_option maxRecDepth 100000
attribute [local irreducible] zcf xa y9 zck zcq
def yg8:List (Nat×List PStep):= []
def yg5:List (Nat×List PStep):= []
def yjc:List (Nat×List PStep):= [(6,[⟨0,[]⟩,⟨1,[]⟩,⟨2,[]⟩,⟨3,[]⟩,⟨4,[0,1,2,3]⟩,⟨5,[0,1,2,3]⟩,⟨6,[0,1,2,3]⟩,⟨7,[0,1,2,3]⟩,⟨8,[4,5,6,7]⟩,⟨9,[]⟩]),(7,[⟨0,[]⟩,⟨1,[0]⟩,⟨2,[0]⟩,⟨3,[0]⟩,⟨4,[0]⟩,⟨5,[0,1,2,3,4]⟩,⟨6,[0,1,2,3,4]⟩,⟨7,[0,1,2,3,4]⟩,⟨8,[0,1,2,3,4]⟩,⟨9,[0]⟩,⟨10,[0,1,2,3,4,5,6,7,8,9]⟩,⟨12,[0,1,2,3,4,5,6,7,8,9,10]⟩,⟨15,[0,1,2,3,4,5,6,7,8,9,10,12]⟩,⟨16,[0,1,2,3,4,5,6,7,8,9,10,12]⟩,⟨19,[0,1,2,3,4,5,6,7,8,9,10,12,15,16]⟩,⟨21,[0,1,2,3,4,5,6,7,8,9,10,12,15,16,19]⟩,⟨24,[0,1,2,3,4,5,6,7,8,9,10,12,15,16,19,21]⟩,⟨25,[0,1,2,3,4,5,6,7,8,9,10,12,15,16,19,21]⟩,⟨11,[0,1,2,3,4,5,6,7,8,9,12,15,16,19,21,24,25]⟩,⟨13,[0,1,2,3,4,5,6,7,8,9,15,16,19,21,24,25]⟩,⟨14,[0,1,2,3,4,5,6,7,8,9,15,16,19,21,24,25]⟩,⟨17,[0,1,2,3,4,5,6,7,8,9,19,21,24,25]⟩,⟨18,[0,19,21,24,25]⟩,⟨20,[0,1,2,3,4,5,6,7,8,9,15,16,21,24,25,14,17,18]⟩,⟨22,[0,1,2,3,4,5,6,7,8,9,15,16,24,25,14,17,18]⟩,⟨23,[0,1,2,3,4,5,6,7,8,9,15,16,24,25,14,17,18]⟩,⟨26,[0,1,2,3,4,5,6,7,8,9,15,16,14,17,18]⟩,⟨27,[0]⟩,⟨28,[]⟩,⟨29,[]⟩]),(18,[⟨0,[]⟩,⟨1,[]⟩,⟨2,[0,1]⟩,⟨3,[0,1]⟩,⟨4,[2,3]⟩,⟨5,[]⟩]),(19,[⟨0,[]⟩,⟨1,[]⟩,⟨2,[0,1]⟩,⟨4,[0,1,2]⟩,⟨7,[0,1,2,4]⟩,⟨11,[0,1,2,4,7]⟩,⟨12,[0,1,2,4,7,11]⟩,⟨13,[0,1,2,4,7,11]⟩,⟨14,[0,1,2,4,7]⟩,⟨15,[0,1,2,4,7,11,12,13,14]⟩,⟨16,[0,1,2,4,7,11,12,13,14]⟩,⟨17,[0,1,2,4,7,11,12,13,14,15,16]⟩,⟨18,[0,1,2,4,7,11,12,13,14,15,16]⟩,⟨19,[0,1,2,4,7,11,12,13,14]⟩,⟨20,[0,1,2,4,7]⟩,⟨22,[0,1,2,4,7,11,12,13,14,15,16,17,18,19,20]⟩,⟨23,[0,1,2,4,7,11,12,13,14,15,16,17,18,19,20,22]⟩,⟨24,[0,1,2,4,7,11,12,13,14,15,16,17,18,19,20,23]⟩,⟨25,[0,1,2,4,7,11,12,13,14,15,16,17,18,19,20,23]⟩,⟨26,[0,1,2,4,7,11,12,13,14,15,16,17,18,19,20]⟩,⟨27,[0,1,2,4,7,11,12,13,14,15,16,17,18,19,20]⟩,⟨28,[0,1,2,4,7,11,12,13,14,15,16,17,18,19,20]⟩,⟨29,[0,1,2,4,7,11,12,13,14,15,16,17,18,19,20]⟩,⟨31,[0,1,2,4,7,11,12,13,14,15,16,17,18,19,20,22,23,24,25,26,27,28,29]⟩,⟨32,[0,1,2,4,7,11,12,13,14,15,16,17,18,19,20,22,23,24,25,26,27,28,29]⟩,⟨33,[0,1,2,4,7,11,12,13,14,15,16,17,18,19,20,22,23,24,25,26,27,28,29]⟩,⟨3,[0,1,4,7,11,12,13,14,15,16,17,18,19,20,22,23,24,25,26,27,28,29,31,32,33]⟩,⟨5,[0,1,7,11,12,13,14,15,16,17,18,19,20,22,23,24,25,26,27,28,29,31,32,33]⟩,⟨6,[0,1,7,11,12,13,14,15,16,17,18,19,20,22,23,24,25,26,27,28,29,31,32,33]⟩,⟨8,[0,1,11,12,13,14,15,16,17,18,19,20,22,23,24,25,26,27,28,29,31,32,33,6]⟩,⟨9,[0,1,11,12,13,14,15,16,17,18,19,20,22,23,24,25,26,27,28,29,31,32,33]⟩,⟨10,[11,12,13,14,15,16,17,18,19,20,22,23,24,25,26,27,28,29,31,32,33]⟩,⟨21,[22,23,24,25,26,27,28,29,31,32,33]⟩,⟨30,[31,32,33]⟩,⟨34,[]⟩,⟨35,[]⟩]),(20,[⟨0,[]⟩,⟨2,[0]⟩,⟨5,[0,2]⟩,⟨8,[0,2,5]⟩,⟨9,[0,2,5,8]⟩,⟨10,[0,2,5,8]⟩,⟨11,[0,2,5]⟩,⟨12,[0,2,5,8,9,10,11]⟩,⟨13,[0,2,5,8,9,10,11,12]⟩,⟨14,[0,2,5,8,9,10,11,12]⟩,⟨15,[0,2,5,8,9,10,11]⟩,⟨16,[0,2,5]⟩,⟨17,[0,2,5,8,9,10,11,12,13,14,15,16]⟩,⟨18,[0,2,5,8,9,10,11,12,13,14,15,16]⟩,⟨19,[0,2,5,8,9,10,11,12,13,14,15,16,17,18]⟩,⟨20,[0,2,5,8,9,10,11,12,13,14,15,16,17,18]⟩,⟨21,[0,2,5,8,9,10,11,12,13,14,15,16]⟩,⟨22,[0,2,5]⟩,⟨1,[2,5,8,9,10,11,12,13,14,15,16,17,18,19,20,21,22]⟩,⟨3,[5,8,9,10,11,12,13,14,15,16,17,18,19,20,21,22]⟩,⟨4,[5,8,9,10,11,12,13,14,15,16,17,18,19,20,21,22]⟩,⟨6,[8,9,10,11,12,13,14,15,16,17,18,19,20,21,22,4]⟩,⟨7,[8,9,10,11,12,13,14,15,16,17,18,19,20,21,22]⟩,⟨23,[]⟩,⟨24,[]⟩]),(26,[⟨0,[]⟩,⟨1,[0]⟩,⟨2,[0,1]⟩,⟨3,[0,1,2]⟩,⟨4,[0,1,3]⟩,⟨5,[0,1,3]⟩,⟨6,[0,1]⟩,⟨7,[0,1]⟩,⟨8,[0,1]⟩,⟨9,[0,1,2,3,4,5,6,7,8]⟩,⟨10,[0,1,2,3,4,5,6,7,8]⟩,⟨11,[0,1,2,3,4,5,6,7,8]⟩,⟨12,[0,1]⟩,⟨13,[0,1]⟩,⟨14,[1,2,3,4,5,6,7,8,9,10,11,12,13]⟩,⟨15,[1,2,3,4,5,6,7,8,9,10,11,12,13]⟩,⟨16,[]⟩,⟨17,[]⟩])]
def yiq:List (Nat×List PStep):= [(6,[⟨0,[]⟩,⟨1,[]⟩,⟨2,[]⟩,⟨3,[]⟩,⟨4,[0,1,2,3]⟩,⟨5,[0,1,2,3]⟩,⟨6,[0,1,2,3]⟩,⟨7,[0,1,2,3]⟩,⟨8,[4,5,6,7]⟩,⟨9,[]⟩]),(7,[⟨0,[]⟩,⟨1,[0]⟩,⟨2,[0]⟩,⟨3,[0]⟩,⟨4,[0]⟩,⟨5,[0,1,2,3,4]⟩,⟨6,[0,1,2,3,4]⟩,⟨7,[0,1,2,3,4]⟩,⟨8,[0,1,2,3,4]⟩,⟨9,[0]⟩,⟨10,[0,1,2,3,4,5,6,7,8,9]⟩,⟨12,[0,1,2,3,4,5,6,7,8,9,10]⟩,⟨15,[0,1,2,3,4,5,6,7,8,9,10,12]⟩,⟨16,[0,1,2,3,4,5,6,7,8,9,10,12]⟩,⟨19,[0,1,2,3,4,5,6,7,8,9,10,12,15,16]⟩,⟨21,[0,1,2,3,4,5,6,7,8,9,10,12,15,16,19]⟩,⟨24,[0,1,2,3,4,5,6,7,8,9,10,12,15,16,19,21]⟩,⟨25,[0,1,2,3,4,5,6,7,8,9,10,12,15,16,19,21]⟩,⟨11,[0,1,2,3,4,5,6,7,8,9,12,15,16,19,21,24,25]⟩,⟨13,[0,1,2,3,4,5,6,7,8,9,15,16,19,21,24,25]⟩,⟨14,[0,1,2,3,4,5,6,7,8,9,15,16,19,21,24,25]⟩,⟨17,[0,1,2,3,4,5,6,7,8,9,19,21,24,25]⟩,⟨18,[0,19,21,24,25]⟩,⟨20,[0,1,2,3,4,5,6,7,8,9,15,16,21,24,25,14,17,18]⟩,⟨22,[0,1,2,3,4,5,6,7,8,9,15,16,24,25,14,17,18]⟩,⟨23,[0,1,2,3,4,5,6,7,8,9,15,16,24,25,14,17,18]⟩,⟨26,[0,1,2,3,4,5,6,7,8,9,15,16,14,17,18]⟩,⟨27,[0]⟩,⟨28,[]⟩,⟨29,[]⟩]),(13,[⟨0,[]⟩,⟨1,[]⟩,⟨2,[0,1]⟩,⟨3,[0,1]⟩,⟨4,[2,3]⟩,⟨5,[]⟩]),(14,[⟨0,[]⟩,⟨1,[]⟩,⟨2,[0,1]⟩,⟨4,[0,1,2]⟩,⟨7,[0,1,2,4]⟩,⟨11,[0,1,2,4,7]⟩,⟨12,[0,1,2,4,7,11]⟩,⟨13,[0,1,2,4,7,11]⟩,⟨14,[0,1,2,4,7]⟩,⟨15,[0,1,2,4,7,11,12,13,14]⟩,⟨16,[0,1,2,4,7,11,12,13,14]⟩,⟨17,[0,1,2,4,7,11,12,13,14,15,16]⟩,⟨18,[0,1,2,4,7,11,12,13,14,15,16]⟩,⟨19,[0,1,2,4,7,11,12,13,14]⟩,⟨20,[0,1,2,4,7]⟩,⟨22,[0,1,2,4,7,11,12,13,14,15,16,17,18,19,20]⟩,⟨23,[0,1,2,4,7,11,12,13,14,15,16,17,18,19,20,22]⟩,⟨24,[0,1,2,4,7,11,12,13,14,15,16,17,18,19,20,23]⟩,⟨25,[0,1,2,4,7,11,12,13,14,15,16,17,18,19,20,23]⟩,⟨26,[0,1,2,4,7,11,12,13,14,15,16,17,18,19,20]⟩,⟨27,[0,1,2,4,7,11,12,13,14,15,16,17,18,19,20]⟩,⟨29,[0,1,2,4,7,11,12,13,14,15,16,17,18,19,20,22,23,24,25,26,27]⟩,⟨30,[0,1,2,4,7,11,12,13,14,15,16,17,18,19,20,22,23,24,25,26,27]⟩,⟨31,[0,1,2,4,7,11,12,13,14,15,16,17,18,19,20,22,23,24,25,26,27]⟩,⟨3,[0,1,4,7,11,12,13,14,15,16,17,18,19,20,22,23,24,25,26,27,29,30,31]⟩,⟨5,[0,1,7,11,12,13,14,15,16,17,18,19,20,22,23,24,25,26,27,29,30,31]⟩,⟨6,[0,1,7,11,12,13,14,15,16,17,18,19,20,22,23,24,25,26,27,29,30,31]⟩,⟨8,[0,1,11,12,13,14,15,16,17,18,19,20,22,23,24,25,26,27,29,30,31,6]⟩,⟨9,[0,1,11,12,13,14,15,16,17,18,19,20,22,23,24,25,26,27,29,30,31]⟩,⟨10,[11,12,13,14,15,16,17,18,19,20,22,23,24,25,26,27,29,30,31]⟩,⟨21,[22,23,24,25,26,27,29,30,31]⟩,⟨28,[29,30,31]⟩,⟨32,[]⟩,⟨33,[]⟩]),(15,[⟨0,[]⟩,⟨2,[0]⟩,⟨5,[0,2]⟩,⟨8,[0,2,5]⟩,⟨9,[0,2,5,8]⟩,⟨10,[0,2,5,8]⟩,⟨11,[0,2,5]⟩,⟨12,[0,2,5,8,9,10,11]⟩,⟨13,[0,2,5,8,9,10,11,12]⟩,⟨14,[0,2,5,8,9,10,11,12]⟩,⟨15,[0,2,5,8,9,10,11]⟩,⟨16,[0,2,5]⟩,⟨17,[0,2,5,8,9,10,11,12,13,14,15,16]⟩,⟨18,[0,2,5,8,9,10,11,12,13,14,15,16]⟩,⟨19,[0,2,5,8,9,10,11,12,13,14,15,16,17,18]⟩,⟨20,[0,2,5,8,9,10,11,12,13,14,15,16,17,18]⟩,⟨21,[0,2,5,8,9,10,11,12,13,14,15,16]⟩,⟨22,[0,2,5]⟩,⟨1,[2,5,8,9,10,11,12,13,14,15,16,17,18,19,20,21,22]⟩,⟨3,[5,8,9,10,11,12,13,14,15,16,17,18,19,20,21,22]⟩,⟨4,[5,8,9,10,11,12,13,14,15,16,17,18,19,20,21,22]⟩,⟨6,[8,9,10,11,12,13,14,15,16,17,18,19,20,21,22,4]⟩,⟨7,[8,9,10,11,12,13,14,15,16,17,18,19,20,21,22]⟩,⟨23,[]⟩,⟨24,[]⟩]),(21,[⟨0,[]⟩,⟨1,[0]⟩,⟨2,[1]⟩,⟨3,[1]⟩,⟨4,[]⟩,⟨5,[]⟩,⟨6,[0,1,2,3,4,5]⟩,⟨7,[0,1,2,3,4,5]⟩,⟨8,[0,1,2,3,4,5]⟩,⟨9,[]⟩,⟨10,[1,2,3,4,5,6,7,8,9]⟩,⟨11,[1,2,3,4,5,6,7,8,9]⟩,⟨12,[]⟩,⟨13,[]⟩])]
def yjz:List (Nat×TyI):= [(3,ty3),(4,ty4),(5,ty5),(9,ty9),(48,zd6),(51,zeb),(113,xw),(99,xj),(242,zl2),(245,zma),(249,zmi),(239,zmj),(248,zl4),(207,zl7)]
theorem zaw: ∀t i,y8 yjz t=some i→yt prog t i:=(zc zbg (zc zbj (zc zbc (zc zbf (zc zaq (zc zap (zc zai (zc za6 (zc zwb (zc zu7 (zc zvr (zc zu4 (zc zu8 (zc zu1 x1))))))))))))))
theorem yep {k:Int}:(UInt64.ofInt k&&&UInt64.ofNat 63).toNat=(k%64).toNat:=by
  rw [UInt64.toNat_and,show (UInt64.ofNat 63).toNat=2^6-1 by decide,Nat.and_two_pow_sub_one_eq_mod]
  have h:(UInt64.ofInt k).toNat=(k%18446744073709551616).toNat:=by
    unfold UInt64.ofInt
    rw [UInt64.toNat_ofNat']
    have:=Int.emod_nonneg k (show (2^64:Int)≠0 by decide)
    have:=Int.emod_lt_of_pos k (show (0:Int)<2^64 by decide)
    omega
  rw [h]
  omega
def zzo:Spec:=fun args hp K=>match args,hp with
  | [.u64 x,.int k],[]=>Pre (k%64≠0) (K (.u64 (zlt x (k%64).toNat)) [])
  |_,_=>False
theorem yaq:zp prog 192 zzo:=by
  refine zm zaw zi rfl func192 rfl call192 (D:=yg8) ?_ ?_
  ·intro args hp K h
   unfold zzo at h
   split at h
   ·exact Nat.le_of_ble_eq_true rfl
   ·exact h.elim
  ·intro args hp K h
   unfold zzo at h
   split at h
   ·rename_i x k
    obtain ⟨hk,h⟩:=zq h
    have hs:=yep (k:=k)
    have hm:=Int.emod_lt_of_pos k (show (0:Int)<64 by decide)
    have hm0:=Int.emod_nonneg k (show (64:Int)≠0 by decide)
    have hd:(UInt64.ofNat 64-(UInt64.ofInt k&&&UInt64.ofNat 63)).toNat=64-(k%64).toNat:=by
      rw [UInt64.toNat_sub_of_le _ _ (by rw [UInt64.le_iff_toNat_le,hs];show _≤64;omega),hs];rfl
    refine za ?_
    rw [hs,hd]
    conv=>whnf
    exact zf [] h
   ·exact h.elim
def zx5:Spec:=fun args hp K=>match args,hp with
  | [.sl 0 0 0 o n c],[.mk t [.arr8 m l]]=>Pre (off o+n≤l.length∧n≤1000) (K (.u64 (num ((l.drop (off o)).take n))) [.mk t [.arr8 m l]])
  |_,_=>False
theorem zz7:zp prog 191 zx5:=by
  refine zm zaw zi rfl func191 rfl call191 (D:=yg5) ?_ ?_
  ·intro args hp K h
   unfold zx5 at h
   split at h
   ·exact Nat.le_of_ble_eq_true rfl
   ·exact h.elim
  ·intro args hp K h
   unfold zx5 at h
   split at h
   ·rename_i o n c t m l
    obtain ⟨⟨hl,hn⟩,h⟩:=zq h
    have hB:((l.drop (off o)).take n).length=n:=by rw [List.length_take,List.length_drop];omega
    have hN:num ((l.drop (off o)).take n)=zcf ((l.drop (off o)).take n) n:=by unfold num;rw [hB]
    rw [hN] at h
    refine za ?_
    refine zt (Ix (n)) (fun q=>⟨[(0,.sl 0 0 0 o n c),(3,.u64 (zcf ((l.drop (off o)).take n) q.i)),(6,.sl 0 0 0 o n c),(7,.int n),(8,.int q.i)],[.mk t [.arr8 m l]]⟩) (fun q=>(n)-q.i) ⟨0,Nat.zero_le _⟩ [0] ?_ ?_
    ·repeat ((conv=>whnf);refine zb ?_)
     conv=>whnf
     exact zo (congrArg SV.u64 (show (0:UInt64)=zcf _ 0 by unfold zcf;rfl))
    ·intro q
     have hi:=q.hi
     have hA:off (yb o ((q.i:Int)).toNat ty5.sz)=off o+q.i:=by rw [zy];show off o+((q.i:Int)).toNat*1=_;omega
     by_cases h4:q.i<n
     ·refine za ?_
      refine ⟨⟨q.i+1,h4⟩,[0],by show (n)-(q.i+1)<(n)-q.i;omega,?_⟩
      repeat ((conv=>whnf);refine zb ?_)
      conv=>whnf
      exact zo (congrArg SV.u64 (show _=zcf ((l.drop (off o)).take n) (q.i+1) by simp only [zcf];rw [zgy h4,←hA];rfl))
     ·have e4:q.i=n:=by omega
      rw [e4]
      refine za ?_
      exact zf [0] h
   ·exact h.elim
def zuq:Spec:=fun args hp K=>match args,hp with
  | [.ptr 0 0 0 [],.sl 1 0 0 o n c],[.mk t0 [.int m,.arr64 8 H,.arr64 80 k,.sl 1 0 0 [] rn rc,.u64 all],.mk t [.arr8 L l]]=>Pre (H.length=8∧k.length=80∧64≤n∧off o+n≤l.length∧n≤c)
      (K (.tup []) [.mk t0 [.int m,.arr64 8 (zkr k H ((l.drop (off o)).take 64)),.arr64 80 k,.sl 1 0 0 [] rn rc,.u64 all],.mk t [.arr8 L l]])
  |_,_=>False
set_option maxHeartbeats 4000000 in
theorem z92:zp prog 189 zuq:=by
  refine zm zaw (zd zz7 (zd z0v zi)) rfl func189 rfl call189 (D:=yjc) ?_ ?_
  ·intro args hp K h
   unfold zuq at h
   split at h
   ·exact Nat.le_of_ble_eq_true rfl
   ·exact h.elim
  ·intro args hp K h
   unfold zuq at h
   split at h
   ·rename_i o n c t0 m H k rn rc all t L l
    obtain ⟨⟨hH,hk,hn,hl,hc⟩,h⟩:=zq h
    obtain ⟨B,hB⟩: ∃B,B=(l.drop (off o)).take 64:=⟨_,rfl⟩
    rw [←hB] at h
    refine za ?_
    refine zt (Ix (64)) (fun q=>⟨[(0,.ptr 0 0 0 []),(1,.sl 1 0 0 o n c),(4,.ptr 2 0 0 []),(16,.int q.i)],[.mk t0 [.int m,.arr64 8 H,.arr64 80 k,.sl 1 0 0 [] rn rc,.u64 all],.mk t [.arr8 L l],.mk 249 [.arr32 64 (xa B q.i)]]⟩) (fun q=>(64)-q.i) ⟨0,Nat.zero_le _⟩ [0,1,2] ?_ ?_
    ·repeat ((conv=>whnf);refine zb ?_)
     conv=>whnf
     exact zo (congrArg (fun x=>SV.agg [SV.arr32 64 x]) (show _=xa B 0 by unfold xa;rfl))
    ·intro q
     have hi:=q.hi
     have hwl:=zh2 B q.i
     have hx0:off (yb [] ((q.i:Int)).toNat xw.sz)=q.i:=by rw [zy];show 0+((q.i:Int)).toNat*1=_;omega
     by_cases h4:q.i<64
     ·by_cases h16:q.i<16
      ·have hof:off (yb o (4*(q.i:Int)).toNat ty5.sz)=off o+4*q.i:=by rw [zy];show off o+(4*(q.i:Int)).toNat*1=_;omega
       have hso:off (yb o (slO c (4*(q.i:Int)).toNat) ty5.sz)=off o+4*q.i:=by rw [zy,y7 (by omega)];show off o+(4*(q.i:Int)).toNat*1=_;omega
       have hpw:off (yb o (slO c (4*(q.i:Int)).toNat) ty5.sz)+((4*(q.i:Int)+4).toNat-(4*(q.i:Int)).toNat)≤l.length:=by rw [hso];omega
       have hpw2:off (yb o (slO c (4*(q.i:Int)).toNat) ty5.sz)+((4*(q.i:Int)+4).toNat-(4*(q.i:Int)).toNat)≤l.length∧(4*(q.i:Int)+4).toNat-(4*(q.i:Int)).toNat≤1000:=⟨hpw,by omega⟩
       have hnum:num (List.take ((4*(q.i:Int)+4).toNat-(4*(q.i:Int)).toNat) (List.drop (off (yb o (slO c (4*(q.i:Int)).toNat) ty5.sz)) l))=num ((B.drop (4*q.i)).take 4):=by
         rw [hso,hB,show (4*(q.i:Int)+4).toNat-(4*(q.i:Int)).toNat=4 by omega,List.drop_take,List.take_take,List.drop_drop,Nat.min_eq_left (by omega)]
       refine za ?_
       refine ⟨⟨q.i+1,h4⟩,[0,1,2],by show (64)-(q.i+1)<(64)-q.i;omega,?_⟩
       repeat ((conv=>whnf);refine zb ?_)
       conv=>whnf
       exact zo (congrArg (fun x=>SV.agg [SV.arr32 64 x]) (show _=xa B (q.i+1) by rw [hnum,hx0,z95 h16]))
      ·have hx15:off (yb [] ((q.i:Int)-15).toNat xw.sz)=q.i-15:=by rw [zy];show 0+((q.i:Int)-15).toNat*1=_;omega
       have hx2:off (yb [] ((q.i:Int)-2).toNat xw.sz)=q.i-2:=by rw [zy];show 0+((q.i:Int)-2).toNat*1=_;omega
       have hx16:off (yb [] ((q.i:Int)-16).toNat xw.sz)=q.i-16:=by rw [zy];show 0+((q.i:Int)-16).toNat*1=_;omega
       have hx7:off (yb [] ((q.i:Int)-7).toNat xw.sz)=q.i-7:=by rw [zy];show 0+((q.i:Int)-7).toNat*1=_;omega
       refine za ?_
       refine ⟨⟨q.i+1,h4⟩,[0,1,2],by show (64)-(q.i+1)<(64)-q.i;omega,?_⟩
       repeat ((conv=>whnf);refine zb ?_)
       conv=>whnf
       exact zo (congrArg (fun x=>SV.agg [SV.arr32 64 x]) (show _=xa B (q.i+1) by rw [hx0,hx15,hx2,hx16,hx7,z7y h16];rfl))
     ·have e4:q.i=64:=by omega
      rw [e4] at hwl
      rw [e4]
      generalize hW:xa B 64=W at*
      clear hx0 hi h4 e4 q
      refine za ?_
      have hS0:([0,0,0,0,0,0,0,0]:List UInt32).length=8:=rfl
      refine zt (Ix (8)) (fun q=>⟨[(0,.ptr 0 0 0 []),(4,.ptr 2 0 0 []),(8,.ptr 3 0 0 []),(70,.int q.i)],[.mk t0 [.int m,.arr64 8 H,.arr64 80 k,.sl 1 0 0 [] rn rc,.u64 all],.mk t [.arr8 L l],.mk 249 [.arr32 64 W],.mk 239 [.arr32 8 (ovr [0,0,0,0,0,0,0,0] 0 (fun i=>(g64 H i).toUInt32) q.i)]]⟩) (fun q=>(8)-q.i) ⟨0,Nat.zero_le _⟩ [0,1,2,3] ?_ ?_
      ·exact zn
      ·intro q
       have hi:=q.hi
       have hlo:=yg (l:=([0,0,0,0,0,0,0,0]:List UInt32)) (a:=0) (i:=q.i) (by rw [hS0];omega) (fun i=>(g64 H i).toUInt32)
       rw [hS0] at hlo
       have hI:((q.i:Int)).toNat=q.i:=Int.toNat_natCast _
       by_cases h4:q.i<8
       ·refine za ?_
        refine ⟨⟨q.i+1,h4⟩,[0,1,2,3],by show (8)-(q.i+1)<(8)-q.i;omega,?_⟩
        repeat ((conv=>whnf);refine zb ?_)
        conv=>whnf
        refine zv (congrArg (fun x=>SV.agg [SV.arr32 8 x]) (z9 (by rw [hS0];omega) ?hv ?hkk)) ?_
        case hkk=>show ((q.i:Int)).toNat=0+q.i;omega
        case hv=>show (List.getD H ((q.i:Int)).toNat 0).toUInt32=_;rw [hI];rfl
        exact zn
       ·have e4:q.i=8:=by omega
        rw [e4,y4 hS0]
        obtain ⟨S,hSd⟩: ∃S,S=(List.range 8).map fun i=>(g64 H i).toUInt32:=⟨_,rfl⟩
        have hSl:S.length=8:=by rw [hSd];exact zz _ _
        rw [←hSd]
        clear hi h4 e4 hlo hI q
        refine za ?_
        refine zt (Ix (64)) (fun q=>⟨[(0,.ptr 0 0 0 []),(4,.ptr 2 0 0 []),(8,.ptr 3 0 0 []),(83,.int q.i)],[.mk t0 [.int m,.arr64 8 H,.arr64 80 k,.sl 1 0 0 [] rn rc,.u64 all],.mk t [.arr8 L l],.mk 249 [.arr32 64 W],.mk 239 [.arr32 8 (zck k W S q.i)]]⟩) (fun q=>(64)-q.i) ⟨0,Nat.zero_le _⟩ [0,1,2,3] ?_ ?_
        ·repeat ((conv=>whnf);refine zb ?_)
         conv=>whnf
         exact zo (congrArg (fun x=>SV.agg [SV.arr32 8 x]) (show _=zck k W S 0 by unfold zck;rfl))
        ·intro q
         have hi:=q.hi
         have hrl:=zrd (k:=k) (w:=W) hSl q.i
         have hx0:off (yb [] ((q.i:Int)).toNat xw.sz)=q.i:=by rw [zy];show 0+((q.i:Int)).toNat*1=_;omega
         have hy0:off (yb [] ((q.i:Int)).toNat xj.sz)=q.i:=by rw [zy];show 0+((q.i:Int)).toNat*1=_;omega
         by_cases h4:q.i<64
         ·refine za ?_
          conv=>whnf
          refine ⟨⟨q.i+1,h4⟩,[0,1,2,3],by show (64)-(q.i+1)<(64)-q.i;omega,?_⟩
          repeat ((conv=>whnf);refine zb ?_)
          conv=>whnf
          exact zo (congrArg (fun x=>SV.agg [SV.arr32 8 x]) (show _=zck k W S (q.i+1) by simp only [zck];rw [←hx0];rfl))
         ·have e4:q.i=64:=by omega
          rw [e4] at hrl
          rw [e4]
          obtain ⟨Z,hZ⟩: ∃Z,Z=zck k W S 64:=⟨_,rfl⟩
          rw [←hZ] at hrl
          rw [←hZ]
          clear hy0 hx0 hi h4 e4 q
          refine za ?_
          refine zt (Ix (8)) (fun q=>⟨[(0,.ptr 0 0 0 []),(4,.ptr 2 0 0 []),(8,.ptr 3 0 0 []),(170,.int q.i)],[.mk t0 [.int m,.arr64 8 (ovr H 0 (fun i=>((g64 H i).toUInt32+g32 Z i).toUInt64) q.i),.arr64 80 k,.sl 1 0 0 [] rn rc,.u64 all],.mk t [.arr8 L l],.mk 249 [.arr32 64 W],.mk 239 [.arr32 8 Z]]⟩) (fun q=>(8)-q.i) ⟨0,Nat.zero_le _⟩ [0,1,2,3] ?_ ?_
          ·exact zn
          ·intro q
           have hi:=q.hi
           have hlo:=yg (l:=H) (a:=0) (i:=q.i) (by omega) (fun i=>((g64 H i).toUInt32+g32 Z i).toUInt64)
           have hI:((q.i:Int)).toNat=q.i:=Int.toNat_natCast _
           by_cases h4:q.i<8
           ·refine za ?_
            refine ⟨⟨q.i+1,h4⟩,[0,1,2,3],by show (8)-(q.i+1)<(8)-q.i;omega,?_⟩
            repeat ((conv=>whnf);refine zb ?_)
            conv=>whnf
            refine zv (congrArg (fun x=>SV.agg [SV.int m,SV.arr64 8 x,SV.arr64 80 k,SV.sl 1 0 0 [] rn rc,SV.u64 all]) (z9 (by omega) ?hv ?hkk)) ?_
            case hkk=>show ((q.i:Int)).toNat=0+q.i;omega
            case hv=>
              show ((List.getD (ovr H 0 (fun i=>((g64 H i).toUInt32+g32 Z i).toUInt64) q.i) ((q.i:Int)).toNat 0).toUInt32+List.getD Z ((q.i:Int)).toNat 0).toUInt64=_
              rw [yw (by omega) _ (by omega),hI];rfl
            exact zn
           ·have e4:q.i=8:=by omega
            have hfin:ovr H 0 (fun i=>((g64 H i).toUInt32+g32 Z i).toUInt64) 8=zkr k H B:=by
              rw [y4 hH];unfold zkr;rw [hW,←hSd,←hZ]
            rw [e4,hfin]
            refine za ?_
            exact zf [0,1] h
   ·exact h.elim
def zsm:Spec:=fun args hp K=>match args,hp with
  | [.ptr 0 0 0 [],.sl 1 0 0 o n c],[.mk t0 [.int m,.arr64 8 H,.arr64 80 k,.sl 1 0 0 [] rn rc,.u64 all],.mk t [.arr8 L l]]=>Pre (H.length=8∧k.length=80∧128≤n∧off o+n≤l.length∧n≤c)
      (K (.tup []) [.mk t0 [.int m,.arr64 8 (zge k H ((l.drop (off o)).take 128)),.arr64 80 k,.sl 1 0 0 [] rn rc,.u64 all],.mk t [.arr8 L l]])
  |_,_=>False
set_option maxHeartbeats 4000000 in
theorem z6p:zp prog 190 zsm:=by
  refine zm zaw (zd zz7 (zd yaq zi)) rfl func190 rfl call190 (D:=yiq) ?_ ?_
  ·intro args hp K h
   unfold zsm at h
   split at h
   ·exact Nat.le_of_ble_eq_true rfl
   ·exact h.elim
  ·intro args hp K h
   unfold zsm at h
   split at h
   ·rename_i o n c t0 m H k rn rc all t L l
    obtain ⟨⟨hH,hk,hn,hl,hc⟩,h⟩:=zq h
    obtain ⟨B,hB⟩: ∃B,B=(l.drop (off o)).take 128:=⟨_,rfl⟩
    rw [←hB] at h
    refine za ?_
    refine zt (Ix (80)) (fun q=>⟨[(0,.ptr 0 0 0 []),(1,.sl 1 0 0 o n c),(4,.ptr 2 0 0 []),(15,.int q.i)],[.mk t0 [.int m,.arr64 8 H,.arr64 80 k,.sl 1 0 0 [] rn rc,.u64 all],.mk t [.arr8 L l],.mk 245 [.arr64 80 (y9 B q.i)]]⟩) (fun q=>(80)-q.i) ⟨0,Nat.zero_le _⟩ [0,1,2] ?_ ?_
    ·repeat ((conv=>whnf);refine zb ?_)
     conv=>whnf
     exact zo (congrArg (fun x=>SV.agg [SV.arr64 80 x]) (show _=y9 B 0 by unfold y9;rfl))
    ·intro q
     have hi:=q.hi
     have hwl:=zh0 B q.i
     have hx0:off (yb [] ((q.i:Int)).toNat xj.sz)=q.i:=by rw [zy];show 0+((q.i:Int)).toNat*1=_;omega
     by_cases h4:q.i<80
     ·by_cases h16:q.i<16
      ·have hof:off (yb o (8*(q.i:Int)).toNat ty5.sz)=off o+8*q.i:=by rw [zy];show off o+(8*(q.i:Int)).toNat*1=_;omega
       have hso:off (yb o (slO c (8*(q.i:Int)).toNat) ty5.sz)=off o+8*q.i:=by rw [zy,y7 (by omega)];show off o+(8*(q.i:Int)).toNat*1=_;omega
       have hpw:off (yb o (slO c (8*(q.i:Int)).toNat) ty5.sz)+((8*(q.i:Int)+8).toNat-(8*(q.i:Int)).toNat)≤l.length:=by rw [hso];omega
       have hpw2:off (yb o (slO c (8*(q.i:Int)).toNat) ty5.sz)+((8*(q.i:Int)+8).toNat-(8*(q.i:Int)).toNat)≤l.length∧(8*(q.i:Int)+8).toNat-(8*(q.i:Int)).toNat≤1000:=⟨hpw,by omega⟩
       have hnum:num (List.take ((8*(q.i:Int)+8).toNat-(8*(q.i:Int)).toNat) (List.drop (off (yb o (slO c (8*(q.i:Int)).toNat) ty5.sz)) l))=num ((B.drop (8*q.i)).take 8):=by
         rw [hso,hB,show (8*(q.i:Int)+8).toNat-(8*(q.i:Int)).toNat=8 by omega,List.drop_take,List.take_take,List.drop_drop,Nat.min_eq_left (by omega)]
       refine za ?_
       refine ⟨⟨q.i+1,h4⟩,[0,1,2],by show (80)-(q.i+1)<(80)-q.i;omega,?_⟩
       repeat ((conv=>whnf);refine zb ?_)
       conv=>whnf
       exact zo (congrArg (fun x=>SV.agg [SV.arr64 80 x]) (show _=y9 B (q.i+1) by rw [hnum,hx0,zxs h16]))
      ·have hx15:off (yb [] ((q.i:Int)-15).toNat xj.sz)=q.i-15:=by rw [zy];show 0+((q.i:Int)-15).toNat*1=_;omega
       have hx2:off (yb [] ((q.i:Int)-2).toNat xj.sz)=q.i-2:=by rw [zy];show 0+((q.i:Int)-2).toNat*1=_;omega
       have hx16:off (yb [] ((q.i:Int)-16).toNat xj.sz)=q.i-16:=by rw [zy];show 0+((q.i:Int)-16).toNat*1=_;omega
       have hx7:off (yb [] ((q.i:Int)-7).toNat xj.sz)=q.i-7:=by rw [zy];show 0+((q.i:Int)-7).toNat*1=_;omega
       refine za ?_
       refine ⟨⟨q.i+1,h4⟩,[0,1,2],by show (80)-(q.i+1)<(80)-q.i;omega,?_⟩
       repeat ((conv=>whnf);refine zb ?_)
       conv=>whnf
       exact zo (congrArg (fun x=>SV.agg [SV.arr64 80 x]) (show _=y9 B (q.i+1) by rw [hx0,hx15,hx2,hx16,hx7,zxo h16];rfl))
     ·have e4:q.i=80:=by omega
      rw [e4] at hwl
      rw [e4]
      generalize hW:y9 B 80=W at*
      clear hx0 hi h4 e4 q
      refine za ?_
      have hSl:=hH
      refine zt (Ix (80)) (fun q=>⟨[(0,.ptr 0 0 0 []),(4,.ptr 2 0 0 []),(8,.ptr 3 0 0 []),(72,.int q.i)],[.mk t0 [.int m,.arr64 8 H,.arr64 80 k,.sl 1 0 0 [] rn rc,.u64 all],.mk t [.arr8 L l],.mk 245 [.arr64 80 W],.mk 242 [.arr64 8 (zcq k W H q.i)]]⟩) (fun q=>(80)-q.i) ⟨0,Nat.zero_le _⟩ [0,1,2,3] ?_ ?_
      ·repeat ((conv=>whnf);refine zb ?_)
       conv=>whnf
       exact zo (congrArg (fun x=>SV.agg [SV.arr64 8 x]) (show _=zcq k W H 0 by unfold zcq;rfl))
      ·intro q
       have hi:=q.hi
       have hrl:=zq7 (k:=k) (w:=W) hSl q.i
       have hx0:off (yb [] ((q.i:Int)).toNat xj.sz)=q.i:=by rw [zy];show 0+((q.i:Int)).toNat*1=_;omega
       have hy0:off (yb [] ((q.i:Int)).toNat xj.sz)=q.i:=by rw [zy];show 0+((q.i:Int)).toNat*1=_;omega
       by_cases h4:q.i<80
       ·refine za ?_
        conv=>whnf
        refine ⟨⟨q.i+1,h4⟩,[0,1,2,3],by show (80)-(q.i+1)<(80)-q.i;omega,?_⟩
        repeat ((conv=>whnf);refine zb ?_)
        conv=>whnf
        exact zo (congrArg (fun x=>SV.agg [SV.arr64 8 x]) (show _=zcq k W H (q.i+1) by simp only [zcq];rw [←hx0];rfl))
       ·have e4:q.i=80:=by omega
        rw [e4] at hrl
        rw [e4]
        obtain ⟨Z,hZ⟩: ∃Z,Z=zcq k W H 80:=⟨_,rfl⟩
        rw [←hZ] at hrl
        rw [←hZ]
        clear hy0 hx0 hi h4 e4 q
        refine za ?_
        refine zt (Ix (8)) (fun q=>⟨[(0,.ptr 0 0 0 []),(4,.ptr 2 0 0 []),(8,.ptr 3 0 0 []),(157,.int q.i)],[.mk t0 [.int m,.arr64 8 (ovr H 0 (fun i=>g64 H i+g64 Z i) q.i),.arr64 80 k,.sl 1 0 0 [] rn rc,.u64 all],.mk t [.arr8 L l],.mk 245 [.arr64 80 W],.mk 242 [.arr64 8 Z]]⟩) (fun q=>(8)-q.i) ⟨0,Nat.zero_le _⟩ [0,1,2,3] ?_ ?_
        ·exact zn
        ·intro q
         have hi:=q.hi
         have hlo:=yg (l:=H) (a:=0) (i:=q.i) (by omega) (fun i=>g64 H i+g64 Z i)
         have hI:((q.i:Int)).toNat=q.i:=Int.toNat_natCast _
         by_cases h4:q.i<8
         ·refine za ?_
          refine ⟨⟨q.i+1,h4⟩,[0,1,2,3],by show (8)-(q.i+1)<(8)-q.i;omega,?_⟩
          repeat ((conv=>whnf);refine zb ?_)
          conv=>whnf
          refine zv (congrArg (fun x=>SV.agg [SV.int m,SV.arr64 8 x,SV.arr64 80 k,SV.sl 1 0 0 [] rn rc,SV.u64 all]) (z9 (by omega) ?hv ?hkk)) ?_
          case hkk=>show ((q.i:Int)).toNat=0+q.i;omega
          case hv=>
            show List.getD (ovr H 0 (fun i=>g64 H i+g64 Z i) q.i) ((q.i:Int)).toNat 0+List.getD Z ((q.i:Int)).toNat 0=_
            rw [yw (by omega) _ (by omega),hI];rfl
          exact zn
         ·have e4:q.i=8:=by omega
          have hfin:ovr H 0 (fun i=>g64 H i+g64 Z i) 8=zge k H B:=by
            rw [y4 hH];unfold zge;rw [hW,←hZ]
          rw [e4,hfin]
          refine za ?_
          exact zf [0,1] h
   ·exact h.elim
end Go.Sym.Z

namespace Go.Sym.Z
open Go Go.Proofs.Tryz Go.Sym.Lp Go.Sym.Cha Go.Sym.Sha
set_option maxRecDepth 100000
attribute [local irreducible] zkr zge xb KC HB za1
def yj7:List (Nat×List PStep):= []
def yjo:List (Nat×List PStep):= []
def yia:List (Nat×List PStep):= []
def yi9:List (Nat×List PStep):= []
def yhr:List (Nat×List PStep):= []
def zxe:Spec:=fun args hp K=>match args,hp with
  | [.ptr 0 0 0 [],.sl 1 0 0 o n c],[.mk t0 [.int m,.arr64 8 H,.arr64 80 k,.sl 1 0 0 [] rn rc,.u64 all],.mk t [.arr8 L l]]=>Pre (H.length=8∧k.length=80∧bk m≤n∧off o+n≤l.length∧n≤c)
      (K (.tup []) [.mk t0 [.int m,.arr64 8 (za1 m k H ((l.drop (off o)).take (bk m))),.arr64 80 k,.sl 1 0 0 [] rn rc,.u64 all],.mk t [.arr8 L l]])
  |_,_=>False
theorem ybb:zp prog 186 zxe:=by
  refine zm zaw (zd z92 (zd z6p zi)) rfl func186 rfl call186 (D:=yj7) ?_ ?_
  ·intro args hp K h
   unfold zxe at h
   split at h
   ·exact Nat.le_of_ble_eq_true rfl
   ·exact h.elim
  ·intro args hp K h
   unfold zxe at h
   split at h
   ·rename_i o n c t0 m H k rn rc all t L l
    obtain ⟨⟨hH,hk,hn,hl,hc⟩,h⟩:=zq h
    by_cases hm:m=256
    ·have hb:bk m=64:=by unfold bk;rw [if_pos hm]
     have hT:za1 m k H ((l.drop (off o)).take (bk m))=zkr k H ((l.drop (off o)).take 64):=by unfold za1;rw [if_pos hm,hb]
     rw [hT] at h
     rw [hb] at hn
     have hp:H.length=8∧k.length=80∧64≤n∧off o+n≤l.length∧n≤c:=⟨hH,hk,hn,hl,hc⟩
     refine za ?_
     exact zf [0,1] h
    ·have hb:bk m=128:=by unfold bk;rw [if_neg hm]
     have hT:za1 m k H ((l.drop (off o)).take (bk m))=zge k H ((l.drop (off o)).take 128):=by unfold za1;rw [if_neg hm,hb]
     rw [hT] at h
     rw [hb] at hn
     have hp:H.length=8∧k.length=80∧128≤n∧off o+n≤l.length∧n≤c:=⟨hH,hk,hn,hl,hc⟩
     refine za ?_
     exact zf [0,1] h
   ·exact h.elim
def zto:Spec:=fun args hp K=>match args,hp with
  | [.ptr 0 0 0 []],[.mk t0 [.int m,.arr64 8 H,.arr64 80 k,.nilsl,.u64 all]]=>K (.int (bk m:Nat)) [.mk t0 [.int m,.arr64 8 H,.arr64 80 k,.nilsl,.u64 all]]
  | [.ptr 0 0 0 []],[.mk t0 [.int m,.arr64 8 H,.arr64 80 k,.sl 1 0 0 [] rn rc,.u64 all],.mk t [.arr8 L l]]=>K (.int (bk m:Nat)) [.mk t0 [.int m,.arr64 8 H,.arr64 80 k,.sl 1 0 0 [] rn rc,.u64 all],.mk t [.arr8 L l]]
  |_,_=>False
theorem zv6:zp prog 185 zto:=by
  refine zm zaw zi rfl func185 rfl call185 (D:=yjo) ?_ ?_
  ·intro args hp K h
   unfold zto at h
   split at h
   ·exact Nat.le_of_ble_eq_true rfl
   ·exact Nat.le_of_ble_eq_true rfl
   ·exact h.elim
  ·intro args hp K h
   unfold zto at h
   split at h
   ·rename_i t0 m H k all
    by_cases hm:m=256
    ·have hb:bk m=64:=by unfold bk;rw [if_pos hm]
     rw [hb] at h
     refine za ?_
     exact zf [0] h
    ·have hb:bk m=128:=by unfold bk;rw [if_neg hm]
     rw [hb] at h
     refine za ?_
     exact zf [0] h
   ·rename_i t0 m H k rn rc all t L l
    by_cases hm:m=256
    ·have hb:bk m=64:=by unfold bk;rw [if_pos hm]
     rw [hb] at h
     refine za ?_
     exact zf [0,1] h
    ·have hb:bk m=128:=by unfold bk;rw [if_neg hm]
     rw [hb] at h
     refine za ?_
     exact zf [0,1] h
   ·exact h.elim
def zua:Spec:=fun args hp K=>match args,hp with
  | [.int n],[]=>K (.arr64 8 (HB n)) []
  |_,_=>False
theorem z5f:zp prog 182 zua:=by
  refine zm zaw zi rfl func182 rfl call182 (D:=yia) ?_ ?_
  ·intro args hp K h
   unfold zua at h
   split at h
   ·exact Nat.le_of_ble_eq_true rfl
   ·exact h.elim
  ·intro args hp K h
   unfold zua at h
   split at h
   ·rename_i n
    by_cases hn:n=256
    ·rw [show HB n=_ from by unfold HB;rw [if_pos hn]] at h
     refine za ?_
     exact zf [] h
    ·rw [show HB n=_ from by unfold HB;rw [if_neg hn]] at h
     refine za ?_
     exact zf [] h
   ·exact h.elim
def zte:Spec:=fun args hp K=>match args,hp with
  | [],[]=>K (.arr64 80 KC) []
  |_,_=>False
theorem z6a:zp prog 183 zte:=by
  refine zm zaw zi rfl func183 rfl call183 (D:=yi9) ?_ ?_
  ·intro args hp K h
   unfold zte at h
   split at h
   ·exact Nat.le_of_ble_eq_true rfl
   ·exact h.elim
  ·intro args hp K h
   unfold zte at h
   split at h
   ·refine za ?_
    refine yu (hp':= []) [] h ?_
    repeat ((conv=>whnf);refine zb ?_)
    conv=>whnf
    exact zo (congrArg (SV.arr64 80) (show _=KC by unfold KC;decide+kernel))
   ·exact h.elim
def z8a:Spec:=fun args hp K=>match args,hp with
  | [.int n],[]=>ye (decide (n=256∨n=384)) (K (.tup [.ptr 0 0 0 [],.int 0]) [.mk 248 [.int n,.arr64 8 (HB n),.arr64 80 KC,.nilsl,.u64 0]]) (K (.tup [.nilptr,.int 200]) [])
  |_,_=>False
theorem z5v:zp prog 170 z8a:=by
  refine zm zaw (zd z5f (zd z6a zi)) rfl func170 rfl call170 (D:=yhr) ?_ ?_
  ·intro args hp K h
   unfold z8a at h
   split at h
   ·exact Nat.le_of_ble_eq_true rfl
   ·exact h.elim
  ·intro args hp K h
   unfold z8a at h
   split at h
   ·rename_i n
    obtain ⟨ht,hf⟩:=z8 h
    have hl:=zn2 n
    have hk:=zog
    by_cases h1:n=256
    ·have h:=ht (decide_eq_true (.inl h1))
     refine za ?_
     exact zf [0] h
    ·by_cases h2:n=384
     ·have h:=ht (decide_eq_true (.inr h2))
      refine za ?_
      exact zf [0] h
     ·have h:=hf (decide_eq_false (by omega))
      refine za ?_
      exact zf [] h
   ·exact h.elim
end Go.Sym.Z
