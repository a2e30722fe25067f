/-
  Contracts of functions of the program, each said of symbolic values, and plain laws; no condition beyond each statement's own.
-/
import Derived.Test.YtmmpgjcpielefaaGreatG18
import Derived.Test.YtmmpgjcpielefaaGreatG21
set_option linter.unusedSimpArgs false
set_option linter.unusedVariables false
namespace Go.Sym.Z
open Go Go.Proofs.Tryz Go.Sym.Lp Go.Sym.Cha
set_option maxRecDepth 100000
def z90:List (Nat×List PStep):= []
def z77:List (Nat×List PStep):= [(1,[⟨0,[]⟩,⟨1,[]⟩,⟨2,[]⟩,⟨3,[0,1,2]⟩,⟨4,[0,1,2]⟩,⟨5,[0,1,2]⟩,⟨6,[0,1,2]⟩,⟨7,[]⟩,⟨8,[0,1,2,3,4,5,6,7]⟩,⟨9,[0,1,2,3,4,5,6,7]⟩,⟨10,[0,1,2,3,4,5,6,7]⟩,⟨11,[0,1,2,3,4,5,6,7]⟩,⟨12,[]⟩,⟨13,[0,1,2,3,4,5,6,7,8,9,10,11,12]⟩,⟨14,[0,1,2,3,4,5,6,7,8,9,10,11,12]⟩,⟨15,[0,1,2,3,4,5,6,7,8,9,10,11,12]⟩,⟨16,[0,1,2,3,4,5,6,7,8,9,10,11,12]⟩,⟨17,[]⟩,⟨18,[]⟩])]
def z9v:List (Nat×List PStep):= []
def z8d:List (Nat×List PStep):= [(0,[⟨0,[]⟩,⟨1,[0]⟩,⟨2,[1]⟩,⟨3,[]⟩,⟨4,[]⟩,⟨5,[0,1,2,3,4]⟩,⟨6,[0,1,2,3,4,5]⟩,⟨7,[0,1,2,3,4,6]⟩,⟨8,[0,1,2,3,4]⟩,⟨9,[0,1,2,3,4]⟩,⟨10,[]⟩,⟨11,[1,2,3,4,5,6,7,8,9,10]⟩,⟨12,[]⟩,⟨13,[]⟩]),(1,[⟨0,[]⟩,⟨1,[0]⟩,⟨2,[0,1]⟩,⟨3,[0,1,2]⟩,⟨4,[0,1,3]⟩,⟨5,[0,1]⟩,⟨6,[0,1]⟩,⟨7,[0,1,2,3,4,5,6]⟩,⟨8,[0,1,2,3,4,5,6,7]⟩,⟨9,[0,1,2,3,4,5,6,8]⟩,⟨10,[0,1,2,3,4,5,6]⟩,⟨11,[0,1,2,3,4,5,6]⟩,⟨12,[0,1]⟩,⟨14,[1,2,3,4,5,6,7,8,9,10,11,12]⟩,⟨13,[0,1,14]⟩,⟨15,[]⟩,⟨16,[]⟩]),(2,[⟨0,[]⟩,⟨1,[0]⟩,⟨2,[1]⟩,⟨3,[]⟩,⟨4,[]⟩,⟨5,[0,1,2,3,4]⟩,⟨6,[0,1,2,3,4,5]⟩,⟨7,[0,1,2,3,4,6]⟩,⟨8,[0,1,2,3,4]⟩,⟨9,[0,1,2,3,4]⟩,⟨10,[]⟩,⟨11,[1,2,3,4,5,6,7,8,9,10]⟩,⟨12,[]⟩,⟨13,[]⟩]),(3,[⟨0,[]⟩,⟨1,[0]⟩,⟨2,[0,1]⟩,⟨3,[0,1,2]⟩,⟨4,[0,1,3]⟩,⟨5,[0,1]⟩,⟨6,[0,1]⟩,⟨7,[0,1,2,3,4,5,6]⟩,⟨8,[0,1,2,3,4,5,6,7]⟩,⟨9,[0,1,2,3,4,5,6,8]⟩,⟨10,[0,1,2,3,4,5,6]⟩,⟨11,[0,1,2,3,4,5,6]⟩,⟨12,[0,1]⟩,⟨14,[1,2,3,4,5,6,7,8,9,10,11,12]⟩,⟨13,[0,1,14]⟩,⟨15,[]⟩,⟨16,[]⟩]),(4,[⟨0,[]⟩,⟨1,[0]⟩,⟨2,[1]⟩,⟨3,[]⟩,⟨4,[]⟩,⟨5,[0,1,2,3,4]⟩,⟨6,[0,1,2,3,4,5]⟩,⟨7,[0,1,2,3,4,6]⟩,⟨8,[0,1,2,3,4]⟩,⟨9,[0,1,2,3,4]⟩,⟨10,[]⟩,⟨11,[1,2,3,4,5,6,7,8,9,10]⟩,⟨12,[]⟩,⟨13,[]⟩]),(5,[⟨0,[]⟩,⟨1,[0]⟩,⟨2,[0,1]⟩,⟨3,[0,1,2]⟩,⟨4,[0,1,3]⟩,⟨5,[0,1]⟩,⟨6,[0,1]⟩,⟨7,[0,1,2,3,4,5,6]⟩,⟨8,[0,1,2,3,4,5,6,7]⟩,⟨9,[0,1,2,3,4,5,6,8]⟩,⟨10,[0,1,2,3,4,5,6]⟩,⟨11,[0,1,2,3,4,5,6]⟩,⟨12,[0,1]⟩,⟨14,[1,2,3,4,5,6,7,8,9,10,11,12]⟩,⟨13,[0,1,14]⟩,⟨15,[]⟩,⟨16,[]⟩]),(6,[⟨0,[]⟩,⟨1,[0]⟩,⟨2,[1]⟩,⟨3,[]⟩,⟨4,[]⟩,⟨5,[0,1,2,3,4]⟩,⟨6,[0,1,2,3,4,5]⟩,⟨7,[0,1,2,3,4,6]⟩,⟨8,[0,1,2,3,4]⟩,⟨9,[0,1,2,3,4]⟩,⟨10,[]⟩,⟨11,[1,2,3,4,5,6,7,8,9,10]⟩,⟨12,[]⟩,⟨13,[]⟩]),(7,[⟨0,[]⟩,⟨1,[0]⟩,⟨2,[0,1]⟩,⟨3,[0,1,2]⟩,⟨4,[0,1,3]⟩,⟨5,[0,1]⟩,⟨6,[0,1]⟩,⟨7,[0,1,2,3,4,5,6]⟩,⟨8,[0,1,2,3,4,5,6,7]⟩,⟨9,[0,1,2,3,4,5,6,8]⟩,⟨10,[0,1,2,3,4,5,6]⟩,⟨11,[0,1,2,3,4,5,6]⟩,⟨12,[0,1]⟩,⟨14,[1,2,3,4,5,6,7,8,9,10,11,12]⟩,⟨13,[0,1,14]⟩,⟨15,[]⟩,⟨16,[]⟩])]
def z8l:List (Nat×List PStep):= [(19,[⟨0,[]⟩,⟨1,[0]⟩,⟨2,[0]⟩,⟨3,[0]⟩,⟨4,[0]⟩,⟨5,[0,1,2,3,4]⟩,⟨6,[0,1,2,3,4]⟩,⟨7,[0,1,2,3,4]⟩,⟨8,[0,1,2,3,4]⟩,⟨9,[0]⟩,⟨10,[0,1,2,3,4,5,6,7,8,9]⟩,⟨11,[0,1,2,3,4,5,6,7,8,9]⟩,⟨12,[0,1,2,3,4,5,6,7,8,9]⟩,⟨13,[0]⟩,⟨14,[0]⟩,⟨15,[]⟩,⟨16,[]⟩])]
def z89:List (Nat×TyI):= [(3,ty3),(4,ty4),(5,ty5),(9,ty9),(48,zc6),(51,zcx),(113,zad),(187,zfs),(164,zfz),(188,ze4),(235,zfg)]
theorem zb8: ∀t i,yz z89 t=some i→yn prog t i:=(zb ty3_ok (zb zbu (zb zby (zb zbz (zb zaw (zb za2 (zb zaq (zb z12 (zb z0c (zb z2n (zb zy6 zae)))))))))))
theorem yap {k:Int}:(UInt64.ofInt k&&&UInt64.ofNat 31).toNat=(k%32).toNat:=by
  rw [UInt64.toNat_and,show (UInt64.ofNat 31).toNat=2^5-1 by decide,Nat.and_two_pow_sub_one_eq_mod]
  have h:(UInt64.ofInt k).toNat=(k%18446744073709551616).toNat:=by
    unfold UInt64.ofInt
    rw [UInt64.toNat_ofNat']
    have:=Int.emod_nonneg k (show (2^64:Int)≠0 by decide)
    have:=Int.emod_lt_of_pos k (show (0:Int)<2^64 by decide)
    omega
  rw [h]
  omega
def zs6:Spec:=fun args hp K=>match args,hp with
  | [.u32 x,.int k],[]=>Pre (k%32≠0) (K (.u32 (zh3 x (k%32).toNat)) [])
  |_,_=>False
theorem zwa:zp prog 176 zs6:=by
  refine zl zb8 zg rfl func176 rfl call176 (D:=z90) ?_ ?_
  ·intro args hp K h
   unfold zs6 at h
   split at h
   ·exact Nat.le_of_ble_eq_true rfl
   ·exact h.elim
  ·intro args hp K h
   unfold zs6 at h
   split at h
   ·rename_i x k
    obtain ⟨hk,h⟩:=zi h
    have hs:=yap (k:=k)
    have hm:=Int.emod_lt_of_pos k (show (0:Int)<32 by decide)
    have hm0:=Int.emod_nonneg k (show (32:Int)≠0 by decide)
    have hd:(UInt64.ofNat 32-(UInt64.ofInt k&&&UInt64.ofNat 31)).toNat=32-(k%32).toNat:=by
      rw [UInt64.toNat_sub_of_le _ _ (by rw [UInt64.le_iff_toNat_le,hs];show _≤32;omega),hs];rfl
    refine za ?_
    rw [hs,hd]
    conv=>whnf
    exact zm [] h
   ·exact h.elim
def z1r:Spec:=fun args hp K=>match args,hp with
  | [.str s],[]=>Pre (4≤s.length) (K (.u32 (wd s 0)) [])
  |_,_=>False
theorem z7k:zp prog 160 z1r:=by
  refine zl zb8 zg rfl func160 rfl call160 (D:=z77) ?_ ?_
  ·intro args hp K h
   unfold z1r at h
   split at h
   ·exact Nat.le_of_ble_eq_true rfl
   ·exact h.elim
  ·intro args hp K h
   unfold z1r at h
   split at h
   ·rename_i s
    obtain ⟨hs,h⟩:=zi h
    refine za ?_
    exact zm [] h
   ·exact h.elim
def zm0:Spec:=fun args hp K=>match args,hp with
  | [.ptr 0 0 0 [],.int a,.int b,.int c,.int d],[.mk t [.arr32 16 x]]=>Pre (x.length=16∧(0≤a∧a<16)∧(0≤b∧b<16)∧(0≤c∧c<16)∧(0≤d∧d<16)) (K (.tup []) [.mk t [.arr32 16 (qr x a.toNat b.toNat c.toNat d.toNat)]])
  |_,_=>False
theorem zxd:zp prog 161 zm0:=by
  refine zl zb8 (ze zwa zg) rfl func161 rfl call161 (D:=z8d) ?_ ?_
  ·intro args hp K h
   unfold zm0 at h
   split at h
   ·exact Nat.le_of_ble_eq_true rfl
   ·exact h.elim
  ·intro args hp K h
   unfold zm0 at h
   split at h
   ·rename_i a b c d t x
    obtain ⟨⟨hx,ha,hb,hc,hd⟩,h⟩:=zi h
    refine za ?_
    exact zm [0] h
   ·exact h.elim
def ztz:Spec:=fun args hp K=>match args,hp with
  | [.str key,.str nonce,.u32 n],[]=>Pre (key.length=32∧nonce.length=12) (K (.arr32 16 (beg key nonce n)) [])
  |_,_=>False
attribute [local irreducible] qr wd zh3
theorem zvf:zp prog 137 ztz:=by
  refine zl zb8 (ze z7k zg) rfl func137 rfl call137 (D:=z9v) ?_ ?_
  ·intro args hp K h
   unfold ztz at h
   split at h
   ·exact Nat.le_of_ble_eq_true rfl
   ·exact h.elim
  ·intro args hp K h
   unfold ztz at h
   split at h
   ·rename_i key nonce n
    obtain ⟨⟨hk,hn⟩,h⟩:=zi h
    refine za ?_
    refine zx (Ix (8)) (fun q=>⟨[(0,.str key),(1,.str nonce),(2,.u32 n),(6,.ptr 0 0 0 []),(7,.ptr 1 0 0 []),(11,.int q.i)],[.mk 188 [.arr32 16 (List.replicate 16 0)],.mk 188 [.arr32 16 (ovr c0 4 (fun i=>wd key (4*i)) q.i)]]⟩) (fun q=>(8)-q.i) ⟨0,Nat.zero_le _⟩ [0,1] ?_ ?_
    ·exact zo
    ·intro q
     have hi:=q.hi
     have hI:((4:Int)+(q.i:Int)).toNat=4+q.i:=by omega
     have hl0:=z7o
     have hlo:=yp (l:=c0) (a:=4) (i:=q.i) (by omega) (fun i=>wd key (4*i))
     by_cases h4:q.i<8
     ·refine za ?_
      refine ⟨⟨q.i+1,h4⟩,[0,1],by show (8)-(q.i+1)<(8)-q.i;omega,?_⟩
      repeat ((conv=>whnf);refine zc ?_)
      conv=>whnf
      refine z9 (congrArg (fun x=>SV.agg [SV.arr32 16 x]) (yd (by omega) ?hv ?hkk)) ?_
      case hkk=>show ((4:Int)+(q.i:Int)).toNat=4+q.i;omega
      case hv=>
        show wd (List.drop (4*(q.i:Int)).toNat key) 0=_
        rw [show (4*(q.i:Int)).toNat=4*q.i by omega,zvj]
      exact zo
     ·have e4:q.i=8:=by omega
      rw [e4] at hlo
      rw [e4]
      have hl2:((ovr c0 4 (fun i=>wd key (4*i)) 8).set 12 n).length=16:=by rw [List.length_set,hlo];rfl
      refine za ?_
      refine zx (Ix (3)) (fun r=>⟨[(0,.str key),(1,.str nonce),(2,.u32 n),(6,.ptr 0 0 0 []),(7,.ptr 1 0 0 []),(25,.int r.i)],[.mk 188 [.arr32 16 (List.replicate 16 0)],.mk 188 [.arr32 16 (ovr ((ovr c0 4 (fun i=>wd key (4*i)) 8).set 12 n) 13 (fun i=>wd nonce (4*i)) r.i)]]⟩) (fun r=>(3)-r.i) ⟨0,Nat.zero_le _⟩ [0,1] ?_ ?_
      ·exact zo
      ·intro r
       have hri:=r.hi
       have hlr:=yp (l:=(ovr c0 4 (fun i=>wd key (4*i)) 8).set 12 n) (a:=13) (i:=r.i) (by omega) (fun i=>wd nonce (4*i))
       by_cases h5:r.i<3
       ·refine za ?_
        refine ⟨⟨r.i+1,h5⟩,[0,1],by show (3)-(r.i+1)<(3)-r.i;omega,?_⟩
        repeat ((conv=>whnf);refine zc ?_)
        conv=>whnf
        refine z9 (congrArg (fun x=>SV.agg [SV.arr32 16 x]) (yd (by omega) ?hv ?hkk)) ?_
        case hkk=>show ((13:Int)+(r.i:Int)).toNat=13+r.i;omega
        case hv=>
          show wd (List.drop (4*(r.i:Int)).toNat nonce) 0=_
          rw [show (4*(r.i:Int)).toNat=4*r.i by omega,zvj]
        exact zo
       ·have e5:r.i=3:=by omega
        rw [e5,z6y]
        refine za ?_
        exact zm [] h
   ·exact h.elim
def zto:Spec:=fun args hp K=>match args,hp with
  | [.arr32 16 x],[]=>Pre (x.length=16) (K (.arr8 64 (zxj x)) [])
  |_,_=>False
theorem zv0:zp prog 138 zto:=by
  refine zl zb8 (ze zxd zg) rfl func138 rfl call138 (D:=z8l) ?_ ?_
  ·intro args hp K h
   unfold zto at h
   split at h
   ·exact Nat.le_of_ble_eq_true rfl
   ·exact h.elim
  ·intro args hp K h
   unfold zto at h
   split at h
   ·rename_i x
    obtain ⟨hx,h⟩:=zi h
    refine za ?_
    refine zx (Ix (10)) (fun q=>⟨[(0,.arr32 16 x),(1,.ptr 0 0 0 []),(2,.ptr 1 0 0 []),(3,.ptr 2 0 0 []),(9,.int q.i)],[.mk 188 [.arr32 16 x],.mk 187 [.arr8 64 (List.replicate 64 0)],.mk 188 [.arr32 16 (zpi x q.i)]]⟩) (fun q=>(10)-q.i) ⟨0,Nat.zero_le _⟩ [0,1,2] ?_ ?_
    ·exact zo
    ·intro q
     have hi:=q.hi
     have hX:=zsh x q.i
     by_cases h4:q.i<10
     ·refine za ?_
      generalize hXe:zpi x q.i=X at*
      refine zx (Ix (4)) (fun r=>⟨[(0,.arr32 16 x),(1,.ptr 0 0 0 []),(2,.ptr 1 0 0 []),(3,.ptr 2 0 0 []),(9,.int q.i),(11,.int r.i)],[.mk 188 [.arr32 16 x],.mk 187 [.arr8 64 (List.replicate 64 0)],.mk 188 [.arr32 16 (zmp X r.i)]]⟩) (fun r=>(4)-r.i) ⟨0,Nat.zero_le _⟩ [0,1,2] ?_ ?_
      ·exact zo
      ·intro r
       have hri:=r.hi
       have hc:=zi6 X r.i
       by_cases h5:r.i<4
       ·have e0:((r.i:Int)).toNat=r.i:=Int.toNat_natCast _
        have e1:((4:Int)+(r.i:Int)).toNat=4+r.i:=by omega
        have e2:((8:Int)+(r.i:Int)).toNat=8+r.i:=by omega
        have e3:((12:Int)+(r.i:Int)).toNat=12+r.i:=by omega
        have hp5:(zmp X r.i).length=16∧(0≤(r.i:Int)∧(r.i:Int)<16)∧(0≤(4:Int)+(r.i:Int)∧(4:Int)+(r.i:Int)<16)∧(0≤(8:Int)+(r.i:Int)∧(8:Int)+(r.i:Int)<16)∧(0≤(12:Int)+(r.i:Int)∧(12:Int)+(r.i:Int)<16):=⟨by omega,by omega,by omega,by omega,by omega⟩
        refine za ?_
        rw [e0,e1,e2,e3]
        conv=>whnf
        refine ⟨⟨r.i+1,h5⟩,[0,1,2],by show (4)-(r.i+1)<(4)-r.i;omega,?_⟩
        exact zo
       ·have e5:r.i=4:=by omega
        rw [e5] at hc
        rw [e5]
        generalize hYe:zmp X 4=Y at*
        refine za ?_
        refine zx (Ix (4)) (fun u=>⟨[(0,.arr32 16 x),(1,.ptr 0 0 0 []),(2,.ptr 1 0 0 []),(3,.ptr 2 0 0 []),(9,.int q.i),(23,.int u.i)],[.mk 188 [.arr32 16 x],.mk 187 [.arr8 64 (List.replicate 64 0)],.mk 188 [.arr32 16 (zlc Y u.i)]]⟩) (fun u=>(4)-u.i) ⟨0,Nat.zero_le _⟩ [0,1,2] ?_ ?_
        ·exact zo
        ·intro u
         have hui:=u.hi
         have hd:=zjj Y u.i
         by_cases h6:u.i<4
         ·have e0:((u.i:Int)).toNat=u.i:=Int.toNat_natCast _
          have e1:((4:Int)+((u.i:Int)+1).tmod 4).toNat=4+(u.i+1)%4:=by rw [Int.tmod_eq_emod_of_nonneg (by omega)];omega
          have e2:((8:Int)+((u.i:Int)+2).tmod 4).toNat=8+(u.i+2)%4:=by rw [Int.tmod_eq_emod_of_nonneg (by omega)];omega
          have e3:((12:Int)+((u.i:Int)+3).tmod 4).toNat=12+(u.i+3)%4:=by rw [Int.tmod_eq_emod_of_nonneg (by omega)];omega
          have n1:=Int.tmod_nonneg (a:=(u.i:Int)+1) 4 (by omega)
          have n2:=Int.tmod_nonneg (a:=(u.i:Int)+2) 4 (by omega)
          have n3:=Int.tmod_nonneg (a:=(u.i:Int)+3) 4 (by omega)
          have hp5:(zlc Y u.i).length=16∧(0≤(u.i:Int)∧(u.i:Int)<16)∧(0≤(4:Int)+((u.i:Int)+1).tmod 4∧(4:Int)+((u.i:Int)+1).tmod 4<16)∧(0≤(8:Int)+((u.i:Int)+2).tmod 4∧(8:Int)+((u.i:Int)+2).tmod 4<16)∧(0≤(12:Int)+((u.i:Int)+3).tmod 4∧(12:Int)+((u.i:Int)+3).tmod 4<16):=⟨by omega,by omega,by omega,by omega,by omega⟩
          refine za ?_
          rw [e0,e1,e2,e3]
          conv=>whnf
          refine ⟨⟨u.i+1,h6⟩,[0,1,2],by show (4)-(u.i+1)<(4)-u.i;omega,?_⟩
          exact zo
         ·have e6:u.i=4:=by omega
          rw [e6,show zlc Y 4=zpi x (q.i+1) by rw [←hYe,←hXe];rfl]
          refine za ?_
          refine ⟨⟨q.i+1,h4⟩,[0,1,2],by show (10)-(q.i+1)<(10)-q.i;omega,?_⟩
          exact zo
     ·have e4:q.i=10:=by omega
      rw [e4] at hX
      rw [e4]
      refine za ?_
      refine zx (Ix (64)) (fun u=>⟨[(0,.arr32 16 x),(1,.ptr 0 0 0 []),(2,.ptr 1 0 0 []),(3,.ptr 2 0 0 []),(6,.ptr 3 0 0 []),(42,.int u.i)],[.mk 188 [.arr32 16 x],.mk 187 [.arr8 64 (List.replicate 64 0)],.mk 188 [.arr32 16 (zpi x 10)],.mk 187 [.arr8 64 (ovr (List.replicate 64 0) 0 (outG x) u.i)]]⟩) (fun u=>(64)-u.i) ⟨0,Nat.zero_le _⟩ [0,1,2,3] ?_ ?_
      ·exact zo
      ·intro u
       have hui:=u.hi
       have hd4:(u.i:Int).tdiv 4=((u.i/ 4:Nat):Int):=by rw [Int.tdiv_eq_ediv_of_nonneg (by omega)];omega
       have hm4:(u.i:Int).tmod 4=((u.i%4:Nat):Int):=by rw [Int.tmod_eq_emod_of_nonneg (by omega)];omega
       have hpd:(4:Int)≠0∧yo ((u.i:Int).tdiv 4):=⟨by decide,by unfold yo;omega⟩
       have hlo:=yp (l:=List.replicate 64 (0:UInt8)) (a:=0) (i:=u.i) (by rw [List.length_replicate];omega) (outG x)
       rw [List.length_replicate] at hlo
       by_cases h6:u.i<64
       ·refine za ?_
        refine ⟨⟨u.i+1,h6⟩,[0,1,2,3],by show (64)-(u.i+1)<(64)-u.i;omega,?_⟩
        repeat ((conv=>whnf);refine zc ?_)
        conv=>whnf
        refine z9 (congrArg (fun x=>SV.agg [SV.arr8 64 x]) (yd (by rw [List.length_replicate];omega) ?hv ?hkk)) ?_
        case hkk=>show ((u.i:Int)).toNat=0+u.i;omega
        case hv=>
          show ((g32 x ((u.i:Int).tdiv 4).toNat+g32 (zpi x 10) ((u.i:Int).tdiv 4).toNat)>>>UInt32.ofNat (8*(u.i:Int).tmod 4).toNat).toUInt8=_
          rw [hd4,hm4,Int.toNat_natCast,show (8*((u.i%4:Nat):Int)).toNat=8*(u.i%4) by omega];rfl
        exact zo
       ·have e6:u.i=64:=by omega
        rw [e6,xy (List.length_replicate)]
        refine za ?_
        exact zm [] h
   ·exact h.elim
end Go.Sym.Z

namespace Go.Sym.Z
open Go Go.Proofs.Tryz Go.Sym.Lp Go.Sym.Cha Go.Sym.Sha
set_option maxRecDepth 100000
attribute [local irreducible] zgw zai zah zfl zfn
def z8f:List (Nat×List PStep):= []
def yaj:List (Nat×List PStep):= []
def yab:List (Nat×List PStep):= [(6,[⟨0,[]⟩,⟨1,[]⟩,⟨2,[]⟩,⟨3,[]⟩,⟨4,[0,1,2,3]⟩,⟨5,[0,1,2,3]⟩,⟨6,[0,1,2,3]⟩,⟨7,[0,1,2,3]⟩,⟨8,[4,5,6,7]⟩,⟨9,[]⟩]),(7,[⟨0,[]⟩,⟨1,[0]⟩,⟨2,[0]⟩,⟨3,[0]⟩,⟨4,[0]⟩,⟨5,[0,1,2,3,4]⟩,⟨6,[0,1,2,3,4]⟩,⟨7,[0,1,2,3,4]⟩,⟨8,[0,1,2,3,4]⟩,⟨9,[0]⟩,⟨10,[0,1,2,3,4,5,6,7,8,9]⟩,⟨12,[0,1,2,3,4,5,6,7,8,9,10]⟩,⟨15,[0,1,2,3,4,5,6,7,8,9,10,12]⟩,⟨16,[0,1,2,3,4,5,6,7,8,9,10,12]⟩,⟨19,[0,1,2,3,4,5,6,7,8,9,10,12,15,16]⟩,⟨21,[0,1,2,3,4,5,6,7,8,9,10,12,15,16,19]⟩,⟨24,[0,1,2,3,4,5,6,7,8,9,10,12,15,16,19,21]⟩,⟨25,[0,1,2,3,4,5,6,7,8,9,10,12,15,16,19,21]⟩,⟨11,[0,1,2,3,4,5,6,7,8,9,12,15,16,19,21,24,25]⟩,⟨13,[0,1,2,3,4,5,6,7,8,9,15,16,19,21,24,25]⟩,⟨14,[0,1,2,3,4,5,6,7,8,9,15,16,19,21,24,25]⟩,⟨17,[0,1,2,3,4,5,6,7,8,9,19,21,24,25]⟩,⟨18,[0,19,21,24,25]⟩,⟨20,[0,1,2,3,4,5,6,7,8,9,15,16,21,24,25,14,17,18]⟩,⟨22,[0,1,2,3,4,5,6,7,8,9,15,16,24,25,14,17,18]⟩,⟨23,[0,1,2,3,4,5,6,7,8,9,15,16,24,25,14,17,18]⟩,⟨26,[0,1,2,3,4,5,6,7,8,9,15,16,14,17,18]⟩,⟨27,[0]⟩,⟨28,[]⟩,⟨29,[]⟩]),(18,[⟨0,[]⟩,⟨1,[]⟩,⟨2,[0,1]⟩,⟨3,[0,1]⟩,⟨4,[2,3]⟩,⟨5,[]⟩]),(19,[⟨0,[]⟩,⟨1,[]⟩,⟨2,[0,1]⟩,⟨4,[0,1,2]⟩,⟨7,[0,1,2,4]⟩,⟨11,[0,1,2,4,7]⟩,⟨12,[0,1,2,4,7,11]⟩,⟨13,[0,1,2,4,7,11]⟩,⟨14,[0,1,2,4,7]⟩,⟨15,[0,1,2,4,7,11,12,13,14]⟩,⟨16,[0,1,2,4,7,11,12,13,14]⟩,⟨17,[0,1,2,4,7,11,12,13,14,15,16]⟩,⟨18,[0,1,2,4,7,11,12,13,14,15,16]⟩,⟨19,[0,1,2,4,7,11,12,13,14]⟩,⟨20,[0,1,2,4,7]⟩,⟨22,[0,1,2,4,7,11,12,13,14,15,16,17,18,19,20]⟩,⟨23,[0,1,2,4,7,11,12,13,14,15,16,17,18,19,20,22]⟩,⟨24,[0,1,2,4,7,11,12,13,14,15,16,17,18,19,20,23]⟩,⟨25,[0,1,2,4,7,11,12,13,14,15,16,17,18,19,20,23]⟩,⟨26,[0,1,2,4,7,11,12,13,14,15,16,17,18,19,20]⟩,⟨27,[0,1,2,4,7,11,12,13,14,15,16,17,18,19,20]⟩,⟨28,[0,1,2,4,7,11,12,13,14,15,16,17,18,19,20]⟩,⟨29,[0,1,2,4,7,11,12,13,14,15,16,17,18,19,20]⟩,⟨31,[0,1,2,4,7,11,12,13,14,15,16,17,18,19,20,22,23,24,25,26,27,28,29]⟩,⟨32,[0,1,2,4,7,11,12,13,14,15,16,17,18,19,20,22,23,24,25,26,27,28,29]⟩,⟨33,[0,1,2,4,7,11,12,13,14,15,16,17,18,19,20,22,23,24,25,26,27,28,29]⟩,⟨3,[0,1,4,7,11,12,13,14,15,16,17,18,19,20,22,23,24,25,26,27,28,29,31,32,33]⟩,⟨5,[0,1,7,11,12,13,14,15,16,17,18,19,20,22,23,24,25,26,27,28,29,31,32,33]⟩,⟨6,[0,1,7,11,12,13,14,15,16,17,18,19,20,22,23,24,25,26,27,28,29,31,32,33]⟩,⟨8,[0,1,11,12,13,14,15,16,17,18,19,20,22,23,24,25,26,27,28,29,31,32,33,6]⟩,⟨9,[0,1,11,12,13,14,15,16,17,18,19,20,22,23,24,25,26,27,28,29,31,32,33]⟩,⟨10,[11,12,13,14,15,16,17,18,19,20,22,23,24,25,26,27,28,29,31,32,33]⟩,⟨21,[22,23,24,25,26,27,28,29,31,32,33]⟩,⟨30,[31,32,33]⟩,⟨34,[]⟩,⟨35,[]⟩]),(20,[⟨0,[]⟩,⟨2,[0]⟩,⟨5,[0,2]⟩,⟨8,[0,2,5]⟩,⟨9,[0,2,5,8]⟩,⟨10,[0,2,5,8]⟩,⟨11,[0,2,5]⟩,⟨12,[0,2,5,8,9,10,11]⟩,⟨13,[0,2,5,8,9,10,11,12]⟩,⟨14,[0,2,5,8,9,10,11,12]⟩,⟨15,[0,2,5,8,9,10,11]⟩,⟨16,[0,2,5]⟩,⟨17,[0,2,5,8,9,10,11,12,13,14,15,16]⟩,⟨18,[0,2,5,8,9,10,11,12,13,14,15,16]⟩,⟨19,[0,2,5,8,9,10,11,12,13,14,15,16,17,18]⟩,⟨20,[0,2,5,8,9,10,11,12,13,14,15,16,17,18]⟩,⟨21,[0,2,5,8,9,10,11,12,13,14,15,16]⟩,⟨22,[0,2,5]⟩,⟨1,[2,5,8,9,10,11,12,13,14,15,16,17,18,19,20,21,22]⟩,⟨3,[5,8,9,10,11,12,13,14,15,16,17,18,19,20,21,22]⟩,⟨4,[5,8,9,10,11,12,13,14,15,16,17,18,19,20,21,22]⟩,⟨6,[8,9,10,11,12,13,14,15,16,17,18,19,20,21,22,4]⟩,⟨7,[8,9,10,11,12,13,14,15,16,17,18,19,20,21,22]⟩,⟨23,[]⟩,⟨24,[]⟩]),(26,[⟨0,[]⟩,⟨1,[0]⟩,⟨2,[0,1]⟩,⟨3,[0,1,2]⟩,⟨4,[0,1,3]⟩,⟨5,[0,1,3]⟩,⟨6,[0,1]⟩,⟨7,[0,1]⟩,⟨8,[0,1]⟩,⟨9,[0,1,2,3,4,5,6,7,8]⟩,⟨10,[0,1,2,3,4,5,6,7,8]⟩,⟨11,[0,1,2,3,4,5,6,7,8]⟩,⟨12,[0,1]⟩,⟨13,[0,1]⟩,⟨14,[1,2,3,4,5,6,7,8,9,10,11,12,13]⟩,⟨15,[1,2,3,4,5,6,7,8,9,10,11,12,13]⟩,⟨16,[]⟩,⟨17,[]⟩])]
def z98:List (Nat×List PStep):= [(6,[⟨0,[]⟩,⟨1,[]⟩,⟨2,[]⟩,⟨3,[]⟩,⟨4,[0,1,2,3]⟩,⟨5,[0,1,2,3]⟩,⟨6,[0,1,2,3]⟩,⟨7,[0,1,2,3]⟩,⟨8,[4,5,6,7]⟩,⟨9,[]⟩]),(7,[⟨0,[]⟩,⟨1,[0]⟩,⟨2,[0]⟩,⟨3,[0]⟩,⟨4,[0]⟩,⟨5,[0,1,2,3,4]⟩,⟨6,[0,1,2,3,4]⟩,⟨7,[0,1,2,3,4]⟩,⟨8,[0,1,2,3,4]⟩,⟨9,[0]⟩,⟨10,[0,1,2,3,4,5,6,7,8,9]⟩,⟨12,[0,1,2,3,4,5,6,7,8,9,10]⟩,⟨15,[0,1,2,3,4,5,6,7,8,9,10,12]⟩,⟨16,[0,1,2,3,4,5,6,7,8,9,10,12]⟩,⟨19,[0,1,2,3,4,5,6,7,8,9,10,12,15,16]⟩,⟨21,[0,1,2,3,4,5,6,7,8,9,10,12,15,16,19]⟩,⟨24,[0,1,2,3,4,5,6,7,8,9,10,12,15,16,19,21]⟩,⟨25,[0,1,2,3,4,5,6,7,8,9,10,12,15,16,19,21]⟩,⟨11,[0,1,2,3,4,5,6,7,8,9,12,15,16,19,21,24,25]⟩,⟨13,[0,1,2,3,4,5,6,7,8,9,15,16,19,21,24,25]⟩,⟨14,[0,1,2,3,4,5,6,7,8,9,15,16,19,21,24,25]⟩,⟨17,[0,1,2,3,4,5,6,7,8,9,19,21,24,25]⟩,⟨18,[0,19,21,24,25]⟩,⟨20,[0,1,2,3,4,5,6,7,8,9,15,16,21,24,25,14,17,18]⟩,⟨22,[0,1,2,3,4,5,6,7,8,9,15,16,24,25,14,17,18]⟩,⟨23,[0,1,2,3,4,5,6,7,8,9,15,16,24,25,14,17,18]⟩,⟨26,[0,1,2,3,4,5,6,7,8,9,15,16,14,17,18]⟩,⟨27,[0]⟩,⟨28,[]⟩,⟨29,[]⟩]),(13,[⟨0,[]⟩,⟨1,[]⟩,⟨2,[0,1]⟩,⟨3,[0,1]⟩,⟨4,[2,3]⟩,⟨5,[]⟩]),(14,[⟨0,[]⟩,⟨1,[]⟩,⟨2,[0,1]⟩,⟨4,[0,1,2]⟩,⟨7,[0,1,2,4]⟩,⟨11,[0,1,2,4,7]⟩,⟨12,[0,1,2,4,7,11]⟩,⟨13,[0,1,2,4,7,11]⟩,⟨14,[0,1,2,4,7]⟩,⟨15,[0,1,2,4,7,11,12,13,14]⟩,⟨16,[0,1,2,4,7,11,12,13,14]⟩,⟨17,[0,1,2,4,7,11,12,13,14,15,16]⟩,⟨18,[0,1,2,4,7,11,12,13,14,15,16]⟩,⟨19,[0,1,2,4,7,11,12,13,14]⟩,⟨20,[0,1,2,4,7]⟩,⟨22,[0,1,2,4,7,11,12,13,14,15,16,17,18,19,20]⟩,⟨23,[0,1,2,4,7,11,12,13,14,15,16,17,18,19,20,22]⟩,⟨24,[0,1,2,4,7,11,12,13,14,15,16,17,18,19,20,23]⟩,⟨25,[0,1,2,4,7,11,12,13,14,15,16,17,18,19,20,23]⟩,⟨26,[0,1,2,4,7,11,12,13,14,15,16,17,18,19,20]⟩,⟨27,[0,1,2,4,7,11,12,13,14,15,16,17,18,19,20]⟩,⟨29,[0,1,2,4,7,11,12,13,14,15,16,17,18,19,20,22,23,24,25,26,27]⟩,⟨30,[0,1,2,4,7,11,12,13,14,15,16,17,18,19,20,22,23,24,25,26,27]⟩,⟨31,[0,1,2,4,7,11,12,13,14,15,16,17,18,19,20,22,23,24,25,26,27]⟩,⟨3,[0,1,4,7,11,12,13,14,15,16,17,18,19,20,22,23,24,25,26,27,29,30,31]⟩,⟨5,[0,1,7,11,12,13,14,15,16,17,18,19,20,22,23,24,25,26,27,29,30,31]⟩,⟨6,[0,1,7,11,12,13,14,15,16,17,18,19,20,22,23,24,25,26,27,29,30,31]⟩,⟨8,[0,1,11,12,13,14,15,16,17,18,19,20,22,23,24,25,26,27,29,30,31,6]⟩,⟨9,[0,1,11,12,13,14,15,16,17,18,19,20,22,23,24,25,26,27,29,30,31]⟩,⟨10,[11,12,13,14,15,16,17,18,19,20,22,23,24,25,26,27,29,30,31]⟩,⟨21,[22,23,24,25,26,27,29,30,31]⟩,⟨28,[29,30,31]⟩,⟨32,[]⟩,⟨33,[]⟩]),(15,[⟨0,[]⟩,⟨2,[0]⟩,⟨5,[0,2]⟩,⟨8,[0,2,5]⟩,⟨9,[0,2,5,8]⟩,⟨10,[0,2,5,8]⟩,⟨11,[0,2,5]⟩,⟨12,[0,2,5,8,9,10,11]⟩,⟨13,[0,2,5,8,9,10,11,12]⟩,⟨14,[0,2,5,8,9,10,11,12]⟩,⟨15,[0,2,5,8,9,10,11]⟩,⟨16,[0,2,5]⟩,⟨17,[0,2,5,8,9,10,11,12,13,14,15,16]⟩,⟨18,[0,2,5,8,9,10,11,12,13,14,15,16]⟩,⟨19,[0,2,5,8,9,10,11,12,13,14,15,16,17,18]⟩,⟨20,[0,2,5,8,9,10,11,12,13,14,15,16,17,18]⟩,⟨21,[0,2,5,8,9,10,11,12,13,14,15,16]⟩,⟨22,[0,2,5]⟩,⟨1,[2,5,8,9,10,11,12,13,14,15,16,17,18,19,20,21,22]⟩,⟨3,[5,8,9,10,11,12,13,14,15,16,17,18,19,20,21,22]⟩,⟨4,[5,8,9,10,11,12,13,14,15,16,17,18,19,20,21,22]⟩,⟨6,[8,9,10,11,12,13,14,15,16,17,18,19,20,21,22,4]⟩,⟨7,[8,9,10,11,12,13,14,15,16,17,18,19,20,21,22]⟩,⟨23,[]⟩,⟨24,[]⟩]),(21,[⟨0,[]⟩,⟨1,[0]⟩,⟨2,[1]⟩,⟨3,[1]⟩,⟨4,[]⟩,⟨5,[]⟩,⟨6,[0,1,2,3,4,5]⟩,⟨7,[0,1,2,3,4,5]⟩,⟨8,[0,1,2,3,4,5]⟩,⟨9,[]⟩,⟨10,[1,2,3,4,5,6,7,8,9]⟩,⟨11,[1,2,3,4,5,6,7,8,9]⟩,⟨12,[]⟩,⟨13,[]⟩])]
def z92:List (Nat×TyI):= [(3,ty3),(4,ty4),(5,ty5),(9,ty9),(48,zc6),(51,zcx),(113,zad),(99,x4),(242,ze6),(245,zff),(249,zfd),(239,zfe),(248,zey),(207,zeu)]
theorem zaa: ∀t i,yz z92 t=some i→yn prog t i:=(zb ty3_ok (zb zbu (zb zby (zb zbz (zb zaw (zb za2 (zb zaq (zb zbp (zb zz1 (zb zzi (zb z0i (zb z2y (zb zri (zb zr3 zae))))))))))))))
theorem z7w {k:Int}:(UInt64.ofInt k&&&UInt64.ofNat 63).toNat=(k%64).toNat:=by
  rw [UInt64.toNat_and,show (UInt64.ofNat 63).toNat=2^6-1 by decide,Nat.and_two_pow_sub_one_eq_mod]
  have h:(UInt64.ofInt k).toNat=(k%18446744073709551616).toNat:=by
    unfold UInt64.ofInt
    rw [UInt64.toNat_ofNat']
    have:=Int.emod_nonneg k (show (2^64:Int)≠0 by decide)
    have:=Int.emod_lt_of_pos k (show (0:Int)<2^64 by decide)
    omega
  rw [h]
  omega
def zst:Spec:=fun args hp K=>match args,hp with
  | [.u64 x,.int k],[]=>Pre (k%64≠0) (K (.u64 (zm6 x (k%64).toNat)) [])
  |_,_=>False
theorem z25:zp prog 192 zst:=by
  refine zl zaa zg rfl func192 rfl call192 (D:=z8f) ?_ ?_
  ·intro args hp K h
   unfold zst at h
   split at h
   ·exact Nat.le_of_ble_eq_true rfl
   ·exact h.elim
  ·intro args hp K h
   unfold zst at h
   split at h
   ·rename_i x k
    obtain ⟨hk,h⟩:=zi h
    have hs:=z7w (k:=k)
    have hm:=Int.emod_lt_of_pos k (show (0:Int)<64 by decide)
    have hm0:=Int.emod_nonneg k (show (64:Int)≠0 by decide)
    have hd:(UInt64.ofNat 64-(UInt64.ofInt k&&&UInt64.ofNat 63)).toNat=64-(k%64).toNat:=by
      rw [UInt64.toNat_sub_of_le _ _ (by rw [UInt64.le_iff_toNat_le,hs];show _≤64;omega),hs];rfl
    refine za ?_
    rw [hs,hd]
    conv=>whnf
    exact zm [] h
   ·exact h.elim
def ztv:Spec:=fun args hp K=>match args,hp with
  | [.sl 0 0 0 o n c],[.mk t [.arr8 m l]]=>Pre (off o+n≤l.length∧n≤1000) (K (.u64 (num ((l.drop (off o)).take n))) [.mk t [.arr8 m l]])
  |_,_=>False
theorem zvs:zp prog 191 ztv:=by
  refine zl zaa zg rfl func191 rfl call191 (D:=yaj) ?_ ?_
  ·intro args hp K h
   unfold ztv at h
   split at h
   ·exact Nat.le_of_ble_eq_true rfl
   ·exact h.elim
  ·intro args hp K h
   unfold ztv at h
   split at h
   ·rename_i o n c t m l
    obtain ⟨⟨hl,hn⟩,h⟩:=zi h
    have hB:((l.drop (off o)).take n).length=n:=by rw [List.length_take,List.length_drop];omega
    have hN:num ((l.drop (off o)).take n)=zgw ((l.drop (off o)).take n) n:=by unfold num;rw [hB]
    rw [hN] at h
    refine za ?_
    refine zx (Ix (n)) (fun q=>⟨[(0,.sl 0 0 0 o n c),(3,.u64 (zgw ((l.drop (off o)).take n) q.i)),(6,.sl 0 0 0 o n c),(7,.int n),(8,.int q.i)],[.mk t [.arr8 m l]]⟩) (fun q=>(n)-q.i) ⟨0,Nat.zero_le _⟩ [0] ?_ ?_
    ·repeat ((conv=>whnf);refine zc ?_)
     conv=>whnf
     exact zu (congrArg SV.u64 (show (0:UInt64)=zgw _ 0 by unfold zgw;rfl))
    ·intro q
     have hi:=q.hi
     have hA:off (ya o ((q.i:Int)).toNat ty5.sz)=off o+q.i:=by rw [zw];show off o+((q.i:Int)).toNat*1=_;omega
     by_cases h4:q.i<n
     ·refine za ?_
      refine ⟨⟨q.i+1,h4⟩,[0],by show (n)-(q.i+1)<(n)-q.i;omega,?_⟩
      repeat ((conv=>whnf);refine zc ?_)
      conv=>whnf
      exact zu (congrArg SV.u64 (show _=zgw ((l.drop (off o)).take n) (q.i+1) by simp only [zgw];rw [zi3 h4,←hA];rfl))
     ·have e4:q.i=n:=by omega
      rw [e4]
      refine za ?_
      exact zm [0] h
   ·exact h.elim
def zqa:Spec:=fun args hp K=>match args,hp with
  | [.ptr 0 0 0 [],.sl 1 0 0 o n c],[.mk t0 [.int m,.arr64 8 H,.arr64 80 k,.sl 1 0 0 [] rn rc,.u64 all],.mk t [.arr8 L l]]=>Pre (H.length=8∧k.length=80∧64≤n∧off o+n≤l.length∧n≤c)
      (K (.tup []) [.mk t0 [.int m,.arr64 8 (zld k H ((l.drop (off o)).take 64)),.arr64 80 k,.sl 1 0 0 [] rn rc,.u64 all],.mk t [.arr8 L l]])
  |_,_=>False
set_option maxHeartbeats 4000000 in
theorem zy4:zp prog 189 zqa:=by
  refine zl zaa (ze zvs (ze zwa zg)) rfl func189 rfl call189 (D:=yab) ?_ ?_
  ·intro args hp K h
   unfold zqa at h
   split at h
   ·exact Nat.le_of_ble_eq_true rfl
   ·exact h.elim
  ·intro args hp K h
   unfold zqa at h
   split at h
   ·rename_i o n c t0 m H k rn rc all t L l
    obtain ⟨⟨hH,hk,hn,hl,hc⟩,h⟩:=zi h
    obtain ⟨B,hB⟩: ∃B,B=(l.drop (off o)).take 64:=⟨_,rfl⟩
    rw [←hB] at h
    refine za ?_
    refine zx (Ix (64)) (fun q=>⟨[(0,.ptr 0 0 0 []),(1,.sl 1 0 0 o n c),(4,.ptr 2 0 0 []),(16,.int q.i)],[.mk t0 [.int m,.arr64 8 H,.arr64 80 k,.sl 1 0 0 [] rn rc,.u64 all],.mk t [.arr8 L l],.mk 249 [.arr32 64 (zai B q.i)]]⟩) (fun q=>(64)-q.i) ⟨0,Nat.zero_le _⟩ [0,1,2] ?_ ?_
    ·repeat ((conv=>whnf);refine zc ?_)
     conv=>whnf
     exact zu (congrArg (fun x=>SV.agg [SV.arr32 64 x]) (show _=zai B 0 by unfold zai;rfl))
    ·intro q
     have hi:=q.hi
     have hwl:=zod B q.i
     have hx0:off (ya [] ((q.i:Int)).toNat zad.sz)=q.i:=by rw [zw];show 0+((q.i:Int)).toNat*1=_;omega
     by_cases h4:q.i<64
     ·by_cases h16:q.i<16
      ·have hof:off (ya o (4*(q.i:Int)).toNat ty5.sz)=off o+4*q.i:=by rw [zw];show off o+(4*(q.i:Int)).toNat*1=_;omega
       have hso:off (ya o (slO c (4*(q.i:Int)).toNat) ty5.sz)=off o+4*q.i:=by rw [zw,yv (by omega)];show off o+(4*(q.i:Int)).toNat*1=_;omega
       have hpw:off (ya o (slO c (4*(q.i:Int)).toNat) ty5.sz)+((4*(q.i:Int)+4).toNat-(4*(q.i:Int)).toNat)≤l.length:=by rw [hso];omega
       have hpw2:off (ya o (slO c (4*(q.i:Int)).toNat) ty5.sz)+((4*(q.i:Int)+4).toNat-(4*(q.i:Int)).toNat)≤l.length∧(4*(q.i:Int)+4).toNat-(4*(q.i:Int)).toNat≤1000:=⟨hpw,by omega⟩
       have hnum:num (List.take ((4*(q.i:Int)+4).toNat-(4*(q.i:Int)).toNat) (List.drop (off (ya o (slO c (4*(q.i:Int)).toNat) ty5.sz)) l))=num ((B.drop (4*q.i)).take 4):=by
         rw [hso,hB,show (4*(q.i:Int)+4).toNat-(4*(q.i:Int)).toNat=4 by omega,List.drop_take,List.take_take,List.drop_drop,Nat.min_eq_left (by omega)]
       refine za ?_
       refine ⟨⟨q.i+1,h4⟩,[0,1,2],by show (64)-(q.i+1)<(64)-q.i;omega,?_⟩
       repeat ((conv=>whnf);refine zc ?_)
       conv=>whnf
       exact zu (congrArg (fun x=>SV.agg [SV.arr32 64 x]) (show _=zai B (q.i+1) by rw [hnum,hx0,z7i h16]))
      ·have hx15:off (ya [] ((q.i:Int)-15).toNat zad.sz)=q.i-15:=by rw [zw];show 0+((q.i:Int)-15).toNat*1=_;omega
       have hx2:off (ya [] ((q.i:Int)-2).toNat zad.sz)=q.i-2:=by rw [zw];show 0+((q.i:Int)-2).toNat*1=_;omega
       have hx16:off (ya [] ((q.i:Int)-16).toNat zad.sz)=q.i-16:=by rw [zw];show 0+((q.i:Int)-16).toNat*1=_;omega
       have hx7:off (ya [] ((q.i:Int)-7).toNat zad.sz)=q.i-7:=by rw [zw];show 0+((q.i:Int)-7).toNat*1=_;omega
       refine za ?_
       refine ⟨⟨q.i+1,h4⟩,[0,1,2],by show (64)-(q.i+1)<(64)-q.i;omega,?_⟩
       repeat ((conv=>whnf);refine zc ?_)
       conv=>whnf
       exact zu (congrArg (fun x=>SV.agg [SV.arr32 64 x]) (show _=zai B (q.i+1) by rw [hx0,hx15,hx2,hx16,hx7,z5x h16];rfl))
     ·have e4:q.i=64:=by omega
      rw [e4] at hwl
      rw [e4]
      generalize hW:zai B 64=W at*
      clear hx0 hi h4 e4 q
      refine za ?_
      have hS0:([0,0,0,0,0,0,0,0]:List UInt32).length=8:=rfl
      refine zx (Ix (8)) (fun q=>⟨[(0,.ptr 0 0 0 []),(4,.ptr 2 0 0 []),(8,.ptr 3 0 0 []),(70,.int q.i)],[.mk t0 [.int m,.arr64 8 H,.arr64 80 k,.sl 1 0 0 [] rn rc,.u64 all],.mk t [.arr8 L l],.mk 249 [.arr32 64 W],.mk 239 [.arr32 8 (ovr [0,0,0,0,0,0,0,0] 0 (fun i=>(g64 H i).toUInt32) q.i)]]⟩) (fun q=>(8)-q.i) ⟨0,Nat.zero_le _⟩ [0,1,2,3] ?_ ?_
      ·exact zo
      ·intro q
       have hi:=q.hi
       have hlo:=yp (l:=([0,0,0,0,0,0,0,0]:List UInt32)) (a:=0) (i:=q.i) (by rw [hS0];omega) (fun i=>(g64 H i).toUInt32)
       rw [hS0] at hlo
       have hI:((q.i:Int)).toNat=q.i:=Int.toNat_natCast _
       by_cases h4:q.i<8
       ·refine za ?_
        refine ⟨⟨q.i+1,h4⟩,[0,1,2,3],by show (8)-(q.i+1)<(8)-q.i;omega,?_⟩
        repeat ((conv=>whnf);refine zc ?_)
        conv=>whnf
        refine z9 (congrArg (fun x=>SV.agg [SV.arr32 8 x]) (yd (by rw [hS0];omega) ?hv ?hkk)) ?_
        case hkk=>show ((q.i:Int)).toNat=0+q.i;omega
        case hv=>show (List.getD H ((q.i:Int)).toNat 0).toUInt32=_;rw [hI];rfl
        exact zo
       ·have e4:q.i=8:=by omega
        rw [e4,xy hS0]
        obtain ⟨S,hSd⟩: ∃S,S=(List.range 8).map fun i=>(g64 H i).toUInt32:=⟨_,rfl⟩
        have hSl:S.length=8:=by rw [hSd];exact z4 _ _
        rw [←hSd]
        clear hi h4 e4 hlo hI q
        refine za ?_
        refine zx (Ix (64)) (fun q=>⟨[(0,.ptr 0 0 0 []),(4,.ptr 2 0 0 []),(8,.ptr 3 0 0 []),(83,.int q.i)],[.mk t0 [.int m,.arr64 8 H,.arr64 80 k,.sl 1 0 0 [] rn rc,.u64 all],.mk t [.arr8 L l],.mk 249 [.arr32 64 W],.mk 239 [.arr32 8 (zfl k W S q.i)]]⟩) (fun q=>(64)-q.i) ⟨0,Nat.zero_le _⟩ [0,1,2,3] ?_ ?_
        ·repeat ((conv=>whnf);refine zc ?_)
         conv=>whnf
         exact zu (congrArg (fun x=>SV.agg [SV.arr32 8 x]) (show _=zfl k W S 0 by unfold zfl;rfl))
        ·intro q
         have hi:=q.hi
         have hrl:=zxg (k:=k) (w:=W) hSl q.i
         have hx0:off (ya [] ((q.i:Int)).toNat zad.sz)=q.i:=by rw [zw];show 0+((q.i:Int)).toNat*1=_;omega
         have hy0:off (ya [] ((q.i:Int)).toNat x4.sz)=q.i:=by rw [zw];show 0+((q.i:Int)).toNat*1=_;omega
         by_cases h4:q.i<64
         ·refine za ?_
          conv=>whnf
          refine ⟨⟨q.i+1,h4⟩,[0,1,2,3],by show (64)-(q.i+1)<(64)-q.i;omega,?_⟩
          repeat ((conv=>whnf);refine zc ?_)
          conv=>whnf
          exact zu (congrArg (fun x=>SV.agg [SV.arr32 8 x]) (show _=zfl k W S (q.i+1) by simp only [zfl];rw [←hx0];rfl))
         ·have e4:q.i=64:=by omega
          rw [e4] at hrl
          rw [e4]
          obtain ⟨Z,hZ⟩: ∃Z,Z=zfl k W S 64:=⟨_,rfl⟩
          rw [←hZ] at hrl
          rw [←hZ]
          clear hy0 hx0 hi h4 e4 q
          refine za ?_
          refine zx (Ix (8)) (fun q=>⟨[(0,.ptr 0 0 0 []),(4,.ptr 2 0 0 []),(8,.ptr 3 0 0 []),(170,.int q.i)],[.mk t0 [.int m,.arr64 8 (ovr H 0 (fun i=>((g64 H i).toUInt32+g32 Z i).toUInt64) q.i),.arr64 80 k,.sl 1 0 0 [] rn rc,.u64 all],.mk t [.arr8 L l],.mk 249 [.arr32 64 W],.mk 239 [.arr32 8 Z]]⟩) (fun q=>(8)-q.i) ⟨0,Nat.zero_le _⟩ [0,1,2,3] ?_ ?_
          ·exact zo
          ·intro q
           have hi:=q.hi
           have hlo:=yp (l:=H) (a:=0) (i:=q.i) (by omega) (fun i=>((g64 H i).toUInt32+g32 Z i).toUInt64)
           have hI:((q.i:Int)).toNat=q.i:=Int.toNat_natCast _
           by_cases h4:q.i<8
           ·refine za ?_
            refine ⟨⟨q.i+1,h4⟩,[0,1,2,3],by show (8)-(q.i+1)<(8)-q.i;omega,?_⟩
            repeat ((conv=>whnf);refine zc ?_)
            conv=>whnf
            refine z9 (congrArg (fun x=>SV.agg [SV.int m,SV.arr64 8 x,SV.arr64 80 k,SV.sl 1 0 0 [] rn rc,SV.u64 all]) (yd (by omega) ?hv ?hkk)) ?_
            case hkk=>show ((q.i:Int)).toNat=0+q.i;omega
            case hv=>
              show ((List.getD (ovr H 0 (fun i=>((g64 H i).toUInt32+g32 Z i).toUInt64) q.i) ((q.i:Int)).toNat 0).toUInt32+List.getD Z ((q.i:Int)).toNat 0).toUInt64=_
              rw [yx (by omega) _ (by omega),hI];rfl
            exact zo
           ·have e4:q.i=8:=by omega
            have hfin:ovr H 0 (fun i=>((g64 H i).toUInt32+g32 Z i).toUInt64) 8=zld k H B:=by
              rw [xy hH];unfold zld;rw [hW,←hSd,←hZ]
            rw [e4,hfin]
            refine za ?_
            exact zm [0,1] h
   ·exact h.elim
def zps:Spec:=fun args hp K=>match args,hp with
  | [.ptr 0 0 0 [],.sl 1 0 0 o n c],[.mk t0 [.int m,.arr64 8 H,.arr64 80 k,.sl 1 0 0 [] rn rc,.u64 all],.mk t [.arr8 L l]]=>Pre (H.length=8∧k.length=80∧128≤n∧off o+n≤l.length∧n≤c)
      (K (.tup []) [.mk t0 [.int m,.arr64 8 (zh6 k H ((l.drop (off o)).take 128)),.arr64 80 k,.sl 1 0 0 [] rn rc,.u64 all],.mk t [.arr8 L l]])
  |_,_=>False
set_option maxHeartbeats 4000000 in
theorem z20:zp prog 190 zps:=by
  refine zl zaa (ze zvs (ze z25 zg)) rfl func190 rfl call190 (D:=z98) ?_ ?_
  ·intro args hp K h
   unfold zps at h
   split at h
   ·exact Nat.le_of_ble_eq_true rfl
   ·exact h.elim
  ·intro args hp K h
   unfold zps at h
   split at h
   ·rename_i o n c t0 m H k rn rc all t L l
    obtain ⟨⟨hH,hk,hn,hl,hc⟩,h⟩:=zi h
    obtain ⟨B,hB⟩: ∃B,B=(l.drop (off o)).take 128:=⟨_,rfl⟩
    rw [←hB] at h
    refine za ?_
    refine zx (Ix (80)) (fun q=>⟨[(0,.ptr 0 0 0 []),(1,.sl 1 0 0 o n c),(4,.ptr 2 0 0 []),(15,.int q.i)],[.mk t0 [.int m,.arr64 8 H,.arr64 80 k,.sl 1 0 0 [] rn rc,.u64 all],.mk t [.arr8 L l],.mk 245 [.arr64 80 (zah B q.i)]]⟩) (fun q=>(80)-q.i) ⟨0,Nat.zero_le _⟩ [0,1,2] ?_ ?_
    ·repeat ((conv=>whnf);refine zc ?_)
     conv=>whnf
     exact zu (congrArg (fun x=>SV.agg [SV.arr64 80 x]) (show _=zah B 0 by unfold zah;rfl))
    ·intro q
     have hi:=q.hi
     have hwl:=znq B q.i
     have hx0:off (ya [] ((q.i:Int)).toNat x4.sz)=q.i:=by rw [zw];show 0+((q.i:Int)).toNat*1=_;omega
     by_cases h4:q.i<80
     ·by_cases h16:q.i<16
      ·have hof:off (ya o (8*(q.i:Int)).toNat ty5.sz)=off o+8*q.i:=by rw [zw];show off o+(8*(q.i:Int)).toNat*1=_;omega
       have hso:off (ya o (slO c (8*(q.i:Int)).toNat) ty5.sz)=off o+8*q.i:=by rw [zw,yv (by omega)];show off o+(8*(q.i:Int)).toNat*1=_;omega
       have hpw:off (ya o (slO c (8*(q.i:Int)).toNat) ty5.sz)+((8*(q.i:Int)+8).toNat-(8*(q.i:Int)).toNat)≤l.length:=by rw [hso];omega
       have hpw2:off (ya o (slO c (8*(q.i:Int)).toNat) ty5.sz)+((8*(q.i:Int)+8).toNat-(8*(q.i:Int)).toNat)≤l.length∧(8*(q.i:Int)+8).toNat-(8*(q.i:Int)).toNat≤1000:=⟨hpw,by omega⟩
       have hnum:num (List.take ((8*(q.i:Int)+8).toNat-(8*(q.i:Int)).toNat) (List.drop (off (ya o (slO c (8*(q.i:Int)).toNat) ty5.sz)) l))=num ((B.drop (8*q.i)).take 8):=by
         rw [hso,hB,show (8*(q.i:Int)+8).toNat-(8*(q.i:Int)).toNat=8 by omega,List.drop_take,List.take_take,List.drop_drop,Nat.min_eq_left (by omega)]
       refine za ?_
       refine ⟨⟨q.i+1,h4⟩,[0,1,2],by show (80)-(q.i+1)<(80)-q.i;omega,?_⟩
       repeat ((conv=>whnf);refine zc ?_)
       conv=>whnf
       exact zu (congrArg (fun x=>SV.agg [SV.arr64 80 x]) (show _=zah B (q.i+1) by rw [hnum,hx0,z7m h16]))
      ·have hx15:off (ya [] ((q.i:Int)-15).toNat x4.sz)=q.i-15:=by rw [zw];show 0+((q.i:Int)-15).toNat*1=_;omega
       have hx2:off (ya [] ((q.i:Int)-2).toNat x4.sz)=q.i-2:=by rw [zw];show 0+((q.i:Int)-2).toNat*1=_;omega
       have hx16:off (ya [] ((q.i:Int)-16).toNat x4.sz)=q.i-16:=by rw [zw];show 0+((q.i:Int)-16).toNat*1=_;omega
       have hx7:off (ya [] ((q.i:Int)-7).toNat x4.sz)=q.i-7:=by rw [zw];show 0+((q.i:Int)-7).toNat*1=_;omega
       refine za ?_
       refine ⟨⟨q.i+1,h4⟩,[0,1,2],by show (80)-(q.i+1)<(80)-q.i;omega,?_⟩
       repeat ((conv=>whnf);refine zc ?_)
       conv=>whnf
       exact zu (congrArg (fun x=>SV.agg [SV.arr64 80 x]) (show _=zah B (q.i+1) by rw [hx0,hx15,hx2,hx16,hx7,z7t h16];rfl))
     ·have e4:q.i=80:=by omega
      rw [e4] at hwl
      rw [e4]
      generalize hW:zah B 80=W at*
      clear hx0 hi h4 e4 q
      refine za ?_
      have hSl:=hH
      refine zx (Ix (80)) (fun q=>⟨[(0,.ptr 0 0 0 []),(4,.ptr 2 0 0 []),(8,.ptr 3 0 0 []),(72,.int q.i)],[.mk t0 [.int m,.arr64 8 H,.arr64 80 k,.sl 1 0 0 [] rn rc,.u64 all],.mk t [.arr8 L l],.mk 245 [.arr64 80 W],.mk 242 [.arr64 8 (zfn k W H q.i)]]⟩) (fun q=>(80)-q.i) ⟨0,Nat.zero_le _⟩ [0,1,2,3] ?_ ?_
      ·repeat ((conv=>whnf);refine zc ?_)
       conv=>whnf
       exact zu (congrArg (fun x=>SV.agg [SV.arr64 8 x]) (show _=zfn k W H 0 by unfold zfn;rfl))
      ·intro q
       have hi:=q.hi
       have hrl:=zxo (k:=k) (w:=W) hSl q.i
       have hx0:off (ya [] ((q.i:Int)).toNat x4.sz)=q.i:=by rw [zw];show 0+((q.i:Int)).toNat*1=_;omega
       have hy0:off (ya [] ((q.i:Int)).toNat x4.sz)=q.i:=by rw [zw];show 0+((q.i:Int)).toNat*1=_;omega
       by_cases h4:q.i<80
       ·refine za ?_
        conv=>whnf
        refine ⟨⟨q.i+1,h4⟩,[0,1,2,3],by show (80)-(q.i+1)<(80)-q.i;omega,?_⟩
        repeat ((conv=>whnf);refine zc ?_)
        conv=>whnf
        exact zu (congrArg (fun x=>SV.agg [SV.arr64 8 x]) (show _=zfn k W H (q.i+1) by simp only [zfn];rw [←hx0];rfl))
       ·have e4:q.i=80:=by omega
        rw [e4] at hrl
        rw [e4]
        obtain ⟨Z,hZ⟩: ∃Z,Z=zfn k W H 80:=⟨_,rfl⟩
        rw [←hZ] at hrl
        rw [←hZ]
        clear hy0 hx0 hi h4 e4 q
        refine za ?_
        refine zx (Ix (8)) (fun q=>⟨[(0,.ptr 0 0 0 []),(4,.ptr 2 0 0 []),(8,.ptr 3 0 0 []),(157,.int q.i)],[.mk t0 [.int m,.arr64 8 (ovr H 0 (fun i=>g64 H i+g64 Z i) q.i),.arr64 80 k,.sl 1 0 0 [] rn rc,.u64 all],.mk t [.arr8 L l],.mk 245 [.arr64 80 W],.mk 242 [.arr64 8 Z]]⟩) (fun q=>(8)-q.i) ⟨0,Nat.zero_le _⟩ [0,1,2,3] ?_ ?_
        ·exact zo
        ·intro q
         have hi:=q.hi
         have hlo:=yp (l:=H) (a:=0) (i:=q.i) (by omega) (fun i=>g64 H i+g64 Z i)
         have hI:((q.i:Int)).toNat=q.i:=Int.toNat_natCast _
         by_cases h4:q.i<8
         ·refine za ?_
          refine ⟨⟨q.i+1,h4⟩,[0,1,2,3],by show (8)-(q.i+1)<(8)-q.i;omega,?_⟩
          repeat ((conv=>whnf);refine zc ?_)
          conv=>whnf
          refine z9 (congrArg (fun x=>SV.agg [SV.int m,SV.arr64 8 x,SV.arr64 80 k,SV.sl 1 0 0 [] rn rc,SV.u64 all]) (yd (by omega) ?hv ?hkk)) ?_
          case hkk=>show ((q.i:Int)).toNat=0+q.i;omega
          case hv=>
            show List.getD (ovr H 0 (fun i=>g64 H i+g64 Z i) q.i) ((q.i:Int)).toNat 0+List.getD Z ((q.i:Int)).toNat 0=_
            rw [yx (by omega) _ (by omega),hI];rfl
          exact zo
         ·have e4:q.i=8:=by omega
          have hfin:ovr H 0 (fun i=>g64 H i+g64 Z i) 8=zh6 k H B:=by
            rw [xy hH];unfold zh6;rw [hW,←hZ]
          rw [e4,hfin]
          refine za ?_
          exact zm [0,1] h
   ·exact h.elim
end Go.Sym.Z

namespace Go.Sym.Z
open Go Go.Proofs.Tryz Go.Sym.Lp Go.Sym.Cha Go.Sym.Sha
set_option maxRecDepth 100000
attribute [local irreducible] zld zh6 xx KC HB zbl
def z73:List (Nat×List PStep):= []
def z83:List (Nat×List PStep):= []
def z8v:List (Nat×List PStep):= []
def yai:List (Nat×List PStep):= []
def z8x:List (Nat×List PStep):= []
def ztt:Spec:=fun args hp K=>match args,hp with
  | [.ptr 0 0 0 [],.sl 1 0 0 o n c],[.mk t0 [.int m,.arr64 8 H,.arr64 80 k,.sl 1 0 0 [] rn rc,.u64 all],.mk t [.arr8 L l]]=>Pre (H.length=8∧k.length=80∧bk m≤n∧off o+n≤l.length∧n≤c)
      (K (.tup []) [.mk t0 [.int m,.arr64 8 (zbl m k H ((l.drop (off o)).take (bk m))),.arr64 80 k,.sl 1 0 0 [] rn rc,.u64 all],.mk t [.arr8 L l]])
  |_,_=>False
theorem z23:zp prog 186 ztt:=by
  refine zl zaa (ze zy4 (ze z20 zg)) rfl func186 rfl call186 (D:=z73) ?_ ?_
  ·intro args hp K h
   unfold ztt at h
   split at h
   ·exact Nat.le_of_ble_eq_true rfl
   ·exact h.elim
  ·intro args hp K h
   unfold ztt at h
   split at h
   ·rename_i o n c t0 m H k rn rc all t L l
    obtain ⟨⟨hH,hk,hn,hl,hc⟩,h⟩:=zi h
    by_cases hm:m=256
    ·have hb:bk m=64:=by unfold bk;rw [if_pos hm]
     have hT:zbl m k H ((l.drop (off o)).take (bk m))=zld k H ((l.drop (off o)).take 64):=by unfold zbl;rw [if_pos hm,hb]
     rw [hT] at h
     rw [hb] at hn
     have hp:H.length=8∧k.length=80∧64≤n∧off o+n≤l.length∧n≤c:=⟨hH,hk,hn,hl,hc⟩
     refine za ?_
     exact zm [0,1] h
    ·have hb:bk m=128:=by unfold bk;rw [if_neg hm]
     have hT:zbl m k H ((l.drop (off o)).take (bk m))=zh6 k H ((l.drop (off o)).take 128):=by unfold zbl;rw [if_neg hm,hb]
     rw [hT] at h
     rw [hb] at hn
     have hp:H.length=8∧k.length=80∧128≤n∧off o+n≤l.length∧n≤c:=⟨hH,hk,hn,hl,hc⟩
     refine za ?_
     exact zm [0,1] h
   ·exact h.elim
def zqg:Spec:=fun args hp K=>match args,hp with
  | [.ptr 0 0 0 []],[.mk t0 [.int m,.arr64 8 H,.arr64 80 k,.nilsl,.u64 all]]=>K (.int (bk m:Nat)) [.mk t0 [.int m,.arr64 8 H,.arr64 80 k,.nilsl,.u64 all]]
  | [.ptr 0 0 0 []],[.mk t0 [.int m,.arr64 8 H,.arr64 80 k,.sl 1 0 0 [] rn rc,.u64 all],.mk t [.arr8 L l]]=>K (.int (bk m:Nat)) [.mk t0 [.int m,.arr64 8 H,.arr64 80 k,.sl 1 0 0 [] rn rc,.u64 all],.mk t [.arr8 L l]]
  |_,_=>False
theorem zq6:zp prog 185 zqg:=by
  refine zl zaa zg rfl func185 rfl call185 (D:=z83) ?_ ?_
  ·intro args hp K h
   unfold zqg at h
   split at h
   ·exact Nat.le_of_ble_eq_true rfl
   ·exact Nat.le_of_ble_eq_true rfl
   ·exact h.elim
  ·intro args hp K h
   unfold zqg at h
   split at h
   ·rename_i t0 m H k all
    by_cases hm:m=256
    ·have hb:bk m=64:=by unfold bk;rw [if_pos hm]
     rw [hb] at h
     refine za ?_
     exact zm [0] h
    ·have hb:bk m=128:=by unfold bk;rw [if_neg hm]
     rw [hb] at h
     refine za ?_
     exact zm [0] h
   ·rename_i t0 m H k rn rc all t L l
    by_cases hm:m=256
    ·have hb:bk m=64:=by unfold bk;rw [if_pos hm]
     rw [hb] at h
     refine za ?_
     exact zm [0,1] h
    ·have hb:bk m=128:=by unfold bk;rw [if_neg hm]
     rw [hb] at h
     refine za ?_
     exact zm [0,1] h
   ·exact h.elim
def zqs:Spec:=fun args hp K=>match args,hp with
  | [.int n],[]=>K (.arr64 8 (HB n)) []
  |_,_=>False
theorem z1a:zp prog 182 zqs:=by
  refine zl zaa zg rfl func182 rfl call182 (D:=z8v) ?_ ?_
  ·intro args hp K h
   unfold zqs at h
   split at h
   ·exact Nat.le_of_ble_eq_true rfl
   ·exact h.elim
  ·intro args hp K h
   unfold zqs at h
   split at h
   ·rename_i n
    by_cases hn:n=256
    ·rw [show HB n=_ from by unfold HB;rw [if_pos hn]] at h
     refine za ?_
     exact zm [] h
    ·rw [show HB n=_ from by unfold HB;rw [if_neg hn]] at h
     refine za ?_
     exact zm [] h
   ·exact h.elim
def zpe:Spec:=fun args hp K=>match args,hp with
  | [],[]=>K (.arr64 80 KC) []
  |_,_=>False
theorem zzx:zp prog 183 zpe:=by
  refine zl zaa zg rfl func183 rfl call183 (D:=yai) ?_ ?_
  ·intro args hp K h
   unfold zpe at h
   split at h
   ·exact Nat.le_of_ble_eq_true rfl
   ·exact h.elim
  ·intro args hp K h
   unfold zpe at h
   split at h
   ·refine za ?_
    refine yu (hp':= []) [] h ?_
    repeat ((conv=>whnf);refine zc ?_)
    conv=>whnf
    exact zu (congrArg (SV.arr64 80) (show _=KC by unfold KC;decide+kernel))
   ·exact h.elim
def z0u:Spec:=fun args hp K=>match args,hp with
  | [.int n],[]=>yg (decide (n=256∨n=384)) (K (.tup [.ptr 0 0 0 [],.int 0]) [.mk 248 [.int n,.arr64 8 (HB n),.arr64 80 KC,.nilsl,.u64 0]]) (K (.tup [.nilptr,.int 200]) [])
  |_,_=>False
theorem zyh:zp prog 170 z0u:=by
  refine zl zaa (ze z1a (ze zzx zg)) rfl func170 rfl call170 (D:=z8x) ?_ ?_
  ·intro args hp K h
   unfold z0u at h
   split at h
   ·exact Nat.le_of_ble_eq_true rfl
   ·exact h.elim
  ·intro args hp K h
   unfold z0u at h
   split at h
   ·rename_i n
    obtain ⟨ht,hf⟩:=yc h
    have hl:=zoz n
    have hk:=zpd
    by_cases h1:n=256
    ·have h:=ht (decide_eq_true (.inl h1))
     refine za ?_
     exact zm [0] h
    ·by_cases h2:n=384
     ·have h:=ht (decide_eq_true (.inr h2))
      refine za ?_
      exact zm [0] h
     ·have h:=hf (decide_eq_false (by omega))
      refine za ?_
      exact zm [] h
   ·exact h.elim
end Go.Sym.Z
