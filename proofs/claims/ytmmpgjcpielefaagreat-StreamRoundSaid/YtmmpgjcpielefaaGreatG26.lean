/-
  Contracts of functions of the program, each said of symbolic values, and plain laws; no condition beyond each statement's own.
-/
import Derived.Test.YtmmpgjcpielefaaGreatG25
import Derived.Test.YtmmpgjcpielefaaGreatG21
set_option linter.unusedSimpArgs false
set_option linter.unusedVariables false
namespace Go.Sym.Z
open Go Go.Proofs.Tryz Go.Sym.Lp Go.Sym.Pol
set_option maxRecDepth 100000
attribute [local irreducible] zhr zau zd0
def z9l:List (Nat×List PStep):= [(4,[⟨0,[]⟩,⟨1,[0]⟩,⟨2,[0]⟩,⟨3,[1,2]⟩,⟨4,[]⟩,⟨5,[]⟩,⟨6,[]⟩,⟨7,[1,2,3,4,5,6]⟩,⟨8,[]⟩,⟨9,[]⟩]),(6,[⟨0,[]⟩,⟨1,[]⟩,⟨2,[]⟩,⟨3,[]⟩,⟨4,[0,1,2,3]⟩,⟨5,[0,1,2,3]⟩,⟨6,[]⟩,⟨7,[1,2,3,4,5,6]⟩,⟨8,[]⟩,⟨9,[]⟩]),(7,[⟨0,[]⟩,⟨1,[0]⟩,⟨2,[0]⟩,⟨3,[0]⟩,⟨4,[1,2,3]⟩,⟨5,[]⟩,⟨6,[]⟩,⟨7,[0,1,2,3,4,5,6]⟩,⟨8,[]⟩,⟨9,[1,2,3,4,5,6,7,8]⟩,⟨10,[]⟩,⟨11,[]⟩])]
def z8e:List (Nat×List PStep):= [(7,[⟨0,[]⟩,⟨1,[0]⟩,⟨2,[1]⟩,⟨3,[]⟩,⟨4,[]⟩,⟨5,[0,1,2,3,4]⟩,⟨6,[0,1,2,3,4,5]⟩,⟨7,[0,1,2,3,4,6]⟩,⟨8,[0,1,2,3,4]⟩,⟨9,[0,1,2,3,4]⟩,⟨10,[]⟩,⟨11,[]⟩])]
def z9p:List (Nat×List PStep):= [(5,[⟨0,[]⟩,⟨1,[]⟩,⟨2,[]⟩,⟨3,[]⟩,⟨4,[0,1,2,3]⟩,⟨5,[0,1,2,3]⟩,⟨6,[0,1,2,3,4,5]⟩,⟨7,[0,1,2,3,4,5]⟩,⟨8,[0,1,2,3,4,5]⟩,⟨9,[0,1,2,3]⟩,⟨10,[]⟩,⟨11,[]⟩,⟨12,[]⟩]),(7,[⟨0,[]⟩,⟨1,[]⟩,⟨2,[]⟩,⟨3,[]⟩,⟨4,[]⟩,⟨5,[0,1,2,3,4]⟩,⟨6,[0,1,2,3,4]⟩,⟨7,[0,1,2,3,4]⟩,⟨8,[0,1,2,3,4]⟩,⟨9,[0,1,2,3,4]⟩,⟨10,[]⟩,⟨11,[]⟩,⟨12,[]⟩])]
def z8b:List (Nat×List PStep):= [(4,[⟨0,[]⟩,⟨1,[0]⟩,⟨2,[1]⟩,⟨3,[1]⟩,⟨4,[]⟩,⟨5,[]⟩,⟨6,[0,1,2,3,4,5]⟩,⟨7,[0,1,2,3,4,5]⟩,⟨8,[0,1,2,3,4,5]⟩,⟨9,[]⟩,⟨10,[1,2,3,4,5,6,7,8,9]⟩,⟨11,[1,2,3,4,5,6,7,8,9]⟩,⟨12,[]⟩,⟨13,[]⟩]),(6,[⟨0,[]⟩,⟨1,[]⟩,⟨2,[]⟩,⟨3,[0,1,2]⟩,⟨4,[0,1,2]⟩,⟨5,[0,1,2]⟩,⟨6,[]⟩])]
def z8p:List (Nat×TyI):= [(3,ty3),(4,ty4),(5,ty5),(9,ty9),(48,zc6),(99,x4),(51,zcx),(168,zdc),(220,zgb),(238,zf9),(223,ze8),(193,zfu),(236,zfo),(167,zfy)]
theorem zal: ∀t i,yz z8p t=some i→yn prog t i:=(zb ty3_ok (zb zbu (zb zby (zb zbz (zb zaw (zb zbp (zb za2 (zb zho (zb zye (zb z0l (zb zy2 (zb z2e (zb zzb (zb z2s zae))))))))))))))
def zsy:Spec:=fun args hp K=>match args,hp with
  | [.ptr 0 0 0 []],[.mk t [.arr64 5 x]]=>Pre (x.length=5) (K (.tup []) [.mk t [.arr64 5 (car x)]])
  |_,_=>False
theorem zv1:zp prog 178 zsy:=by
  refine zl zal zg rfl func178 rfl call178 (D:=z9l) ?_ ?_
  ·intro args hp K h
   unfold zsy at h
   split at h
   ·exact Nat.le_of_ble_eq_true rfl
   ·exact h.elim
  ·intro args hp K h
   unfold zsy at h
   split at h
   ·rename_i t x
    obtain ⟨hx,h⟩:=zi h
    refine za ?_
    refine zx (Ix (6)) (fun q=>⟨[(0,.ptr 0 0 0 []),(4,.int q.i)],[.mk t [.arr64 5 (zau x q.i)]]⟩) (fun q=>(6)-q.i) ⟨0,Nat.zero_le _⟩ [0] ?_ ?_
    ·repeat ((conv=>whnf);refine zc ?_)
     conv=>whnf
     exact zu (congrArg (fun x=>SV.agg [SV.arr64 5 x]) (show x=zau x 0 by unfold zau;rfl))
    ·intro q
     have hi:=q.hi
     have hl:=zjs x q.i
     have hm:(q.i:Int).tmod 5=((q.i%5:Nat):Int):=by rw [Int.tmod_eq_emod_of_nonneg (by omega)];omega
     have hI:((q.i:Int).tmod 5).toNat=q.i%5:=by omega
     have hJ:((q.i:Int).tmod 5+1).toNat=q.i%5+1:=by omega
     by_cases h4:q.i<6
     ·by_cases h5:q.i%5=4
      ·refine za ?_
       rw [hI]
       conv=>whnf
       refine ⟨⟨q.i+1,h4⟩,[0],by show (6)-(q.i+1)<(6)-q.i;omega,?_⟩
       repeat ((conv=>whnf);refine zc ?_)
       conv=>whnf
       exact zu (congrArg (fun x=>SV.agg [SV.arr64 5 x]) (zug x q.i h5).symm)
      ·refine za ?_
       rw [hI,hJ]
       conv=>whnf
       refine ⟨⟨q.i+1,h4⟩,[0],by show (6)-(q.i+1)<(6)-q.i;omega,?_⟩
       repeat ((conv=>whnf);refine zc ?_)
       conv=>whnf
       exact zu (congrArg (fun x=>SV.agg [SV.arr64 5 x]) (zs4 x q.i h5).symm)
     ·have e4:q.i=6:=by omega
      rw [e4,show zau x 6=car x by unfold car;rfl]
      refine za ?_
      exact zm [0] h
   ·exact h.elim
def z1i:Spec:=fun args hp K=>match args,hp with
  | [.sl 0 0 0 o n c],[.mk t [.arr8 m l]]=>Pre (n≤16∧off o+n≤l.length) (K (.arr64 5 (zgh ((l.drop (off o)).take n))) [.mk t [.arr8 m l]])
  |_,_=>False
theorem z2b:zp prog 163 z1i:=by
  refine zl zal zg rfl func163 rfl call163 (D:=z9p) ?_ ?_
  ·intro args hp K h
   unfold z1i at h
   split at h
   ·exact Nat.le_of_ble_eq_true rfl
   ·exact h.elim
  ·intro args hp K h
   unfold z1i at h
   split at h
   ·rename_i o n c t m l
    obtain ⟨⟨hn,hl⟩,h⟩:=zi h
    have hB:((l.drop (off o)).take n).length=n:=by rw [List.length_take,List.length_drop];omega
    refine za ?_
    refine zx (Ix (n)) (fun q=>⟨[(0,.sl 0 0 0 o n c),(2,.ptr 1 0 0 []),(3,.ptr 2 0 0 []),(6,.sl 0 0 0 o n c),(7,.int n),(8,.int q.i)],[.mk t [.arr8 m l],.mk 220 [.arr64 5 [0,0,0,0,0]],.mk 236 [.arr64 3 (zhr ((l.drop (off o)).take n) q.i)]]⟩) (fun q=>(n)-q.i) ⟨0,Nat.zero_le _⟩ [0,1,2] ?_ ?_
    ·repeat ((conv=>whnf);refine zc ?_)
     conv=>whnf
     exact zu (congrArg (fun x=>SV.agg [SV.arr64 3 x]) (show [0,0,0]=zhr _ 0 by unfold zhr;rfl))
    ·intro q
     have hi:=q.hi
     have hw:=zrb ((l.drop (off o)).take n) q.i
     have hI:((q.i:Int)).toNat=q.i:=Int.toNat_natCast _
     have hd8:(q.i:Int).tdiv 8=((q.i/ 8:Nat):Int):=by rw [Int.tdiv_eq_ediv_of_nonneg (by omega)];omega
     have hm8:(q.i:Int).tmod 8=((q.i%8:Nat):Int):=by rw [Int.tmod_eq_emod_of_nonneg (by omega)];omega
     have hpd:(8:Int)≠0∧yo ((q.i:Int).tdiv 8):=⟨by decide,by unfold yo;omega⟩
     by_cases h4:q.i<n
     ·refine za ?_
      refine ⟨⟨q.i+1,h4⟩,[0,1,2],by show (n)-(q.i+1)<(n)-q.i;omega,?_⟩
      repeat ((conv=>whnf);refine zc ?_)
      conv=>whnf
      refine z9 (congrArg (fun x=>SV.agg [SV.arr64 3 x]) ?hv) ?_
      case hv=>
        show (zhr _ q.i).set ((q.i:Int).tdiv 8).toNat (g64 (zhr _ q.i) ((q.i:Int).tdiv 8).toNat|||(l.getD (off (ya o q.i 1)) 0).toUInt64<<<UInt64.ofNat (8*(q.i:Int).tmod 8).toNat)=zhr _ (q.i+1)
        rw [zw,hd8,hm8,Int.toNat_natCast,show (8*((q.i%8:Nat):Int)).toNat=8*(q.i%8) by omega,Nat.mul_one,←zi3 (n:=n) h4]
        simp only [zhr]
      exact zo
     ·have e4:q.i=n:=by omega
      have hn8:(n:Int).tdiv 8=((n/ 8:Nat):Int):=by rw [Int.tdiv_eq_ediv_of_nonneg (by omega)];omega
      have hk8:(n:Int).tmod 8=((n%8:Nat):Int):=by rw [Int.tmod_eq_emod_of_nonneg (by omega)];omega
      have hpn:(8:Int)≠0∧yo ((n:Int).tdiv 8):=⟨by decide,by unfold yo;omega⟩
      rw [e4] at hw
      rw [e4]
      have hnn:((n:Int).tdiv 8).toNat=n/ 8:=by omega
      have hnk:(8*(n:Int).tmod 8).toNat=8*(n%8):=by omega
      refine za ?_
      rw [hnn,hnk]
      conv=>whnf
      refine yu (hp':= [.mk t [.arr8 m l]]) [0] h ?_
      repeat ((conv=>whnf);refine zc ?_)
      conv=>whnf
      exact zu (congrArg (SV.arr64 5) (show _=zgh ((l.drop (off o)).take n) by unfold zgh ldW;rw [hB];rfl))
   ·exact h.elim
def zt5:Spec:=fun args hp K=>match args,hp with
  | [.ptr 0 1 5 [],.ptr 0 0 0 []],[.mk t [.arr64 5 r,.arr64 5 x]]=>Pre (r.length=5∧x.length=5) (K (.tup []) [.mk t [.arr64 5 r,.arr64 5 (zrx x r)]])
  |_,_=>False
theorem z4b:zp prog 177 zt5:=by
  refine zl zal (ze zv1 zg) rfl func177 rfl call177 (D:=z8e) ?_ ?_
  ·intro args hp K h
   unfold zt5 at h
   split at h
   ·exact Nat.le_of_ble_eq_true rfl
   ·exact h.elim
  ·intro args hp K h
   unfold zt5 at h
   split at h
   ·rename_i t r x
    obtain ⟨⟨hr,hx⟩,h⟩:=zi h
    refine za ?_
    refine zx (Ix (5)) (fun q=>⟨[(0,.ptr 0 1 5 []),(1,.ptr 0 0 0 []),(4,.ptr 1 0 0 []),(8,.int q.i)],[.mk t [.arr64 5 r,.arr64 5 x],.mk 220 [.arr64 5 (zd0 x r (5*q.i))]]⟩) (fun q=>(5)-q.i) ⟨0,Nat.zero_le _⟩ [0,1] ?_ ?_
    ·repeat ((conv=>whnf);refine zc ?_)
     conv=>whnf
     exact zu (congrArg (fun x=>SV.agg [SV.arr64 5 x]) (show [0,0,0,0,0]=zd0 x r 0 by unfold zd0;rfl))
    ·intro q
     have hi:=q.hi
     by_cases h4:q.i<5
     ·refine za ?_
      refine zx (Ix (5)) (fun k=>⟨[(0,.ptr 0 1 5 []),(1,.ptr 0 0 0 []),(4,.ptr 1 0 0 []),(8,.int q.i),(5,.int q.i),(11,.int k.i)],[.mk t [.arr64 5 r,.arr64 5 x],.mk 220 [.arr64 5 (zd0 x r (5*q.i+k.i))]]⟩) (fun k=>(5)-k.i) ⟨0,Nat.zero_le _⟩ [0,1] ?_ ?_
      ·exact zo
      ·intro k
       have hki:=k.hi
       have hl:=ziv x r (5*q.i+k.i)
       have hm:((q.i:Int)+(k.i:Int)).tmod 5=(((q.i+k.i)%5:Nat):Int):=by rw [Int.tmod_eq_emod_of_nonneg (by omega)];omega
       have hI:(((q.i:Int)+(k.i:Int)).tmod 5).toNat=(q.i+k.i)%5:=by omega
       by_cases h5:k.i<5
       ·have hat:=z4j x r (i:=q.i) (k:=k.i) h5
        by_cases h6:5≤q.i+k.i
        ·unfold z1c at hat
         rw [if_pos h6] at hat
         refine za ?_
         rw [hI]
         conv=>whnf
         refine ⟨⟨k.i+1,h5⟩,[0,1],by show (5)-(k.i+1)<(5)-k.i;omega,?_⟩
         repeat ((conv=>whnf);refine zc ?_)
         conv=>whnf
         exact zu (congrArg (fun x=>SV.agg [SV.arr64 5 x]) hat.symm)
        ·unfold z1c at hat
         rw [if_neg h6] at hat
         refine za ?_
         rw [hI]
         conv=>whnf
         refine ⟨⟨k.i+1,h5⟩,[0,1],by show (5)-(k.i+1)<(5)-k.i;omega,?_⟩
         repeat ((conv=>whnf);refine zc ?_)
         conv=>whnf
         exact zu (congrArg (fun x=>SV.agg [SV.arr64 5 x]) hat.symm)
       ·have e5:k.i=5:=by omega
        rw [e5,show 5*q.i+5=5*(q.i+1) by omega]
        refine za ?_
        refine ⟨⟨q.i+1,h4⟩,[0,1],by show (5)-(q.i+1)<(5)-q.i;omega,?_⟩
        exact zo
     ·have e4:q.i=5:=by omega
      have hl:=ziv x r (5*5)
      have hcl:(car (zd0 x r (5*5))).length=5:=by rw [zco];exact hl
      rw [e4]
      refine za ?_
      exact zm [0] h
   ·exact h.elim
def z6m:Spec:=fun args hp K=>match args,hp with
  | [.ptr 0 0 0 [],.sl 1 0 0 o n c],[.mk t0 [.arr64 5 r,.arr64 5 x],.mk t [.arr8 m l]]=>Pre (r.length=5∧x.length=5∧n≤16∧off o+n≤l.length) (K (.tup []) [.mk t0 [.arr64 5 r,.arr64 5 (zsp r x ((l.drop (off o)).take n))],.mk t [.arr8 m l]])
  |_,_=>False
theorem z5k:zp prog 164 z6m:=by
  refine zl zal (ze z2b (ze z4b zg)) rfl func164 rfl call164 (D:=z8b) ?_ ?_
  ·intro args hp K h
   unfold z6m at h
   split at h
   ·exact Nat.le_of_ble_eq_true rfl
   ·exact h.elim
  ·intro args hp K h
   unfold z6m at h
   split at h
   ·rename_i o n c t0 r x t m l
    obtain ⟨⟨hr,hx,hn,hl⟩,h⟩:=zi h
    obtain ⟨y,hy⟩: ∃y,y=zgh ((l.drop (off o)).take n):=⟨_,rfl⟩
    have hyl:y.length=5:=by rw [hy];exact zjb _
    have hA:zsp r x ((l.drop (off o)).take n)=zrx (z06 x y) r:=by unfold zsp;rw [hy]
    rw [hA] at h
    refine za ?_
    rw [←hy]
    refine zx (Ix (5)) (fun q=>⟨[(0,.ptr 0 0 0 []),(1,.sl 1 0 0 o n c),(4,.ptr 2 0 0 []),(8,.int q.i)],[.mk t0 [.arr64 5 r,.arr64 5 (ovr x 0 (fun i=>g64 x i+g64 y i) q.i)],.mk t [.arr8 m l],.mk 220 [.arr64 5 y]]⟩) (fun q=>(5)-q.i) ⟨0,Nat.zero_le _⟩ [0,1,2] ?_ ?_
    ·exact zo
    ·intro q
     have hi:=q.hi
     have hlo:=yp (l:=x) (a:=0) (i:=q.i) (by omega) (fun i=>g64 x i+g64 y i)
     by_cases h4:q.i<5
     ·refine za ?_
      refine ⟨⟨q.i+1,h4⟩,[0,1,2],by show (5)-(q.i+1)<(5)-q.i;omega,?_⟩
      repeat ((conv=>whnf);refine zc ?_)
      conv=>whnf
      refine z9 (congrArg (fun z=>SV.agg [SV.arr64 5 r,SV.arr64 5 z]) (yd (by omega) ?hv ?hkk)) ?_
      case hkk=>show q.i=0+q.i;omega
      case hv=>
        show g64 (ovr x 0 _ q.i) q.i+g64 y q.i=g64 x q.i+g64 y q.i
        unfold g64
        rw [yx (by omega) _ (by omega)]
      exact zo
     ·have e4:q.i=5:=by omega
      have hal:=z2j x y
      rw [e4,xy hx,show (List.range 5).map (fun i=>g64 x i+g64 y i)=z06 x y by unfold z06;rfl]
      refine za ?_
      exact zm [0,1] h
   ·exact h.elim
end Go.Sym.Z

namespace Go.Sym.Z
open Go Go.Proofs.Tryz Go.Sym.Lp Go.Sym.Pol
set_option maxRecDepth 100000
attribute [local irreducible] zsp car zbf zbt
def z8k:List (Nat×List PStep):= []
def z72:List (Nat×List PStep):= [(8,[⟨0,[]⟩,⟨1,[]⟩,⟨2,[]⟩,⟨3,[]⟩,⟨4,[0,1,2,3]⟩,⟨5,[0,1,2,3]⟩,⟨6,[0,1,2,3]⟩,⟨7,[0,1,2,3]⟩,⟨8,[]⟩,⟨9,[]⟩,⟨10,[]⟩])]
def z9d:List (Nat×List PStep):= [(12,[⟨0,[]⟩,⟨1,[0]⟩,⟨2,[0,1]⟩,⟨3,[0,1]⟩,⟨4,[0,1]⟩,⟨5,[0]⟩,⟨6,[0]⟩,⟨7,[0,1,2,3,4,5,6]⟩,⟨8,[0,1,2,3,4,5,6,7]⟩,⟨9,[0,1,2,3,4,5,6,7]⟩,⟨10,[0,1,2,3,4,5,6]⟩,⟨11,[0,1,2,3,4,5,6]⟩,⟨12,[0]⟩,⟨13,[]⟩,⟨14,[]⟩])]
structure Ps (n:Nat) where
  t:Nat
  x:Nat
  k:Nat
  c:Nat
  hn:k+16*t=n∨(k=0∧t=(n+15)/ 16)
  hx:0<k→x=16*t
  hc:k≤c
def z6e:Spec:=fun args hp K=>match args,hp with
  | [.ptr 0 0 0 [],.sl 1 0 0 [] n c],[.mk t0 [.arr64 5 r,.arr64 5 x],.mk t [.arr8 m l]]=>Pre (r.length=5∧x.length=5∧n≤l.length∧n≤c) (K (.tup []) [.mk t0 [.arr64 5 r,.arr64 5 (zd3 r x (l.take n))],.mk t [.arr8 m l]])
  |_,_=>False
theorem z6w:zp prog 142 z6e:=by
  refine zl zal (ze z5k zg) rfl func142 rfl call142 (D:=z8k) ?_ ?_
  ·intro args hp K h
   unfold z6e at h
   split at h
   ·exact Nat.le_of_ble_eq_true rfl
   ·exact h.elim
  ·intro args hp K h
   unfold z6e at h
   split at h
   ·rename_i n c t0 r x t m l
    obtain ⟨⟨hr,hx,hl,hc⟩,h⟩:=zi h
    have hB:(l.take n).length=n:=by rw [List.length_take];omega
    refine za ?_
    refine zx (Option (Ps n)) (fun q=>match q with
      |none=>⟨[(0,.ptr 0 0 0 []),(1,.sl 1 0 0 [] n c)],[.mk t0 [.arr64 5 r,.arr64 5 x],.mk t [.arr8 m l]]⟩
      |some s=>⟨[(0,.ptr 0 0 0 []),(1,.sl 1 0 0 [(s.x,1)] s.k s.c)],[.mk t0 [.arr64 5 r,.arr64 5 (zj6 r x (l.take n) s.t)],.mk t [.arr8 m l]]⟩)
      (fun q=>match q with|none=>n+1|some s=>s.k) none [0,1] ?_ ?_
    ·exact zo
    ·intro q
     cases q with
     |none=>
      by_cases h4:0<n
      ·have hmn:(min (n:Int) 16).toNat=min n 16:=by omega
       have hD:16*0=0:=rfl
       have hxl:=zjn (r:=r) hx (l.take n) 0
       have hp4:r.length=5∧(zj6 r x (l.take n) 0).length=5∧min n 16≤16∧off []+min n 16≤l.length:=⟨hr,hxl,by omega,by show 0+_≤_;omega⟩
       refine za ?_
       rw [hmn]
       refine za ?_
       rw [show (l.drop (off [])).take (min n 16)=((l.take n).drop (16*0)).take 16 by
        rw [z5f,show 16*0=0 by omega,show min 16 (n-0)=min n 16 by omega]
        rfl]
       refine ⟨some ⟨0+1,slO c (min n 16),n-min n 16,c-min n 16,by omega,fun h0=>by
         have hne:c≠min n 16:=by omega
         rw [yv hne];omega,by omega⟩,[0,1],by show n-min n 16<n+1;omega,?_⟩
       exact zo
      ·have e4:n=0:=by omega
       refine za ?_
       refine yu (hp':= [.mk t0 [.arr64 5 r,.arr64 5 (zd3 r x (l.take n))],.mk t [.arr8 m l]]) [0,1] h ?_
       repeat ((conv=>whnf);refine zc ?_)
       conv=>whnf
       exact zu (congrArg (fun y=>SV.agg [SV.arr64 5 r,SV.arr64 5 y]) (show zj6 r x (l.take n) 0=zd3 r x (l.take n) by unfold zd3;rw [hB];congr 1;omega))
     |some s=>
      have hsn:=s.hn
      have hsx:=s.hx
      have hsc:=s.hc
      by_cases h4:0<s.k
      ·have hmn:(min (s.k:Int) 16).toNat=min s.k 16:=by omega
       have hX:=hsx h4
       have hxl:=zjn (r:=r) hx (l.take n) s.t
       have hp4:r.length=5∧(zj6 r x (l.take n) s.t).length=5∧min s.k 16≤16∧off [(s.x,1)]+min s.k 16≤l.length:=⟨hr,hxl,by omega,by show s.x+_≤_;omega⟩
       refine za ?_
       rw [hmn]
       refine za ?_
       rw [show (l.drop (off [(s.x,1)])).take (min s.k 16)=((l.take n).drop (16*s.t)).take 16 by
        rw [z5f,show 16*s.t=s.x by omega,show min 16 (n-s.x)=min s.k 16 by omega]
        rfl]
       refine ⟨some ⟨s.t+1,s.x+slO s.c (min s.k 16),s.k-min s.k 16,s.c-min s.k 16,by omega,fun h0=>by
         have hne:s.c≠min s.k 16:=by omega
         rw [yv hne];omega,by omega⟩,[0,1],by show s.k-min s.k 16<s.k;omega,?_⟩
       exact zo
      ·have e4:s.k=0:=by omega
       refine za ?_
       refine yu (hp':= [.mk t0 [.arr64 5 r,.arr64 5 (zd3 r x (l.take n))],.mk t [.arr8 m l]]) [0,1] h ?_
       repeat ((conv=>whnf);refine zc ?_)
       conv=>whnf
       exact zu (congrArg (fun y=>SV.agg [SV.arr64 5 r,SV.arr64 5 y]) (show zj6 r x (l.take n) s.t=zd3 r x (l.take n) by unfold zd3;rw [hB];congr 1;omega))
   ·exact h.elim
def ztn:Spec:=fun args hp K=>match args,hp with
  | [.arr64 5 x],[]=>Pre (x.length=5) (K (.arr64 5 (zbf x)) [])
  |_,_=>False
theorem z3s:zp prog 165 ztn:=by
  refine zl zal (ze zv1 zg) rfl func165 rfl call165 (D:=z72) ?_ ?_
  ·intro args hp K h
   unfold ztn at h
   split at h
   ·exact Nat.le_of_ble_eq_true rfl
   ·exact h.elim
  ·intro args hp K h
   unfold ztn at h
   split at h
   ·rename_i x
    obtain ⟨hx,h⟩:=zi h
    obtain ⟨y,hy⟩: ∃y,y=car (car x):=⟨_,rfl⟩
    have hxl:(car x).length=5:=by rw [zco];exact hx
    have hyl:y.length=5:=by rw [hy,zco,zco];exact hx
    have hw:zbf x=if 0<(g64 (zbi y 4) 4>>>(26:UInt64)).toNat then (zbi y 4).set 4 (g64 (zbi y 4) 4&&&M26) else y:=by unfold zbf;rw [←hy]
    rw [hw] at h
    refine za ?_
    rw [←hy]
    refine za ?_
    refine zx (Ix (4)) (fun q=>⟨[(0,.arr64 5 x),(1,.ptr 0 0 0 []),(2,.ptr 1 0 0 []),(3,.ptr 2 0 0 []),(12,.int q.i)],[.mk 220 [.arr64 5 y],.mk 220 [.arr64 5 [0,0,0,0,0]],.mk 220 [.arr64 5 (zbi y q.i)]]⟩) (fun q=>(4)-q.i) ⟨0,Nat.zero_le _⟩ [0,1,2] ?_ ?_
    ·exact zo
    ·intro q
     have hi:=q.hi
     have hl:=zja y q.i
     have hI:((q.i:Int)+1).toNat=q.i+1:=by omega
     have hJ:((q.i:Int)).toNat=q.i:=Int.toNat_natCast _
     by_cases h4:q.i<4
     ·refine za ?_
      refine ⟨⟨q.i+1,h4⟩,[0,1,2],by show (4)-(q.i+1)<(4)-q.i;omega,?_⟩
      exact zo
     ·have e4:q.i=4:=by omega
      rw [e4] at hl
      rw [e4]
      by_cases h5:0<(g64 (zbi y 4) 4>>>(26:UInt64)).toNat
      ·rw [if_pos h5] at h
       have hd:decide (UInt64.ofNat 0<g64 (zbi y 4) 4>>>(26:UInt64))=true:=decide_eq_true (by rw [UInt64.lt_iff_toNat_lt];exact h5)
       repeat ((conv=>whnf);first|refine zy ?_|refine zk ?_|refine zj ?_|refine zc ?_|refine zv (by first|exact hd) ?_|refine zr (by first|exact hd) ?_|refine zq (by first|exact hd) ?_)
       conv=>whnf
       exact zm [] h
      ·rw [if_neg h5] at h
       have hd:decide (UInt64.ofNat 0<g64 (zbi y 4) 4>>>(26:UInt64))=false:=decide_eq_false (by rw [UInt64.lt_iff_toNat_lt];exact h5)
       repeat ((conv=>whnf);first|refine zy ?_|refine zk ?_|refine zj ?_|refine zc ?_|refine zv (by first|exact hd) ?_|refine zr (by first|exact hd) ?_|refine zq (by first|exact hd) ?_)
       conv=>whnf
       exact zm [] h
   ·exact h.elim
def z1t:Spec:=fun args hp K=>match args,hp with
  | [.ptr 0 0 0 [],.str key],[.mk t0 [.arr64 5 r,.arr64 5 x]]=>Pre (x.length=5∧key.length=32) (K (.str (zh5 x key)) [.mk t0 [.arr64 5 r,.arr64 5 x]])
  |_,_=>False
theorem z5l:zp prog 145 z1t:=by
  refine zl zal (ze z3s zg) rfl func145 rfl call145 (D:=z9d) ?_ ?_
  ·intro args hp K h
   unfold z1t at h
   split at h
   ·exact Nat.le_of_ble_eq_true rfl
   ·exact h.elim
  ·intro args hp K h
   unfold z1t at h
   split at h
   ·rename_i key t0 r x
    obtain ⟨⟨hx,hk⟩,h⟩:=zi h
    have hwl:=zwl hx
    refine za ?_
    refine zx (Ix (16)) (fun q=>⟨[(0,.ptr 0 0 0 []),(1,.str key),(6,.u64 (zws (zbf x))),(7,.u64 (zol (zbf x))),(8,.sl 2 0 0 [] 16 16),(9,.u64 (zbt (zws (zbf x)) (zol (zbf x)) key q.i).2),(40,.int 16),(41,.int q.i)],[.mk t0 [.arr64 5 r,.arr64 5 x],.mk 220 [.arr64 5 (zbf x)],.mk 5 [.arr8 16 (zbt (zws (zbf x)) (zol (zbf x)) key q.i).1]]⟩) (fun q=>(16)-q.i) ⟨0,Nat.zero_le _⟩ [0,1,2] ?_ ?_
    ·repeat ((conv=>whnf);refine zc ?_)
     conv=>whnf
     refine z9 (by show _=SV.agg [SV.arr8 16 (zbt _ _ _ 0).1];rw [zuj];rfl) ?_
     repeat ((conv=>whnf);refine zc ?_)
     conv=>whnf
     exact zu (by show _=SV.u64 (zbt _ _ _ 0).2;rw [zuj];rfl)
    ·intro q
     have hi:=q.hi
     have hl:=zlk (zws (zbf x)) (zol (zbf x)) key q.i
     have hm8:(q.i:Int).tmod 8=((q.i%8:Nat):Int):=by rw [Int.tmod_eq_emod_of_nonneg (by omega)];omega
     have hk8:(8*(q.i:Int).tmod 8).toNat=8*(q.i%8):=by omega
     have hI:((16:Int)+(q.i:Int)).toNat=16+q.i:=by omega
     by_cases h4:q.i<16
     ·by_cases h5:8≤q.i
      ·refine za ?_
       rw [hk8,hI]
       conv=>whnf
       refine ⟨⟨q.i+1,h4⟩,[0,1,2],by show (16)-(q.i+1)<(16)-q.i;omega,?_⟩
       repeat ((conv=>whnf);refine zc ?_)
       conv=>whnf
       refine z9 (by show _=SV.agg [SV.arr8 16 (zbt _ _ _ (q.i+1)).1];rw [z5d _ _ _ h5];rfl) ?_
       repeat ((conv=>whnf);refine zc ?_)
       conv=>whnf
       exact zu (by show _=SV.u64 (zbt _ _ _ (q.i+1)).2;rw [z5d _ _ _ h5];rfl)
      ·refine za ?_
       rw [hk8,hI]
       conv=>whnf
       refine ⟨⟨q.i+1,h4⟩,[0,1,2],by show (16)-(q.i+1)<(16)-q.i;omega,?_⟩
       repeat ((conv=>whnf);refine zc ?_)
       conv=>whnf
       refine z9 (by show _=SV.agg [SV.arr8 16 (zbt _ _ _ (q.i+1)).1];rw [z5c _ _ _ h5];rfl) ?_
       repeat ((conv=>whnf);refine zc ?_)
       conv=>whnf
       exact zu (by show _=SV.u64 (zbt _ _ _ (q.i+1)).2;rw [z5c _ _ _ h5];rfl)
     ·have e4:q.i=16:=by omega
      rw [e4] at hl
      have hT:List.take 16 (List.drop (off []) (zbt (zws (zbf x)) (zol (zbf x)) key 16).1)=zh5 x key:=by unfold zh5;exact List.take_of_length_le (Nat.le_of_eq hl)
      rw [e4]
      refine za ?_
      rw [hT]
      conv=>whnf
      exact zm [0] h
   ·exact h.elim
end Go.Sym.Z

namespace Go.Sym.Z
open Go Go.Proofs.Tryz Go.Sym.Lp Go.Sym.Pol Go.Sym.Cha
set_option maxRecDepth 100000
attribute [local irreducible] zsp car zbf zbt zgh zd3 blk
def z9f:List (Nat×List PStep):= []
def z9a:List (Nat×List PStep):= []
def z8t:List (Nat×List PStep):= [(2,[⟨0,[]⟩,⟨1,[]⟩,⟨2,[]⟩,⟨3,[0,1,2]⟩,⟨4,[0,1,2]⟩,⟨5,[0,1,2]⟩,⟨6,[0,1,2,3,4,5]⟩,⟨7,[0,1,2,3,4,5]⟩,⟨8,[0,1,2,3,4,5]⟩,⟨9,[0,1,2,3,4,5,6,7,8]⟩,⟨10,[0,1,2,3,4,5,6,7,8]⟩,⟨11,[0,1,2,3,4,5,6,7,8]⟩,⟨12,[]⟩,⟨13,[]⟩,⟨14,[]⟩])]
def z78:List (Nat×List PStep):= []
def zpc:Spec:=fun args hp K=>match args,hp with
  | [.str key],[]=>Pre (16≤key.length) (K (.ptr 0 0 0 []) [.mk 223 [.arr64 5 (rOf key),.arr64 5 [0,0,0,0,0]]])
  |_,_=>False
theorem z0h:zp prog 141 zpc:=by
  refine zl zal (ze z2b zg) rfl func141 rfl call141 (D:=z9f) ?_ ?_
  ·intro args hp K h
   unfold zpc at h
   split at h
   ·exact Nat.le_of_ble_eq_true rfl
   ·exact h.elim
  ·intro args hp K h
   unfold zpc at h
   split at h
   ·rename_i key
    obtain ⟨hk,h⟩:=zi h
    obtain ⟨b,hb⟩: ∃b,b=key.take (Int.toNat 16):=⟨_,rfl⟩
    have hbl:b.length=16:=by rw [hb,List.length_take];show min 16 _=16;omega
    refine za ?_
    refine yf fun tl=>?_
    refine za ?_
    rw [←hb]
    refine zx (Ix (4)) (fun q=>⟨[(0,.str key),(3,.sl 0 0 0 [] b.length (b.length+tl.length)),(4,.int (3+4*(q.i:Int)))],[.mk 5 [.arr8 (b.length+tl.length) (cA b q.i++tl)]]⟩) (fun q=>(4)-q.i) ⟨0,Nat.zero_le _⟩ [0] ?_ ?_
    ·exact zo
    ·intro q
     have hi:=q.hi
     have hl:=zyi b q.i
     have hI:((3:Int)+4*(q.i:Int)).toNat=3+4*q.i:=by omega
     by_cases h4:q.i<4
     ·refine za ?_
      refine ⟨⟨q.i+1,h4⟩,[0],by show (4)-(q.i+1)<(4)-q.i;omega,?_⟩
      repeat ((conv=>whnf);refine zc ?_)
      conv=>whnf
      refine z9 (congrArg (fun x=>SV.agg [SV.arr8 (b.length+tl.length) x]) ?hv) ?_
      case hv=>
        show (cA b q.i++tl).set ((3:Int)+4*(q.i:Int)).toNat ((cA b q.i++tl).getD ((3:Int)+4*(q.i:Int)).toNat 0&&&UInt8.ofNat 15)=cA b (q.i+1)++tl
        rw [hI,zot (by omega)]
        simp only [cA]
      exact zo
     ·have e4:q.i=4:=by omega
      rw [e4] at hl
      rw [e4]
      refine za ?_
      refine zx (Ix (3)) (fun r=>⟨[(0,.str key),(3,.sl 0 0 0 [] b.length (b.length+tl.length)),(5,.int (4+4*(r.i:Int)))],[.mk 5 [.arr8 (b.length+tl.length) (cC (cA b 4) r.i++tl)]]⟩) (fun r=>(3)-r.i) ⟨0,Nat.zero_le _⟩ [0] ?_ ?_
      ·exact zo
      ·intro r
       have hri:=r.hi
       have hlr:=z1y (cA b 4) r.i
       by_cases h5:r.i<3
       ·have hI:((4:Int)+4*(r.i:Int)).toNat=4+4*r.i:=by omega
        refine za ?_
        refine ⟨⟨r.i+1,h5⟩,[0],by show (3)-(r.i+1)<(3)-r.i;omega,?_⟩
        repeat ((conv=>whnf);refine zc ?_)
        conv=>whnf
        refine z9 (congrArg (fun x=>SV.agg [SV.arr8 (b.length+tl.length) x]) ?hv) ?_
        case hv=>
          show (cC (cA b 4) r.i++tl).set ((4:Int)+4*(r.i:Int)).toNat ((cC (cA b 4) r.i++tl).getD ((4:Int)+4*(r.i:Int)).toNat 0&&&UInt8.ofNat 252)=cC (cA b 4) (r.i+1)++tl
          rw [hI,zot (by omega)]
          simp only [cC]
        exact zo
       ·have e5:r.i=3:=by omega
        rw [e5] at hlr
        have hP:16≤16∧0+16≤(cC (cA b 4) 3++tl).length:=⟨by omega,by rw [List.length_append];omega⟩
        have hT:List.take b.length (List.drop (off []) (cC (cA b 4) 3++tl))=cC (cA b 4) 3:=by
          show List.take b.length (cC (cA b 4) 3++tl)=_
          exact List.take_left' (by omega)
        have hrO:(zgh (cC (cA b 4) 3)).set 4 (g64 (zgh (cC (cA b 4) 3)) 4&&&UInt64.ofNat 16777215)=rOf key:=by rw [hb];rfl
        have hll:=zjb (cC (cA b 4) 3)
        rw [e5]
        refine za ?_
        rw [hT]
        refine za ?_
        refine yu (hp':= [.mk 223 [.arr64 5 (rOf key),.arr64 5 [0,0,0,0,0]]]) [2] h ?_
        repeat ((conv=>whnf);refine zc ?_)
        conv=>whnf
        exact zu (congrArg (fun y=>SV.agg [SV.arr64 5 y,SV.arr64 5 [0,0,0,0,0]]) hrO)
   ·exact h.elim
def z0w:Spec:=fun args hp K=>match args,hp with
  | [.int n],[]=>Pre (0≤n) (K (.str (zdh n.toNat)) [])
  |_,_=>False
theorem z7s:zp prog 143 z0w:=by
  refine zl zal zg rfl func143 rfl call143 (D:=z9a) ?_ ?_
  ·intro args hp K h
   unfold z0w at h
   split at h
   ·exact Nat.le_of_ble_eq_true rfl
   ·exact h.elim
  ·intro args hp K h
   unfold z0w at h
   split at h
   ·rename_i n
    obtain ⟨hn,h⟩:=zi h
    have hm:n.tmod 16=((n.toNat%16:Nat):Int):=by rw [Int.tmod_eq_emod_of_nonneg hn];omega
    have hm2:((16:Int)-n.tmod 16).tmod 16=(((16-n.toNat%16)%16:Nat):Int):=by rw [hm,Int.tmod_eq_emod_of_nonneg (by omega)];omega
    refine za ?_
    rw [hm2,Int.toNat_natCast]
    conv=>whnf
    refine yu (hp':= []) [] h ?_
    repeat ((conv=>whnf);refine zc ?_)
    conv=>whnf
    exact zu (congrArg SV.str (by unfold zdh;show List.take _ (List.drop 0 (List.replicate _ 0))=_;rw [List.drop_zero];exact List.take_of_length_le (by rw [List.length_replicate];exact Nat.le_refl _)))
   ·exact h.elim
theorem zhy (v:UInt8):List.take 1 (List.drop (off []) ((List.replicate 1 0).set (off [(0,ty5.sz)]) v))= [v]:=rfl
def zo4:Spec:=fun args hp K=>match args,hp with
  | [.int x,.int k],[]=>Pre (k=4∨k=2) (K (.str (if k=4 then [UInt8.ofInt (x/ 2^24),UInt8.ofInt (x/ 2^16),UInt8.ofInt (x/ 2^8),UInt8.ofInt x] else [UInt8.ofInt (x/ 2^8),UInt8.ofInt x])) [])
  |_,_=>False
theorem zk8:zp prog 87 zo4:=by
  refine zl zal zg rfl func87 rfl call87 (D:=z78) ?_ ?_
  ·intro args hp K h
   unfold zo4 at h
   split at h
   ·exact Nat.le_of_ble_eq_true rfl
   ·exact h.elim
  ·intro args hp K h
   unfold zo4 at h
   split at h
   ·rename_i x k
    obtain ⟨hk,h⟩:=zi h
    rcases hk with rfl|rfl
    ·rw [if_pos rfl] at h
     refine za ?_
     refine yf fun t1=>?_
     rw [zhy]
     refine za ?_
     rw [zhy]
     refine zv ⟨by simp,by simp<;>omega,by simp<;>omega⟩ ?_
     refine za ?_
     refine yf fun t2=>?_
     refine za ?_
     rw [zhy]
     refine yf fun t3=>?_
     refine za ?_
     rw [zhy]
     refine yf fun t4=>?_
     refine za ?_
     exact zm [] h
    ·rw [if_neg (by decide)] at h
     refine za ?_
     refine yf fun t1=>?_
     rw [zhy]
     refine za ?_
     rw [zhy]
     refine zv ⟨by simp,by simp<;>omega,by simp<;>omega⟩ ?_
     refine za ?_
     refine yf fun t2=>?_
     refine za ?_
     exact zm [] h
   ·exact h.elim
def zp5:Spec:=fun args hp K=>match args,hp with
  | [.int n],[]=>Pre (0≤n) (K (.str (zih n.toNat)) [])
  |_,_=>False
theorem z2d:zp prog 144 zp5:=by
  refine zl zal (ze zk8 zg) rfl func144 rfl call144 (D:=z8t) ?_ ?_
  ·intro args hp K h
   unfold zp5 at h
   split at h
   ·exact Nat.le_of_ble_eq_true rfl
   ·exact h.elim
  ·intro args hp K h
   unfold zp5 at h
   split at h
   ·rename_i n
    obtain ⟨hn,h⟩:=zi h
    obtain ⟨k,rfl⟩:=Int.eq_ofNat_of_zero_le hn
    rw [Int.toNat_natCast] at h
    refine za ?_
    refine yf fun tl=>?_
    rw [if_pos rfl]
    refine za ?_
    exact zm [] h
   ·exact h.elim
end Go.Sym.Z

namespace Go.Sym.Z
open Go Go.Proofs.Tryz Go.Sym.Lp Go.Sym.Cha Go.Sym.Sha Go.Sym.Hk
set_option maxRecDepth 100000
attribute [local irreducible] xx KC HB zbl wrH wrR zgq zdr bk kN pdX dgF mP zam
def z91:List (Nat×List PStep):= []
def z7z:List (Nat×List PStep):= []
def yb4:List (Nat×List PStep):= []
def z9g:List (Nat×List PStep):= []
def z9u:List (Nat×List PStep):= []
def z67:Spec:=fun args hp K=>match args,hp with
  | [.int x,.int 1],[]=>K (.str [UInt8.ofInt x]) []
  |_,_=>False
theorem z6f:zp prog 87 z67:=by
  refine zl zcp zg rfl func87 rfl call87 (D:=z78) ?_ ?_
  ·intro args hp K h
   unfold z67 at h
   split at h
   ·exact Nat.le_of_ble_eq_true rfl
   ·exact h.elim
  ·intro args hp K h
   unfold z67 at h
   split at h
   ·rename_i x
    refine za ?_
    refine yf fun t1=>?_
    rw [zhy]
    refine za ?_
    exact zm [] h
   ·exact h.elim
def zqy:Spec:=fun args hp K=>match args,hp with
  | [.str s,.int 1],[]=>Pre (s.length≤255) (K (.tup [.str (UInt8.ofInt (s.length:Int) ::s),.int 0]) [])
  |_,_=>False
theorem zyv:zp prog 132 zqy:=by
  refine zl zcp (ze z6f zg) rfl func132 rfl call132 (D:=z91) ?_ ?_
  ·intro args hp K h
   unfold zqy at h
   split at h
   ·exact Nat.le_of_ble_eq_true rfl
   ·exact h.elim
  ·intro args hp K h
   unfold zqy at h
   split at h
   ·rename_i s
    obtain ⟨hs,h⟩:=zi h
    have hd:decide ((s.length:Int)/ 2^(8*(1:Int)).toNat=0)=true:=decide_eq_true (by show (s.length:Int)/ 256=0;omega)
    repeat ((conv=>whnf);first|refine zy ?_|refine zk ?_|refine zj ?_|refine zc ?_|refine zv (by first|exact hd|(rw [hd];rfl)) ?_|refine zr (by first|exact hd|(rw [hd];rfl)) ?_|refine zq (by first|exact hd|(rw [hd];rfl)) ?_)
    conv=>whnf
    exact zm [] h
   ·exact h.elim
def zjr (s:List UInt8) (a:Nat):Nat→Nat
  |0=>0
  |i+1=>256*zjr s a i+(s.getD (a+i) 0).toNat
def zqi:Spec:=fun args hp K=>match args,hp with
  | [.str s,.int a,.int 2],[]=>Pre (0≤a∧a+2≤(s.length:Int)∧s.length<9223372036854775808) (K (.tup [.int (256*((s.getD a.toNat 0).toNat:Int)+((s.getD (a.toNat+1) 0).toNat:Int)),.int (a+2),.int 0]) [])
  |_,_=>False
theorem z2f:zp prog 120 zqi:=by
  refine zl zcp zg rfl func120 rfl call120 (D:=z7z) ?_ ?_
  ·intro args hp K h
   unfold zqi at h
   split at h
   ·exact Nat.le_of_ble_eq_true rfl
   ·exact h.elim
  ·intro args hp K h
   unfold zqi at h
   split at h
   ·rename_i s a
    obtain ⟨⟨ha,hl,hs⟩,h⟩:=zi h
    refine za ?_
    refine zx (Ix (2)) (fun q=>⟨[(0,.str s),(1,.int a),(2,.int 2),(9,.int (zjr s a.toNat q.i:Nat)),(27,.int 2),(28,.int q.i)],[]⟩) (fun q=>(2)-q.i) ⟨0,Nat.zero_le _⟩ [] ?_ ?_
    ·exact zo
    ·intro q
     have hi:=q.hi
     have hI:(a+(q.i:Int)).toNat=a.toNat+q.i:=by omega
     by_cases h4:q.i<2
     ·have hb:zjr s a.toNat q.i<256:=by
        have:q.i=0∨q.i=1:=by omega
        rcases this with e|e<;>rw [e]
        ·exact Nat.zero_lt_succ _
        ·simp only [zjr];rw [Nat.mul_zero,Nat.zero_add];exact UInt8.toNat_lt _
      have hsh:(UInt64.ofNat 8).toNat<64∧yo (((zjr s a.toNat q.i:Nat):Int)*2^(UInt64.ofNat 8).toNat):=⟨by decide,by show yo (((zjr s a.toNat q.i:Nat):Int)*256);unfold yo;omega⟩
      have hor:za5 .or (((zjr s a.toNat q.i:Nat):Int)*2^(UInt64.ofNat 8).toNat) (((s.getD (a.toNat+q.i) 0).toNat:Nat):Int)=((zjr s a.toNat (q.i+1):Nat):Int):=by
        have hc:=UInt8.toNat_lt (s.getD (a.toNat+q.i) 0)
        have e:=Nat.two_pow_add_eq_or_of_lt (i:=8) hc (zjr s a.toNat q.i)
        have e2:(((zjr s a.toNat q.i:Nat):Int)*2^(UInt64.ofNat 8).toNat)=((2^8*zjr s a.toNat q.i:Nat):Int):=by show _*(256:Int)=((256*_:Nat):Int);omega
        rw [e2,Go.Sym.Ib.ibits_or (by omega) (by omega) (by rw [←e];omega),←e]
        rfl
      refine za ?_
      conv=>whnf
      refine ⟨⟨q.i+1,h4⟩,[],by show (2)-(q.i+1)<(2)-q.i;omega,?_⟩
      repeat ((conv=>whnf);refine zc ?_)
      conv=>whnf
      exact zu (congrArg SV.int (by rw [←hor,←hI]))
     ·have e4:q.i=2:=by omega
      have e5:((zjr s a.toNat 2:Nat):Int)=256*((s.getD a.toNat 0).toNat:Int)+((s.getD (a.toNat+1) 0).toNat:Int):=by
        simp only [zjr];rw [Nat.mul_zero,Nat.zero_add,Nat.add_zero];omega
      rw [←e5] at h
      rw [e4]
      refine za ?_
      exact zm [] h
   ·exact h.elim
def z60:Spec:=fun args hp K=>match args,hp with
  | [.str s,.int a],[]=>Pre (0≤a∧a+2≤(s.length:Int)∧s.length<9223372036854775808) (K (.tup [.int (256*((s.getD a.toNat 0).toNat:Int)+((s.getD (a.toNat+1) 0).toNat:Int)),.int (a+2),.int 0]) [])
  |_,_=>False
theorem z8s:zp prog 94 z60:=by
  refine zl zcp (ze z2f zg) rfl func94 rfl call94 (D:=yb4) ?_ ?_
  ·intro args hp K h
   unfold z60 at h
   split at h
   ·exact Nat.le_of_ble_eq_true rfl
   ·exact h.elim
  ·intro args hp K h
   unfold z60 at h
   split at h
   ·rename_i s a
    obtain ⟨hp,h⟩:=zi h
    refine za ?_
    exact zm [] h
   ·exact h.elim
def zoy:Spec:=fun args hp K=>match args,hp with
  | [.int n,.str key,.str info,.int size],[]=>Pre ((n=256∨n=384)∧key.length≤140737488351232∧info.length≤1000∧0≤size∧size≤1000) (K (.tup [.str (exF n key info size.toNat),.int 0]) [])
  |_,_=>False
set_option maxHeartbeats 4000000 in
theorem z1v:zp prog 133 zoy:=by
  refine zl zcp (ze z1g (ze z3m zg)) rfl func133 rfl call133 (D:=z9g) ?_ ?_
  ·intro args hp K h
   unfold zoy at h
   split at h
   ·exact Nat.le_of_ble_eq_true rfl
   ·exact h.elim
  ·intro args hp K h
   unfold zoy at h
   split at h
   ·rename_i n key info size
    obtain ⟨⟨hn,hk,hi,hs0,hs⟩,h⟩:=zi h
    obtain ⟨z,rfl⟩:=Int.eq_ofNat_of_zero_le hs0
    rw [Int.toNat_natCast] at h
    have hd:=decide_eq_true hn
    have h8:(8:Int)≠0∧yo ((255*n).tdiv 8):=by rcases hn with rfl|rfl<;>exact ⟨by decide,by unfold yo;decide⟩
    have hmx:8160≤(255*n).tdiv 8:=by rcases hn with rfl|rfl<;>decide
    have hfit:yo (255*n):=by rcases hn with rfl|rfl<;>(unfold yo;decide)
    have hm1:=z15 n key 54
    have hm2:=z15 n key 92
    repeat ((conv=>whnf);first|refine zy ?_|refine zk ?_|refine zj ?_|refine zc ?_|refine zv (by first|exact hd) ?_|refine zr (by first|exact hd) ?_|refine zq (by first|exact hd) ?_)
    conv=>whnf
    obtain ⟨d,hdl,hd0⟩: ∃d,dl n=d∧(d=32∨d=48):=⟨_,rfl,by unfold dl;split<;>simp⟩
    have hF:exF n key info z=(zam n key info ((z+d-1)/ d)).1.take z:=by unfold exF;rw [hdl]
    rw [hF] at h
    refine zx (Ix (((z+d-1)/ d))) (fun q=>⟨[(0,.int n),(2,.str info),(3,.int z),(10,.ptr 2 0 0 []),(12,.str (zam n key info q.i).1),(13,.str (zam n key info q.i).2),(14,.int ((q.i:Int)+1))],[.mk 248 [.int n,.arr64 8 (mP n key 54),.arr64 80 KC,.nilsl,.u64 (UInt64.ofNat (bk n))],.mk 248 [.int n,.arr64 8 (mP n key 92),.arr64 80 KC,.nilsl,.u64 (UInt64.ofNat (bk n))],.mk 209 [.ptr 0 0 0 [],.ptr 1 0 0 []]]⟩) (fun q=>(((z+d-1)/ d))-q.i) ⟨0,Nat.zero_le _⟩ [0,1,2] ?_ ?_
    ·repeat ((conv=>whnf);refine zc ?_)
     conv=>whnf
     refine z9 (congrArg (fun x:List UInt8×List UInt8=>SV.str x.1) (show (([],[]):List UInt8×List UInt8)=zam n key info 0 by unfold zam;rfl)) ?_
     repeat ((conv=>whnf);refine zc ?_)
     conv=>whnf
     exact zu (congrArg (fun x:List UInt8×List UInt8=>SV.str x.2) (show (([],[]):List UInt8×List UInt8)=zam n key info 0 by unfold zam;rfl))
    ·intro q
     have hqi:=q.hi
     obtain ⟨hel,hel2⟩:=zlf hn key info q.i
     rw [hdl] at hel
     rcases hd0 with hd0|hd0
     ·subst hd0
      by_cases h4:q.i<(z+32-1)/ 32
      ·have hXl:((zam n key info q.i).2++info++List.take 1 (List.drop (off []) ((List.replicate 1 0).set (off [(0,ty5.sz)]) (UInt8.ofInt ((q.i:Int)+1))))).length≤1073741824:=by rw [zhy,List.length_append,List.length_append];show _+_+1≤_;omega
       have hpm:(n=256∨n=384)∧n=n∧248=248∧248=248∧KC=KC∧KC=KC∧UInt64.ofNat (bk n)=UInt64.ofNat (bk n)∧UInt64.ofNat (bk n)=UInt64.ofNat (bk n)∧(mP n key 54).length=8∧(mP n key 92).length=8∧((zam n key info q.i).2++info++List.take 1 (List.drop (off []) ((List.replicate 1 0).set (off [(0,ty5.sz)]) (UInt8.ofInt ((q.i:Int)+1))))).length≤1073741824:=⟨hn,rfl,rfl,rfl,rfl,rfl,rfl,rfl,hm1,hm2,hXl⟩
       have hml:=zov hn (mP n key 92) (dgF n (mP n key 54) ((zam n key info q.i).2++info++List.take 1 (List.drop (off []) ((List.replicate 1 0).set (off [(0,ty5.sz)]) (UInt8.ofInt ((q.i:Int)+1))))))
       rw [hdl] at hml
       have hE1:(zam n key info q.i).1++dgF n (mP n key 92) (dgF n (mP n key 54) ((zam n key info q.i).2++info++List.take 1 (List.drop (off []) ((List.replicate 1 0).set (off [(0,ty5.sz)]) (UInt8.ofInt ((q.i:Int)+1))))))=(zam n key info (q.i+1)).1:=by simp only [zam];rw [zhy];rfl
       have hE2:dgF n (mP n key 92) (dgF n (mP n key 54) ((zam n key info q.i).2++info++List.take 1 (List.drop (off []) ((List.replicate 1 0).set (off [(0,ty5.sz)]) (UInt8.ofInt ((q.i:Int)+1))))))=(zam n key info (q.i+1)).2:=by simp only [zam];rw [zhy];rfl
       refine za ?_
       conv=>whnf
       refine ⟨⟨q.i+1,h4⟩,[0,1,2],by show (((z+32-1)/ 32))-(q.i+1)<(((z+32-1)/ 32))-q.i;omega,?_⟩
       repeat ((conv=>whnf);refine zc ?_)
       conv=>whnf
       refine z9 (congrArg SV.str hE1) ?_
       repeat ((conv=>whnf);refine zc ?_)
       conv=>whnf
       exact zu (congrArg SV.str hE2)
      ·have e4:q.i=(z+32-1)/ 32:=by omega
       rw [←e4] at h
       refine za ?_
       exact zm [] h
     ·subst hd0
      by_cases h4:q.i<(z+48-1)/ 48
      ·have hXl:((zam n key info q.i).2++info++List.take 1 (List.drop (off []) ((List.replicate 1 0).set (off [(0,ty5.sz)]) (UInt8.ofInt ((q.i:Int)+1))))).length≤1073741824:=by rw [zhy,List.length_append,List.length_append];show _+_+1≤_;omega
       have hpm:(n=256∨n=384)∧n=n∧248=248∧248=248∧KC=KC∧KC=KC∧UInt64.ofNat (bk n)=UInt64.ofNat (bk n)∧UInt64.ofNat (bk n)=UInt64.ofNat (bk n)∧(mP n key 54).length=8∧(mP n key 92).length=8∧((zam n key info q.i).2++info++List.take 1 (List.drop (off []) ((List.replicate 1 0).set (off [(0,ty5.sz)]) (UInt8.ofInt ((q.i:Int)+1))))).length≤1073741824:=⟨hn,rfl,rfl,rfl,rfl,rfl,rfl,rfl,hm1,hm2,hXl⟩
       have hml:=zov hn (mP n key 92) (dgF n (mP n key 54) ((zam n key info q.i).2++info++List.take 1 (List.drop (off []) ((List.replicate 1 0).set (off [(0,ty5.sz)]) (UInt8.ofInt ((q.i:Int)+1))))))
       rw [hdl] at hml
       have hE1:(zam n key info q.i).1++dgF n (mP n key 92) (dgF n (mP n key 54) ((zam n key info q.i).2++info++List.take 1 (List.drop (off []) ((List.replicate 1 0).set (off [(0,ty5.sz)]) (UInt8.ofInt ((q.i:Int)+1))))))=(zam n key info (q.i+1)).1:=by simp only [zam];rw [zhy];rfl
       have hE2:dgF n (mP n key 92) (dgF n (mP n key 54) ((zam n key info q.i).2++info++List.take 1 (List.drop (off []) ((List.replicate 1 0).set (off [(0,ty5.sz)]) (UInt8.ofInt ((q.i:Int)+1))))))=(zam n key info (q.i+1)).2:=by simp only [zam];rw [zhy];rfl
       refine za ?_
       conv=>whnf
       refine ⟨⟨q.i+1,h4⟩,[0,1,2],by show (((z+48-1)/ 48))-(q.i+1)<(((z+48-1)/ 48))-q.i;omega,?_⟩
       repeat ((conv=>whnf);refine zc ?_)
       conv=>whnf
       refine z9 (congrArg SV.str hE1) ?_
       repeat ((conv=>whnf);refine zc ?_)
       conv=>whnf
       exact zu (congrArg SV.str hE2)
      ·have e4:q.i=(z+48-1)/ 48:=by omega
       rw [←e4] at h
       refine za ?_
       exact zm [] h
   ·exact h.elim
def zaf (n:Int) (key label ctx:List UInt8) (size:Nat):List UInt8:=
  exF n key ([UInt8.ofInt ((size:Int)/ 2^8),UInt8.ofInt (size:Int)]++(UInt8.ofInt ((([116,108,115,49,51,32]++label:List UInt8).length:Nat):Int) ::([116,108,115,49,51,32]++label))++(UInt8.ofInt (ctx.length:Int) ::ctx)) size
theorem zsk {n:Int} (hn:n=256∨n=384) (key label ctx:List UInt8) (size:Nat):(zaf n key label ctx size).length=size:=z3z hn _ _ _
def zt3:Spec:=fun args hp K=>match args,hp with
  | [.int n,.str key,.str label,.str ctx,.int size],[]=>Pre ((n=256∨n=384)∧key.length≤140737488351232∧label.length≤100∧ctx.length≤255∧0≤size∧size≤1000) (K (.tup [.str (zaf n key label ctx size.toNat),.int 0]) [])
  |_,_=>False
theorem z4n:zp prog 114 zt3:=by
  refine zl zcp (ze zk8 (ze zyv (ze z1v zg))) rfl func114 rfl call114 (D:=z9u) ?_ ?_
  ·intro args hp K h
   unfold zt3 at h
   split at h
   ·exact Nat.le_of_ble_eq_true rfl
   ·exact h.elim
  ·intro args hp K h
   unfold zt3 at h
   split at h
   ·rename_i n key label ctx size
    obtain ⟨⟨hn,hk,hl,hc,hs0,hs⟩,h⟩:=zi h
    obtain ⟨z,rfl⟩:=Int.eq_ofNat_of_zero_le hs0
    rw [Int.toNat_natCast] at h
    have hIl:([UInt8.ofInt ((z:Int)/ 2^8),UInt8.ofInt (z:Int)]++(UInt8.ofInt ((([116,108,115,49,51,32]++label:List UInt8).length:Nat):Int) ::([116,108,115,49,51,32]++label))++(UInt8.ofInt (ctx.length:Int) ::ctx)).length≤1000:=by simp only [List.length_append,List.length_cons,List.length_nil];omega
    have hpx:(n=256∨n=384)∧key.length≤140737488351232∧([UInt8.ofInt ((z:Int)/ 2^8),UInt8.ofInt (z:Int)]++(UInt8.ofInt ((([116,108,115,49,51,32]++label:List UInt8).length:Nat):Int) ::([116,108,115,49,51,32]++label))++(UInt8.ofInt (ctx.length:Int) ::ctx)).length≤1000∧0≤(z:Int)∧(z:Int)≤1000:=⟨hn,hk,hIl,hs0,hs⟩
    unfold zaf at h
    have hll:(([116,108,115,49,51,32]++label:List UInt8)).length≤255:=by simp only [List.length_append,List.length_cons,List.length_nil];omega
    refine za ?_
    rw [if_neg (by decide)]
    refine za ?_
    conv=>whnf
    exact zm [] h
   ·exact h.elim
end Go.Sym.Z
