/-
  Contracts of functions of the program, each said of symbolic values, and plain laws; no condition beyond each statement's own.
-/
import Derived.Test.YtmmpgjcpielefaaGreatGLStreamTwins25
import Derived.Test.YtmmpgjcpielefaaGreatGLStreamTwins21
set_option linter.unusedSimpArgs false
set_option linter.unusedVariables false
namespace Go.Sym.Z
open Go Go.Proofs.Tryz Go.Sym.Lp Go.Sym.Pol
set_option maxRecDepth 100000
attribute [local irreducible] zhs zat zdo
def z94:List (Nat×List PStep):= [(4,[⟨0,[]⟩,⟨1,[0]⟩,⟨2,[0]⟩,⟨3,[1,2]⟩,⟨4,[]⟩,⟨5,[]⟩,⟨6,[]⟩,⟨7,[1,2,3,4,5,6]⟩,⟨8,[]⟩,⟨9,[]⟩]),(6,[⟨0,[]⟩,⟨1,[]⟩,⟨2,[]⟩,⟨3,[]⟩,⟨4,[0,1,2,3]⟩,⟨5,[0,1,2,3]⟩,⟨6,[]⟩,⟨7,[1,2,3,4,5,6]⟩,⟨8,[]⟩,⟨9,[]⟩]),(7,[⟨0,[]⟩,⟨1,[0]⟩,⟨2,[0]⟩,⟨3,[0]⟩,⟨4,[1,2,3]⟩,⟨5,[]⟩,⟨6,[]⟩,⟨7,[0,1,2,3,4,5,6]⟩,⟨8,[]⟩,⟨9,[1,2,3,4,5,6,7,8]⟩,⟨10,[]⟩,⟨11,[]⟩])]
def z9z:List (Nat×List PStep):= [(7,[⟨0,[]⟩,⟨1,[0]⟩,⟨2,[1]⟩,⟨3,[]⟩,⟨4,[]⟩,⟨5,[0,1,2,3,4]⟩,⟨6,[0,1,2,3,4,5]⟩,⟨7,[0,1,2,3,4,6]⟩,⟨8,[0,1,2,3,4]⟩,⟨9,[0,1,2,3,4]⟩,⟨10,[]⟩,⟨11,[]⟩])]
def yah:List (Nat×List PStep):= [(5,[⟨0,[]⟩,⟨1,[]⟩,⟨2,[]⟩,⟨3,[]⟩,⟨4,[0,1,2,3]⟩,⟨5,[0,1,2,3]⟩,⟨6,[0,1,2,3,4,5]⟩,⟨7,[0,1,2,3,4,5]⟩,⟨8,[0,1,2,3,4,5]⟩,⟨9,[0,1,2,3]⟩,⟨10,[]⟩,⟨11,[]⟩,⟨12,[]⟩]),(7,[⟨0,[]⟩,⟨1,[]⟩,⟨2,[]⟩,⟨3,[]⟩,⟨4,[]⟩,⟨5,[0,1,2,3,4]⟩,⟨6,[0,1,2,3,4]⟩,⟨7,[0,1,2,3,4]⟩,⟨8,[0,1,2,3,4]⟩,⟨9,[0,1,2,3,4]⟩,⟨10,[]⟩,⟨11,[]⟩,⟨12,[]⟩])]
def ya5:List (Nat×List PStep):= [(4,[⟨0,[]⟩,⟨1,[0]⟩,⟨2,[1]⟩,⟨3,[1]⟩,⟨4,[]⟩,⟨5,[]⟩,⟨6,[0,1,2,3,4,5]⟩,⟨7,[0,1,2,3,4,5]⟩,⟨8,[0,1,2,3,4,5]⟩,⟨9,[]⟩,⟨10,[1,2,3,4,5,6,7,8,9]⟩,⟨11,[1,2,3,4,5,6,7,8,9]⟩,⟨12,[]⟩,⟨13,[]⟩]),(6,[⟨0,[]⟩,⟨1,[]⟩,⟨2,[]⟩,⟨3,[0,1,2]⟩,⟨4,[0,1,2]⟩,⟨5,[0,1,2]⟩,⟨6,[]⟩])]
def z9d:List (Nat×TyI):= [(3,ty3),(4,ty4),(5,ty5),(9,ty9),(48,zcp),(99,x3),(51,zco),(168,zc9),(220,zgi),(238,zfm),(223,zf5),(193,zfb),(236,zgg),(167,ze5)]
theorem x0: ∀t i,y3 z9d t=some i→yp prog t i:=(zc ty3_ok (zc zbm (zc zbe (zc ty9_ok (zc zak (zc za7 (zc zam (zc zh9 (zc zzu (zc zzq (zc z2b (zc z3h (zc z1p (zc zzw x1))))))))))))))
def zuh:Spec:=fun args hp K=>match args,hp with
  | [.ptr 0 0 0 []],[.mk t [.arr64 5 x]]=>Pre (x.length=5) (K (.tup []) [.mk t [.arr64 5 (car x)]])
  |_,_=>False
theorem zwl:zp prog 178 zuh:=by
  refine zn x0 zl rfl func178 rfl call178 (D:=z94) ?_ ?_
  ·intro args hp K h
   unfold zuh at h
   split at h
   ·exact Nat.le_of_ble_eq_true rfl
   ·exact h.elim
  ·intro args hp K h
   unfold zuh at h
   split at h
   ·rename_i t x
    obtain ⟨hx,h⟩:=zm h
    refine za ?_
    refine zz (Ix (6)) (fun q=>⟨[(0,.ptr 0 0 0 []),(4,.int q.i)],[.mk t [.arr64 5 (zat x q.i)]]⟩) (fun q=>(6)-q.i) ⟨0,Nat.zero_le _⟩ [0] ?_ ?_
    ·repeat ((conv=>whnf);refine zb ?_)
     conv=>whnf
     exact zx (congrArg (fun x=>SV.agg [SV.arr64 5 x]) (show x=zat x 0 by unfold zat;rfl))
    ·intro q
     have hi:=q.hi
     have hl:=zjo x q.i
     have hm:(q.i:Int).tmod 5=((q.i%5:Nat):Int):=by rw [Int.tmod_eq_emod_of_nonneg (by omega)];omega
     have hI:((q.i:Int).tmod 5).toNat=q.i%5:=by omega
     have hJ:((q.i:Int).tmod 5+1).toNat=q.i%5+1:=by omega
     by_cases h4:q.i<6
     ·by_cases h5:q.i%5=4
      ·refine za ?_
       rw [hI]
       conv=>whnf
       refine ⟨⟨q.i+1,h4⟩,[0],by show (6)-(q.i+1)<(6)-q.i;omega,?_⟩
       repeat ((conv=>whnf);refine zb ?_)
       conv=>whnf
       exact zx (congrArg (fun x=>SV.agg [SV.arr64 5 x]) (zs3 x q.i h5).symm)
      ·refine za ?_
       rw [hI,hJ]
       conv=>whnf
       refine ⟨⟨q.i+1,h4⟩,[0],by show (6)-(q.i+1)<(6)-q.i;omega,?_⟩
       repeat ((conv=>whnf);refine zb ?_)
       conv=>whnf
       exact zx (congrArg (fun x=>SV.agg [SV.arr64 5 x]) (zte x q.i h5).symm)
     ·have e4:q.i=6:=by omega
      rw [e4,show zat x 6=car x by unfold car;rfl]
      refine za ?_
      exact zh [0] h
   ·exact h.elim
def z0p:Spec:=fun args hp K=>match args,hp with
  | [.sl 0 0 0 o n c],[.mk t [.arr8 m l]]=>Pre (n≤16∧off o+n≤l.length) (K (.arr64 5 (ze8 ((l.drop (off o)).take n))) [.mk t [.arr8 m l]])
  |_,_=>False
theorem zzn:zp prog 163 z0p:=by
  refine zn x0 zl rfl func163 rfl call163 (D:=yah) ?_ ?_
  ·intro args hp K h
   unfold z0p at h
   split at h
   ·exact Nat.le_of_ble_eq_true rfl
   ·exact h.elim
  ·intro args hp K h
   unfold z0p at h
   split at h
   ·rename_i o n c t m l
    obtain ⟨⟨hn,hl⟩,h⟩:=zm h
    have hB:((l.drop (off o)).take n).length=n:=by rw [List.length_take,List.length_drop];omega
    refine za ?_
    refine zz (Ix (n)) (fun q=>⟨[(0,.sl 0 0 0 o n c),(2,.ptr 1 0 0 []),(3,.ptr 2 0 0 []),(6,.sl 0 0 0 o n c),(7,.int n),(8,.int q.i)],[.mk t [.arr8 m l],.mk 220 [.arr64 5 [0,0,0,0,0]],.mk 236 [.arr64 3 (zhs ((l.drop (off o)).take n) q.i)]]⟩) (fun q=>(n)-q.i) ⟨0,Nat.zero_le _⟩ [0,1,2] ?_ ?_
    ·repeat ((conv=>whnf);refine zb ?_)
     conv=>whnf
     exact zx (congrArg (fun x=>SV.agg [SV.arr64 3 x]) (show [0,0,0]=zhs _ 0 by unfold zhs;rfl))
    ·intro q
     have hi:=q.hi
     have hw:=zrs ((l.drop (off o)).take n) q.i
     have hI:((q.i:Int)).toNat=q.i:=Int.toNat_natCast _
     have hd8:(q.i:Int).tdiv 8=((q.i/ 8:Nat):Int):=by rw [Int.tdiv_eq_ediv_of_nonneg (by omega)];omega
     have hm8:(q.i:Int).tmod 8=((q.i%8:Nat):Int):=by rw [Int.tmod_eq_emod_of_nonneg (by omega)];omega
     have hpd:(8:Int)≠0∧yn ((q.i:Int).tdiv 8):=⟨by decide,by unfold yn;omega⟩
     by_cases h4:q.i<n
     ·refine za ?_
      refine ⟨⟨q.i+1,h4⟩,[0,1,2],by show (n)-(q.i+1)<(n)-q.i;omega,?_⟩
      repeat ((conv=>whnf);refine zb ?_)
      conv=>whnf
      refine yc (congrArg (fun x=>SV.agg [SV.arr64 3 x]) ?hv) ?_
      case hv=>
        show (zhs _ q.i).set ((q.i:Int).tdiv 8).toNat (g64 (zhs _ q.i) ((q.i:Int).tdiv 8).toNat|||(l.getD (off (yb o q.i 1)) 0).toUInt64<<<UInt64.ofNat (8*(q.i:Int).tmod 8).toNat)=zhs _ (q.i+1)
        rw [zy,hd8,hm8,Int.toNat_natCast,show (8*((q.i%8:Nat):Int)).toNat=8*(q.i%8) by omega,Nat.mul_one,←zio (n:=n) h4]
        simp only [zhs]
      exact zu
     ·have e4:q.i=n:=by omega
      have hn8:(n:Int).tdiv 8=((n/ 8:Nat):Int):=by rw [Int.tdiv_eq_ediv_of_nonneg (by omega)];omega
      have hk8:(n:Int).tmod 8=((n%8:Nat):Int):=by rw [Int.tmod_eq_emod_of_nonneg (by omega)];omega
      have hpn:(8:Int)≠0∧yn ((n:Int).tdiv 8):=⟨by decide,by unfold yn;omega⟩
      rw [e4] at hw
      rw [e4]
      have hnn:((n:Int).tdiv 8).toNat=n/ 8:=by omega
      have hnk:(8*(n:Int).tmod 8).toNat=8*(n%8):=by omega
      refine za ?_
      rw [hnn,hnk]
      conv=>whnf
      refine yv (hp':= [.mk t [.arr8 m l]]) [0] h ?_
      repeat ((conv=>whnf);refine zb ?_)
      conv=>whnf
      exact zx (congrArg (SV.arr64 5) (show _=ze8 ((l.drop (off o)).take n) by unfold ze8 ldW;rw [hB];rfl))
   ·exact h.elim
def zsz:Spec:=fun args hp K=>match args,hp with
  | [.ptr 0 1 5 [],.ptr 0 0 0 []],[.mk t [.arr64 5 r,.arr64 5 x]]=>Pre (r.length=5∧x.length=5) (K (.tup []) [.mk t [.arr64 5 r,.arr64 5 (zse x r)]])
  |_,_=>False
theorem z46:zp prog 177 zsz:=by
  refine zn x0 (zd zwl zl) rfl func177 rfl call177 (D:=z9z) ?_ ?_
  ·intro args hp K h
   unfold zsz at h
   split at h
   ·exact Nat.le_of_ble_eq_true rfl
   ·exact h.elim
  ·intro args hp K h
   unfold zsz at h
   split at h
   ·rename_i t r x
    obtain ⟨⟨hr,hx⟩,h⟩:=zm h
    refine za ?_
    refine zz (Ix (5)) (fun q=>⟨[(0,.ptr 0 1 5 []),(1,.ptr 0 0 0 []),(4,.ptr 1 0 0 []),(8,.int q.i)],[.mk t [.arr64 5 r,.arr64 5 x],.mk 220 [.arr64 5 (zdo x r (5*q.i))]]⟩) (fun q=>(5)-q.i) ⟨0,Nat.zero_le _⟩ [0,1] ?_ ?_
    ·repeat ((conv=>whnf);refine zb ?_)
     conv=>whnf
     exact zx (congrArg (fun x=>SV.agg [SV.arr64 5 x]) (show [0,0,0,0,0]=zdo x r 0 by unfold zdo;rfl))
    ·intro q
     have hi:=q.hi
     by_cases h4:q.i<5
     ·refine za ?_
      refine zz (Ix (5)) (fun k=>⟨[(0,.ptr 0 1 5 []),(1,.ptr 0 0 0 []),(4,.ptr 1 0 0 []),(8,.int q.i),(5,.int q.i),(11,.int k.i)],[.mk t [.arr64 5 r,.arr64 5 x],.mk 220 [.arr64 5 (zdo x r (5*q.i+k.i))]]⟩) (fun k=>(5)-k.i) ⟨0,Nat.zero_le _⟩ [0,1] ?_ ?_
      ·exact zu
      ·intro k
       have hki:=k.hi
       have hl:=zh6 x r (5*q.i+k.i)
       have hm:((q.i:Int)+(k.i:Int)).tmod 5=(((q.i+k.i)%5:Nat):Int):=by rw [Int.tmod_eq_emod_of_nonneg (by omega)];omega
       have hI:(((q.i:Int)+(k.i:Int)).tmod 5).toNat=(q.i+k.i)%5:=by omega
       by_cases h5:k.i<5
       ·have hat:=z4z x r (i:=q.i) (k:=k.i) h5
        by_cases h6:5≤q.i+k.i
        ·unfold z02 at hat
         rw [if_pos h6] at hat
         refine za ?_
         rw [hI]
         conv=>whnf
         refine ⟨⟨k.i+1,h5⟩,[0,1],by show (5)-(k.i+1)<(5)-k.i;omega,?_⟩
         repeat ((conv=>whnf);refine zb ?_)
         conv=>whnf
         exact zx (congrArg (fun x=>SV.agg [SV.arr64 5 x]) hat.symm)
        ·unfold z02 at hat
         rw [if_neg h6] at hat
         refine za ?_
         rw [hI]
         conv=>whnf
         refine ⟨⟨k.i+1,h5⟩,[0,1],by show (5)-(k.i+1)<(5)-k.i;omega,?_⟩
         repeat ((conv=>whnf);refine zb ?_)
         conv=>whnf
         exact zx (congrArg (fun x=>SV.agg [SV.arr64 5 x]) hat.symm)
       ·have e5:k.i=5:=by omega
        rw [e5,show 5*q.i+5=5*(q.i+1) by omega]
        refine za ?_
        refine ⟨⟨q.i+1,h4⟩,[0,1],by show (5)-(q.i+1)<(5)-q.i;omega,?_⟩
        exact zu
     ·have e4:q.i=5:=by omega
      have hl:=zh6 x r (5*5)
      have hcl:(car (zdo x r (5*5))).length=5:=by rw [zcq];exact hl
      rw [e4]
      refine za ?_
      exact zh [0] h
   ·exact h.elim
def z6s:Spec:=fun args hp K=>match args,hp with
  | [.ptr 0 0 0 [],.sl 1 0 0 o n c],[.mk t0 [.arr64 5 r,.arr64 5 x],.mk t [.arr8 m l]]=>Pre (r.length=5∧x.length=5∧n≤16∧off o+n≤l.length) (K (.tup []) [.mk t0 [.arr64 5 r,.arr64 5 (zuc r x ((l.drop (off o)).take n))],.mk t [.arr8 m l]])
  |_,_=>False
theorem z71:zp prog 164 z6s:=by
  refine zn x0 (zd zzn (zd z46 zl)) rfl func164 rfl call164 (D:=ya5) ?_ ?_
  ·intro args hp K h
   unfold z6s at h
   split at h
   ·exact Nat.le_of_ble_eq_true rfl
   ·exact h.elim
  ·intro args hp K h
   unfold z6s at h
   split at h
   ·rename_i o n c t0 r x t m l
    obtain ⟨⟨hr,hx,hn,hl⟩,h⟩:=zm h
    obtain ⟨y,hy⟩: ∃y,y=ze8 ((l.drop (off o)).take n):=⟨_,rfl⟩
    have hyl:y.length=5:=by rw [hy];exact zjq _
    have hA:zuc r x ((l.drop (off o)).take n)=zse (zz7 x y) r:=by unfold zuc;rw [hy]
    rw [hA] at h
    refine za ?_
    rw [←hy]
    refine zz (Ix (5)) (fun q=>⟨[(0,.ptr 0 0 0 []),(1,.sl 1 0 0 o n c),(4,.ptr 2 0 0 []),(8,.int q.i)],[.mk t0 [.arr64 5 r,.arr64 5 (ovr x 0 (fun i=>g64 x i+g64 y i) q.i)],.mk t [.arr8 m l],.mk 220 [.arr64 5 y]]⟩) (fun q=>(5)-q.i) ⟨0,Nat.zero_le _⟩ [0,1,2] ?_ ?_
    ·exact zu
    ·intro q
     have hi:=q.hi
     have hlo:=yr (l:=x) (a:=0) (i:=q.i) (by omega) (fun i=>g64 x i+g64 y i)
     by_cases h4:q.i<5
     ·refine za ?_
      refine ⟨⟨q.i+1,h4⟩,[0,1,2],by show (5)-(q.i+1)<(5)-q.i;omega,?_⟩
      repeat ((conv=>whnf);refine zb ?_)
      conv=>whnf
      refine yc (congrArg (fun z=>SV.agg [SV.arr64 5 r,SV.arr64 5 z]) (ye (by omega) ?hv ?hkk)) ?_
      case hkk=>show q.i=0+q.i;omega
      case hv=>
        show g64 (ovr x 0 _ q.i) q.i+g64 y q.i=g64 x q.i+g64 y q.i
        unfold g64
        rw [yz (by omega) _ (by omega)]
      exact zu
     ·have e4:q.i=5:=by omega
      have hal:=z2w x y
      rw [e4,x2 hx,show (List.range 5).map (fun i=>g64 x i+g64 y i)=zz7 x y by unfold zz7;rfl]
      refine za ?_
      exact zh [0,1] h
   ·exact h.elim
end Go.Sym.Z

namespace Go.Sym.Z
open Go Go.Proofs.Tryz Go.Sym.Lp Go.Sym.Pol
set_option maxRecDepth 100000
attribute [local irreducible] zuc car zbc zbq
def z9g:List (Nat×List PStep):= []
def ybq:List (Nat×List PStep):= [(8,[⟨0,[]⟩,⟨1,[]⟩,⟨2,[]⟩,⟨3,[]⟩,⟨4,[0,1,2,3]⟩,⟨5,[0,1,2,3]⟩,⟨6,[0,1,2,3]⟩,⟨7,[0,1,2,3]⟩,⟨8,[]⟩,⟨9,[]⟩,⟨10,[]⟩])]
def z93:List (Nat×List PStep):= [(12,[⟨0,[]⟩,⟨1,[0]⟩,⟨2,[0,1]⟩,⟨3,[0,1]⟩,⟨4,[0,1]⟩,⟨5,[0]⟩,⟨6,[0]⟩,⟨7,[0,1,2,3,4,5,6]⟩,⟨8,[0,1,2,3,4,5,6,7]⟩,⟨9,[0,1,2,3,4,5,6,7]⟩,⟨10,[0,1,2,3,4,5,6]⟩,⟨11,[0,1,2,3,4,5,6]⟩,⟨12,[0]⟩,⟨13,[]⟩,⟨14,[]⟩])]
structure Ps (n:Nat) where
  t:Nat
  x:Nat
  k:Nat
  c:Nat
  hn:k+16*t=n∨(k=0∧t=(n+15)/ 16)
  hx:0<k→x=16*t
  hc:k≤c
def z7n:Spec:=fun args hp K=>match args,hp with
  | [.ptr 0 0 0 [],.sl 1 0 0 [] n c],[.mk t0 [.arr64 5 r,.arr64 5 x],.mk t [.arr8 m l]]=>Pre (r.length=5∧x.length=5∧n≤l.length∧n≤c) (K (.tup []) [.mk t0 [.arr64 5 r,.arr64 5 (zdt r x (l.take n))],.mk t [.arr8 m l]])
  |_,_=>False
theorem z74:zp prog 142 z7n:=by
  refine zn x0 (zd z71 zl) rfl func142 rfl call142 (D:=z9g) ?_ ?_
  ·intro args hp K h
   unfold z7n at h
   split at h
   ·exact Nat.le_of_ble_eq_true rfl
   ·exact h.elim
  ·intro args hp K h
   unfold z7n at h
   split at h
   ·rename_i n c t0 r x t m l
    obtain ⟨⟨hr,hx,hl,hc⟩,h⟩:=zm h
    have hB:(l.take n).length=n:=by rw [List.length_take];omega
    refine za ?_
    refine zz (Option (Ps n)) (fun q=>match q with
      |none=>⟨[(0,.ptr 0 0 0 []),(1,.sl 1 0 0 [] n c)],[.mk t0 [.arr64 5 r,.arr64 5 x],.mk t [.arr8 m l]]⟩
      |some s=>⟨[(0,.ptr 0 0 0 []),(1,.sl 1 0 0 [(s.x,1)] s.k s.c)],[.mk t0 [.arr64 5 r,.arr64 5 (zj6 r x (l.take n) s.t)],.mk t [.arr8 m l]]⟩)
      (fun q=>match q with|none=>n+1|some s=>s.k) none [0,1] ?_ ?_
    ·exact zu
    ·intro q
     cases q with
     |none=>
      by_cases h4:0<n
      ·have hmn:(min (n:Int) 16).toNat=min n 16:=by omega
       have hD:16*0=0:=rfl
       have hxl:=zjy (r:=r) hx (l.take n) 0
       have hp4:r.length=5∧(zj6 r x (l.take n) 0).length=5∧min n 16≤16∧off []+min n 16≤l.length:=⟨hr,hxl,by omega,by show 0+_≤_;omega⟩
       refine za ?_
       rw [hmn]
       refine za ?_
       rw [show (l.drop (off [])).take (min n 16)=((l.take n).drop (16*0)).take 16 by
        rw [z6d,show 16*0=0 by omega,show min 16 (n-0)=min n 16 by omega]
        rfl]
       refine ⟨some ⟨0+1,slO c (min n 16),n-min n 16,c-min n 16,by omega,fun h0=>by
         have hne:c≠min n 16:=by omega
         rw [yy hne];omega,by omega⟩,[0,1],by show n-min n 16<n+1;omega,?_⟩
       exact zu
      ·have e4:n=0:=by omega
       refine za ?_
       refine yv (hp':= [.mk t0 [.arr64 5 r,.arr64 5 (zdt r x (l.take n))],.mk t [.arr8 m l]]) [0,1] h ?_
       repeat ((conv=>whnf);refine zb ?_)
       conv=>whnf
       exact zx (congrArg (fun y=>SV.agg [SV.arr64 5 r,SV.arr64 5 y]) (show zj6 r x (l.take n) 0=zdt r x (l.take n) by unfold zdt;rw [hB];congr 1;omega))
     |some s=>
      have hsn:=s.hn
      have hsx:=s.hx
      have hsc:=s.hc
      by_cases h4:0<s.k
      ·have hmn:(min (s.k:Int) 16).toNat=min s.k 16:=by omega
       have hX:=hsx h4
       have hxl:=zjy (r:=r) hx (l.take n) s.t
       have hp4:r.length=5∧(zj6 r x (l.take n) s.t).length=5∧min s.k 16≤16∧off [(s.x,1)]+min s.k 16≤l.length:=⟨hr,hxl,by omega,by show s.x+_≤_;omega⟩
       refine za ?_
       rw [hmn]
       refine za ?_
       rw [show (l.drop (off [(s.x,1)])).take (min s.k 16)=((l.take n).drop (16*s.t)).take 16 by
        rw [z6d,show 16*s.t=s.x by omega,show min 16 (n-s.x)=min s.k 16 by omega]
        rfl]
       refine ⟨some ⟨s.t+1,s.x+slO s.c (min s.k 16),s.k-min s.k 16,s.c-min s.k 16,by omega,fun h0=>by
         have hne:s.c≠min s.k 16:=by omega
         rw [yy hne];omega,by omega⟩,[0,1],by show s.k-min s.k 16<s.k;omega,?_⟩
       exact zu
      ·have e4:s.k=0:=by omega
       refine za ?_
       refine yv (hp':= [.mk t0 [.arr64 5 r,.arr64 5 (zdt r x (l.take n))],.mk t [.arr8 m l]]) [0,1] h ?_
       repeat ((conv=>whnf);refine zb ?_)
       conv=>whnf
       exact zx (congrArg (fun y=>SV.agg [SV.arr64 5 r,SV.arr64 5 y]) (show zj6 r x (l.take n) s.t=zdt r x (l.take n) by unfold zdt;rw [hB];congr 1;omega))
   ·exact h.elim
def zu2:Spec:=fun args hp K=>match args,hp with
  | [.arr64 5 x],[]=>Pre (x.length=5) (K (.arr64 5 (zbc x)) [])
  |_,_=>False
theorem z5t:zp prog 165 zu2:=by
  refine zn x0 (zd zwl zl) rfl func165 rfl call165 (D:=ybq) ?_ ?_
  ·intro args hp K h
   unfold zu2 at h
   split at h
   ·exact Nat.le_of_ble_eq_true rfl
   ·exact h.elim
  ·intro args hp K h
   unfold zu2 at h
   split at h
   ·rename_i x
    obtain ⟨hx,h⟩:=zm h
    obtain ⟨y,hy⟩: ∃y,y=car (car x):=⟨_,rfl⟩
    have hxl:(car x).length=5:=by rw [zcq];exact hx
    have hyl:y.length=5:=by rw [hy,zcq,zcq];exact hx
    have hw:zbc x=if 0<(g64 (zbl y 4) 4>>>(26:UInt64)).toNat then (zbl y 4).set 4 (g64 (zbl y 4) 4&&&M26) else y:=by unfold zbc;rw [←hy]
    rw [hw] at h
    refine za ?_
    rw [←hy]
    refine za ?_
    refine zz (Ix (4)) (fun q=>⟨[(0,.arr64 5 x),(1,.ptr 0 0 0 []),(2,.ptr 1 0 0 []),(3,.ptr 2 0 0 []),(12,.int q.i)],[.mk 220 [.arr64 5 y],.mk 220 [.arr64 5 [0,0,0,0,0]],.mk 220 [.arr64 5 (zbl y q.i)]]⟩) (fun q=>(4)-q.i) ⟨0,Nat.zero_le _⟩ [0,1,2] ?_ ?_
    ·exact zu
    ·intro q
     have hi:=q.hi
     have hl:=zjw y q.i
     have hI:((q.i:Int)+1).toNat=q.i+1:=by omega
     have hJ:((q.i:Int)).toNat=q.i:=Int.toNat_natCast _
     by_cases h4:q.i<4
     ·refine za ?_
      refine ⟨⟨q.i+1,h4⟩,[0,1,2],by show (4)-(q.i+1)<(4)-q.i;omega,?_⟩
      exact zu
     ·have e4:q.i=4:=by omega
      rw [e4] at hl
      rw [e4]
      by_cases h5:0<(g64 (zbl y 4) 4>>>(26:UInt64)).toNat
      ·rw [if_pos h5] at h
       have hd:decide (UInt64.ofNat 0<g64 (zbl y 4) 4>>>(26:UInt64))=true:=decide_eq_true (by rw [UInt64.lt_iff_toNat_lt];exact h5)
       repeat ((conv=>whnf);first|refine zo ?_|refine zf ?_|refine zg ?_|refine zb ?_|refine zr (by first|exact hd) ?_|refine zi (by first|exact hd) ?_|refine zj (by first|exact hd) ?_)
       conv=>whnf
       exact zh [] h
      ·rw [if_neg h5] at h
       have hd:decide (UInt64.ofNat 0<g64 (zbl y 4) 4>>>(26:UInt64))=false:=decide_eq_false (by rw [UInt64.lt_iff_toNat_lt];exact h5)
       repeat ((conv=>whnf);first|refine zo ?_|refine zf ?_|refine zg ?_|refine zb ?_|refine zr (by first|exact hd) ?_|refine zi (by first|exact hd) ?_|refine zj (by first|exact hd) ?_)
       conv=>whnf
       exact zh [] h
   ·exact h.elim
def z18:Spec:=fun args hp K=>match args,hp with
  | [.ptr 0 0 0 [],.str key],[.mk t0 [.arr64 5 r,.arr64 5 x]]=>Pre (x.length=5∧key.length=32) (K (.str (zh7 x key)) [.mk t0 [.arr64 5 r,.arr64 5 x]])
  |_,_=>False
theorem z6j:zp prog 145 z18:=by
  refine zn x0 (zd z5t zl) rfl func145 rfl call145 (D:=z93) ?_ ?_
  ·intro args hp K h
   unfold z18 at h
   split at h
   ·exact Nat.le_of_ble_eq_true rfl
   ·exact h.elim
  ·intro args hp K h
   unfold z18 at h
   split at h
   ·rename_i key t0 r x
    obtain ⟨⟨hx,hk⟩,h⟩:=zm h
    have hwl:=zxu hx
    refine za ?_
    refine zz (Ix (16)) (fun q=>⟨[(0,.ptr 0 0 0 []),(1,.str key),(6,.u64 (zxh (zbc x))),(7,.u64 (zn3 (zbc x))),(8,.sl 2 0 0 [] 16 16),(9,.u64 (zbq (zxh (zbc x)) (zn3 (zbc x)) key q.i).2),(40,.int 16),(41,.int q.i)],[.mk t0 [.arr64 5 r,.arr64 5 x],.mk 220 [.arr64 5 (zbc x)],.mk 5 [.arr8 16 (zbq (zxh (zbc x)) (zn3 (zbc x)) key q.i).1]]⟩) (fun q=>(16)-q.i) ⟨0,Nat.zero_le _⟩ [0,1,2] ?_ ?_
    ·repeat ((conv=>whnf);refine zb ?_)
     conv=>whnf
     refine yc (by show _=SV.agg [SV.arr8 16 (zbq _ _ _ 0).1];rw [zvn];rfl) ?_
     repeat ((conv=>whnf);refine zb ?_)
     conv=>whnf
     exact zx (by show _=SV.u64 (zbq _ _ _ 0).2;rw [zvn];rfl)
    ·intro q
     have hi:=q.hi
     have hl:=zmq (zxh (zbc x)) (zn3 (zbc x)) key q.i
     have hm8:(q.i:Int).tmod 8=((q.i%8:Nat):Int):=by rw [Int.tmod_eq_emod_of_nonneg (by omega)];omega
     have hk8:(8*(q.i:Int).tmod 8).toNat=8*(q.i%8):=by omega
     have hI:((16:Int)+(q.i:Int)).toNat=16+q.i:=by omega
     by_cases h4:q.i<16
     ·by_cases h5:8≤q.i
      ·refine za ?_
       rw [hk8,hI]
       conv=>whnf
       refine ⟨⟨q.i+1,h4⟩,[0,1,2],by show (16)-(q.i+1)<(16)-q.i;omega,?_⟩
       repeat ((conv=>whnf);refine zb ?_)
       conv=>whnf
       refine yc (by show _=SV.agg [SV.arr8 16 (zbq _ _ _ (q.i+1)).1];rw [z6b _ _ _ h5];rfl) ?_
       repeat ((conv=>whnf);refine zb ?_)
       conv=>whnf
       exact zx (by show _=SV.u64 (zbq _ _ _ (q.i+1)).2;rw [z6b _ _ _ h5];rfl)
      ·refine za ?_
       rw [hk8,hI]
       conv=>whnf
       refine ⟨⟨q.i+1,h4⟩,[0,1,2],by show (16)-(q.i+1)<(16)-q.i;omega,?_⟩
       repeat ((conv=>whnf);refine zb ?_)
       conv=>whnf
       refine yc (by show _=SV.agg [SV.arr8 16 (zbq _ _ _ (q.i+1)).1];rw [z6g _ _ _ h5];rfl) ?_
       repeat ((conv=>whnf);refine zb ?_)
       conv=>whnf
       exact zx (by show _=SV.u64 (zbq _ _ _ (q.i+1)).2;rw [z6g _ _ _ h5];rfl)
     ·have e4:q.i=16:=by omega
      rw [e4] at hl
      have hT:List.take 16 (List.drop (off []) (zbq (zxh (zbc x)) (zn3 (zbc x)) key 16).1)=zh7 x key:=by unfold zh7;exact List.take_of_length_le (Nat.le_of_eq hl)
      rw [e4]
      refine za ?_
      rw [hT]
      conv=>whnf
      exact zh [0] h
   ·exact h.elim
end Go.Sym.Z

namespace Go.Sym.Z
open Go Go.Proofs.Tryz Go.Sym.Lp Go.Sym.Pol Go.Sym.Cha
set_option maxRecDepth 100000
attribute [local irreducible] zuc car zbc zbq ze8 zdt blk
def yas:List (Nat×List PStep):= []
def ya2:List (Nat×List PStep):= []
def ybi:List (Nat×List PStep):= [(2,[⟨0,[]⟩,⟨1,[]⟩,⟨2,[]⟩,⟨3,[0,1,2]⟩,⟨4,[0,1,2]⟩,⟨5,[0,1,2]⟩,⟨6,[0,1,2,3,4,5]⟩,⟨7,[0,1,2,3,4,5]⟩,⟨8,[0,1,2,3,4,5]⟩,⟨9,[0,1,2,3,4,5,6,7,8]⟩,⟨10,[0,1,2,3,4,5,6,7,8]⟩,⟨11,[0,1,2,3,4,5,6,7,8]⟩,⟨12,[]⟩,⟨13,[]⟩,⟨14,[]⟩])]
def z9w:List (Nat×List PStep):= []
def zq3:Spec:=fun args hp K=>match args,hp with
  | [.str key],[]=>Pre (16≤key.length) (K (.ptr 0 0 0 []) [.mk 223 [.arr64 5 (rOf key),.arr64 5 [0,0,0,0,0]]])
  |_,_=>False
theorem zzg:zp prog 141 zq3:=by
  refine zn x0 (zd zzn zl) rfl func141 rfl call141 (D:=yas) ?_ ?_
  ·intro args hp K h
   unfold zq3 at h
   split at h
   ·exact Nat.le_of_ble_eq_true rfl
   ·exact h.elim
  ·intro args hp K h
   unfold zq3 at h
   split at h
   ·rename_i key
    obtain ⟨hk,h⟩:=zm h
    obtain ⟨b,hb⟩: ∃b,b=key.take (Int.toNat 16):=⟨_,rfl⟩
    have hbl:b.length=16:=by rw [hb,List.length_take];show min 16 _=16;omega
    refine za ?_
    refine yh fun tl=>?_
    refine za ?_
    rw [←hb]
    refine zz (Ix (4)) (fun q=>⟨[(0,.str key),(3,.sl 0 0 0 [] b.length (b.length+tl.length)),(4,.int (3+4*(q.i:Int)))],[.mk 5 [.arr8 (b.length+tl.length) (cA b q.i++tl)]]⟩) (fun q=>(4)-q.i) ⟨0,Nat.zero_le _⟩ [0] ?_ ?_
    ·exact zu
    ·intro q
     have hi:=q.hi
     have hl:=zyy b q.i
     have hI:((3:Int)+4*(q.i:Int)).toNat=3+4*q.i:=by omega
     by_cases h4:q.i<4
     ·refine za ?_
      refine ⟨⟨q.i+1,h4⟩,[0],by show (4)-(q.i+1)<(4)-q.i;omega,?_⟩
      repeat ((conv=>whnf);refine zb ?_)
      conv=>whnf
      refine yc (congrArg (fun x=>SV.agg [SV.arr8 (b.length+tl.length) x]) ?hv) ?_
      case hv=>
        show (cA b q.i++tl).set ((3:Int)+4*(q.i:Int)).toNat ((cA b q.i++tl).getD ((3:Int)+4*(q.i:Int)).toNat 0&&&UInt8.ofNat 15)=cA b (q.i+1)++tl
        rw [hI,zn7 (by omega)]
        simp only [cA]
      exact zu
     ·have e4:q.i=4:=by omega
      rw [e4] at hl
      rw [e4]
      refine za ?_
      refine zz (Ix (3)) (fun r=>⟨[(0,.str key),(3,.sl 0 0 0 [] b.length (b.length+tl.length)),(5,.int (4+4*(r.i:Int)))],[.mk 5 [.arr8 (b.length+tl.length) (cC (cA b 4) r.i++tl)]]⟩) (fun r=>(3)-r.i) ⟨0,Nat.zero_le _⟩ [0] ?_ ?_
      ·exact zu
      ·intro r
       have hri:=r.hi
       have hlr:=z21 (cA b 4) r.i
       by_cases h5:r.i<3
       ·have hI:((4:Int)+4*(r.i:Int)).toNat=4+4*r.i:=by omega
        refine za ?_
        refine ⟨⟨r.i+1,h5⟩,[0],by show (3)-(r.i+1)<(3)-r.i;omega,?_⟩
        repeat ((conv=>whnf);refine zb ?_)
        conv=>whnf
        refine yc (congrArg (fun x=>SV.agg [SV.arr8 (b.length+tl.length) x]) ?hv) ?_
        case hv=>
          show (cC (cA b 4) r.i++tl).set ((4:Int)+4*(r.i:Int)).toNat ((cC (cA b 4) r.i++tl).getD ((4:Int)+4*(r.i:Int)).toNat 0&&&UInt8.ofNat 252)=cC (cA b 4) (r.i+1)++tl
          rw [hI,zn7 (by omega)]
          simp only [cC]
        exact zu
       ·have e5:r.i=3:=by omega
        rw [e5] at hlr
        have hP:16≤16∧0+16≤(cC (cA b 4) 3++tl).length:=⟨by omega,by rw [List.length_append];omega⟩
        have hT:List.take b.length (List.drop (off []) (cC (cA b 4) 3++tl))=cC (cA b 4) 3:=by
          show List.take b.length (cC (cA b 4) 3++tl)=_
          exact List.take_left' (by omega)
        have hrO:(ze8 (cC (cA b 4) 3)).set 4 (g64 (ze8 (cC (cA b 4) 3)) 4&&&UInt64.ofNat 16777215)=rOf key:=by rw [hb];rfl
        have hll:=zjq (cC (cA b 4) 3)
        rw [e5]
        refine za ?_
        rw [hT]
        refine za ?_
        refine yv (hp':= [.mk 223 [.arr64 5 (rOf key),.arr64 5 [0,0,0,0,0]]]) [2] h ?_
        repeat ((conv=>whnf);refine zb ?_)
        conv=>whnf
        exact zx (congrArg (fun y=>SV.agg [SV.arr64 5 y,SV.arr64 5 [0,0,0,0,0]]) hrO)
   ·exact h.elim
def z0y:Spec:=fun args hp K=>match args,hp with
  | [.int n],[]=>Pre (0≤n) (K (.str (zc6 n.toNat)) [])
  |_,_=>False
theorem z68:zp prog 143 z0y:=by
  refine zn x0 zl rfl func143 rfl call143 (D:=ya2) ?_ ?_
  ·intro args hp K h
   unfold z0y at h
   split at h
   ·exact Nat.le_of_ble_eq_true rfl
   ·exact h.elim
  ·intro args hp K h
   unfold z0y at h
   split at h
   ·rename_i n
    obtain ⟨hn,h⟩:=zm h
    have hm:n.tmod 16=((n.toNat%16:Nat):Int):=by rw [Int.tmod_eq_emod_of_nonneg hn];omega
    have hm2:((16:Int)-n.tmod 16).tmod 16=(((16-n.toNat%16)%16:Nat):Int):=by rw [hm,Int.tmod_eq_emod_of_nonneg (by omega)];omega
    refine za ?_
    rw [hm2,Int.toNat_natCast]
    conv=>whnf
    refine yv (hp':= []) [] h ?_
    repeat ((conv=>whnf);refine zb ?_)
    conv=>whnf
    exact zx (congrArg SV.str (by unfold zc6;show List.take _ (List.drop 0 (List.replicate _ 0))=_;rw [List.drop_zero];exact List.take_of_length_le (by rw [List.length_replicate];exact Nat.le_refl _)))
   ·exact h.elim
theorem ziq (v:UInt8):List.take 1 (List.drop (off []) ((List.replicate 1 0).set (off [(0,ty5.sz)]) v))= [v]:=rfl
def zqf:Spec:=fun args hp K=>match args,hp with
  | [.int x,.int k],[]=>Pre (k=4∨k=2) (K (.str (if k=4 then [UInt8.ofInt (x/ 2^24),UInt8.ofInt (x/ 2^16),UInt8.ofInt (x/ 2^8),UInt8.ofInt x] else [UInt8.ofInt (x/ 2^8),UInt8.ofInt x])) [])
  |_,_=>False
theorem zk5:zp prog 87 zqf:=by
  refine zn x0 zl rfl func87 rfl call87 (D:=z9w) ?_ ?_
  ·intro args hp K h
   unfold zqf at h
   split at h
   ·exact Nat.le_of_ble_eq_true rfl
   ·exact h.elim
  ·intro args hp K h
   unfold zqf at h
   split at h
   ·rename_i x k
    obtain ⟨hk,h⟩:=zm h
    rcases hk with rfl|rfl
    ·rw [if_pos rfl] at h
     refine za ?_
     refine yh fun t1=>?_
     rw [ziq]
     refine za ?_
     rw [ziq]
     refine zr ⟨by simp,by simp<;>omega,by simp<;>omega⟩ ?_
     refine za ?_
     refine yh fun t2=>?_
     refine za ?_
     rw [ziq]
     refine yh fun t3=>?_
     refine za ?_
     rw [ziq]
     refine yh fun t4=>?_
     refine za ?_
     exact zh [] h
    ·rw [if_neg (by decide)] at h
     refine za ?_
     refine yh fun t1=>?_
     rw [ziq]
     refine za ?_
     rw [ziq]
     refine zr ⟨by simp,by simp<;>omega,by simp<;>omega⟩ ?_
     refine za ?_
     refine yh fun t2=>?_
     refine za ?_
     exact zh [] h
   ·exact h.elim
def zow:Spec:=fun args hp K=>match args,hp with
  | [.int n],[]=>Pre (0≤n) (K (.str (zhv n.toNat)) [])
  |_,_=>False
theorem z0x:zp prog 144 zow:=by
  refine zn x0 (zd zk5 zl) rfl func144 rfl call144 (D:=ybi) ?_ ?_
  ·intro args hp K h
   unfold zow at h
   split at h
   ·exact Nat.le_of_ble_eq_true rfl
   ·exact h.elim
  ·intro args hp K h
   unfold zow at h
   split at h
   ·rename_i n
    obtain ⟨hn,h⟩:=zm h
    obtain ⟨k,rfl⟩:=Int.eq_ofNat_of_zero_le hn
    rw [Int.toNat_natCast] at h
    refine za ?_
    refine yh fun tl=>?_
    rw [if_pos rfl]
    refine za ?_
    exact zh [] h
   ·exact h.elim
end Go.Sym.Z

namespace Go.Sym.Z
open Go Go.Proofs.Tryz Go.Sym.Lp Go.Sym.Cha Go.Sym.Sha Go.Sym.Hk
set_option maxRecDepth 100000
attribute [local irreducible] xx KC HB zbd wrH wrR zgx zdk bk kN pdX dgF mP zaj
def z96:List (Nat×List PStep):= []
def z87:List (Nat×List PStep):= []
def ycy:List (Nat×List PStep):= []
def ybs:List (Nat×List PStep):= []
def z84:List (Nat×List PStep):= []
def z7l:Spec:=fun args hp K=>match args,hp with
  | [.int x,.int 1],[]=>K (.str [UInt8.ofInt x]) []
  |_,_=>False
theorem z8p:zp prog 87 z7l:=by
  refine zn zcn zl rfl func87 rfl call87 (D:=z9w) ?_ ?_
  ·intro args hp K h
   unfold z7l at h
   split at h
   ·exact Nat.le_of_ble_eq_true rfl
   ·exact h.elim
  ·intro args hp K h
   unfold z7l at h
   split at h
   ·rename_i x
    refine za ?_
    refine yh fun t1=>?_
    rw [ziq]
    refine za ?_
    exact zh [] h
   ·exact h.elim
def zqo:Spec:=fun args hp K=>match args,hp with
  | [.str s,.int 1],[]=>Pre (s.length≤255) (K (.tup [.str (UInt8.ofInt (s.length:Int) ::s),.int 0]) [])
  |_,_=>False
theorem z2x:zp prog 132 zqo:=by
  refine zn zcn (zd z8p zl) rfl func132 rfl call132 (D:=z96) ?_ ?_
  ·intro args hp K h
   unfold zqo at h
   split at h
   ·exact Nat.le_of_ble_eq_true rfl
   ·exact h.elim
  ·intro args hp K h
   unfold zqo at h
   split at h
   ·rename_i s
    obtain ⟨hs,h⟩:=zm h
    have hd:decide ((s.length:Int)/ 2^(8*(1:Int)).toNat=0)=true:=decide_eq_true (by show (s.length:Int)/ 256=0;omega)
    repeat ((conv=>whnf);first|refine zo ?_|refine zf ?_|refine zg ?_|refine zb ?_|refine zr (by first|exact hd|(rw [hd];rfl)) ?_|refine zi (by first|exact hd|(rw [hd];rfl)) ?_|refine zj (by first|exact hd|(rw [hd];rfl)) ?_)
    conv=>whnf
    exact zh [] h
   ·exact h.elim
def zi9 (s:List UInt8) (a:Nat):Nat→Nat
  |0=>0
  |i+1=>256*zi9 s a i+(s.getD (a+i) 0).toNat
def zqm:Spec:=fun args hp K=>match args,hp with
  | [.str s,.int a,.int 2],[]=>Pre (0≤a∧a+2≤(s.length:Int)∧s.length<9223372036854775808) (K (.tup [.int (256*((s.getD a.toNat 0).toNat:Int)+((s.getD (a.toNat+1) 0).toNat:Int)),.int (a+2),.int 0]) [])
  |_,_=>False
theorem z3t:zp prog 120 zqm:=by
  refine zn zcn zl rfl func120 rfl call120 (D:=z87) ?_ ?_
  ·intro args hp K h
   unfold zqm at h
   split at h
   ·exact Nat.le_of_ble_eq_true rfl
   ·exact h.elim
  ·intro args hp K h
   unfold zqm at h
   split at h
   ·rename_i s a
    obtain ⟨⟨ha,hl,hs⟩,h⟩:=zm h
    refine za ?_
    refine zz (Ix (2)) (fun q=>⟨[(0,.str s),(1,.int a),(2,.int 2),(9,.int (zi9 s a.toNat q.i:Nat)),(27,.int 2),(28,.int q.i)],[]⟩) (fun q=>(2)-q.i) ⟨0,Nat.zero_le _⟩ [] ?_ ?_
    ·exact zu
    ·intro q
     have hi:=q.hi
     have hI:(a+(q.i:Int)).toNat=a.toNat+q.i:=by omega
     by_cases h4:q.i<2
     ·have hb:zi9 s a.toNat q.i<256:=by
        have:q.i=0∨q.i=1:=by omega
        rcases this with e|e<;>rw [e]
        ·exact Nat.zero_lt_succ _
        ·simp only [zi9];rw [Nat.mul_zero,Nat.zero_add];exact UInt8.toNat_lt _
      have hsh:(UInt64.ofNat 8).toNat<64∧yn (((zi9 s a.toNat q.i:Nat):Int)*2^(UInt64.ofNat 8).toNat):=⟨by decide,by show yn (((zi9 s a.toNat q.i:Nat):Int)*256);unfold yn;omega⟩
      have hor:zbg .or (((zi9 s a.toNat q.i:Nat):Int)*2^(UInt64.ofNat 8).toNat) (((s.getD (a.toNat+q.i) 0).toNat:Nat):Int)=((zi9 s a.toNat (q.i+1):Nat):Int):=by
        have hc:=UInt8.toNat_lt (s.getD (a.toNat+q.i) 0)
        have e:=Nat.two_pow_add_eq_or_of_lt (i:=8) hc (zi9 s a.toNat q.i)
        have e2:(((zi9 s a.toNat q.i:Nat):Int)*2^(UInt64.ofNat 8).toNat)=((2^8*zi9 s a.toNat q.i:Nat):Int):=by show _*(256:Int)=((256*_:Nat):Int);omega
        rw [e2,Go.Sym.Ib.ibits_or (by omega) (by omega) (by rw [←e];omega),←e]
        rfl
      refine za ?_
      conv=>whnf
      refine ⟨⟨q.i+1,h4⟩,[],by show (2)-(q.i+1)<(2)-q.i;omega,?_⟩
      repeat ((conv=>whnf);refine zb ?_)
      conv=>whnf
      exact zx (congrArg SV.int (by rw [←hor,←hI]))
     ·have e4:q.i=2:=by omega
      have e5:((zi9 s a.toNat 2:Nat):Int)=256*((s.getD a.toNat 0).toNat:Int)+((s.getD (a.toNat+1) 0).toNat:Int):=by
        simp only [zi9];rw [Nat.mul_zero,Nat.zero_add,Nat.add_zero];omega
      rw [←e5] at h
      rw [e4]
      refine za ?_
      exact zh [] h
   ·exact h.elim
def z6v:Spec:=fun args hp K=>match args,hp with
  | [.str s,.int a],[]=>Pre (0≤a∧a+2≤(s.length:Int)∧s.length<9223372036854775808) (K (.tup [.int (256*((s.getD a.toNat 0).toNat:Int)+((s.getD (a.toNat+1) 0).toNat:Int)),.int (a+2),.int 0]) [])
  |_,_=>False
theorem z9c:zp prog 94 z6v:=by
  refine zn zcn (zd z3t zl) rfl func94 rfl call94 (D:=ycy) ?_ ?_
  ·intro args hp K h
   unfold z6v at h
   split at h
   ·exact Nat.le_of_ble_eq_true rfl
   ·exact h.elim
  ·intro args hp K h
   unfold z6v at h
   split at h
   ·rename_i s a
    obtain ⟨hp,h⟩:=zm h
    refine za ?_
    exact zh [] h
   ·exact h.elim
def zpb:Spec:=fun args hp K=>match args,hp with
  | [.int n,.str key,.str info,.int size],[]=>Pre ((n=256∨n=384)∧key.length≤140737488351232∧info.length≤1000∧0≤size∧size≤1000) (K (.tup [.str (exF n key info size.toNat),.int 0]) [])
  |_,_=>False
set_option maxHeartbeats 4000000 in
theorem zyt:zp prog 133 zpb:=by
  refine zn zcn (zd z1a (zd z51 zl)) rfl func133 rfl call133 (D:=ybs) ?_ ?_
  ·intro args hp K h
   unfold zpb at h
   split at h
   ·exact Nat.le_of_ble_eq_true rfl
   ·exact h.elim
  ·intro args hp K h
   unfold zpb at h
   split at h
   ·rename_i n key info size
    obtain ⟨⟨hn,hk,hi,hs0,hs⟩,h⟩:=zm h
    obtain ⟨z,rfl⟩:=Int.eq_ofNat_of_zero_le hs0
    rw [Int.toNat_natCast] at h
    have hd:=decide_eq_true hn
    have h8:(8:Int)≠0∧yn ((255*n).tdiv 8):=by rcases hn with rfl|rfl<;>exact ⟨by decide,by unfold yn;decide⟩
    have hmx:8160≤(255*n).tdiv 8:=by rcases hn with rfl|rfl<;>decide
    have hfit:yn (255*n):=by rcases hn with rfl|rfl<;>(unfold yn;decide)
    have hm1:=z0l n key 54
    have hm2:=z0l n key 92
    repeat ((conv=>whnf);first|refine zo ?_|refine zf ?_|refine zg ?_|refine zb ?_|refine zr (by first|exact hd) ?_|refine zi (by first|exact hd) ?_|refine zj (by first|exact hd) ?_)
    conv=>whnf
    obtain ⟨d,hdl,hd0⟩: ∃d,dl n=d∧(d=32∨d=48):=⟨_,rfl,by unfold dl;split<;>simp⟩
    have hF:exF n key info z=(zaj n key info ((z+d-1)/ d)).1.take z:=by unfold exF;rw [hdl]
    rw [hF] at h
    refine zz (Ix (((z+d-1)/ d))) (fun q=>⟨[(0,.int n),(2,.str info),(3,.int z),(10,.ptr 2 0 0 []),(12,.str (zaj n key info q.i).1),(13,.str (zaj n key info q.i).2),(14,.int ((q.i:Int)+1))],[.mk 248 [.int n,.arr64 8 (mP n key 54),.arr64 80 KC,.nilsl,.u64 (UInt64.ofNat (bk n))],.mk 248 [.int n,.arr64 8 (mP n key 92),.arr64 80 KC,.nilsl,.u64 (UInt64.ofNat (bk n))],.mk 209 [.ptr 0 0 0 [],.ptr 1 0 0 []]]⟩) (fun q=>(((z+d-1)/ d))-q.i) ⟨0,Nat.zero_le _⟩ [0,1,2] ?_ ?_
    ·repeat ((conv=>whnf);refine zb ?_)
     conv=>whnf
     refine yc (congrArg (fun x:List UInt8×List UInt8=>SV.str x.1) (show (([],[]):List UInt8×List UInt8)=zaj n key info 0 by unfold zaj;rfl)) ?_
     repeat ((conv=>whnf);refine zb ?_)
     conv=>whnf
     exact zx (congrArg (fun x:List UInt8×List UInt8=>SV.str x.2) (show (([],[]):List UInt8×List UInt8)=zaj n key info 0 by unfold zaj;rfl))
    ·intro q
     have hqi:=q.hi
     obtain ⟨hel,hel2⟩:=zlk hn key info q.i
     rw [hdl] at hel
     rcases hd0 with hd0|hd0
     ·subst hd0
      by_cases h4:q.i<(z+32-1)/ 32
      ·have hXl:((zaj n key info q.i).2++info++List.take 1 (List.drop (off []) ((List.replicate 1 0).set (off [(0,ty5.sz)]) (UInt8.ofInt ((q.i:Int)+1))))).length≤1073741824:=by rw [ziq,List.length_append,List.length_append];show _+_+1≤_;omega
       have hpm:(n=256∨n=384)∧n=n∧248=248∧248=248∧KC=KC∧KC=KC∧UInt64.ofNat (bk n)=UInt64.ofNat (bk n)∧UInt64.ofNat (bk n)=UInt64.ofNat (bk n)∧(mP n key 54).length=8∧(mP n key 92).length=8∧((zaj n key info q.i).2++info++List.take 1 (List.drop (off []) ((List.replicate 1 0).set (off [(0,ty5.sz)]) (UInt8.ofInt ((q.i:Int)+1))))).length≤1073741824:=⟨hn,rfl,rfl,rfl,rfl,rfl,rfl,rfl,hm1,hm2,hXl⟩
       have hml:=zpn hn (mP n key 92) (dgF n (mP n key 54) ((zaj n key info q.i).2++info++List.take 1 (List.drop (off []) ((List.replicate 1 0).set (off [(0,ty5.sz)]) (UInt8.ofInt ((q.i:Int)+1))))))
       rw [hdl] at hml
       have hE1:(zaj n key info q.i).1++dgF n (mP n key 92) (dgF n (mP n key 54) ((zaj n key info q.i).2++info++List.take 1 (List.drop (off []) ((List.replicate 1 0).set (off [(0,ty5.sz)]) (UInt8.ofInt ((q.i:Int)+1))))))=(zaj n key info (q.i+1)).1:=by simp only [zaj];rw [ziq];rfl
       have hE2:dgF n (mP n key 92) (dgF n (mP n key 54) ((zaj n key info q.i).2++info++List.take 1 (List.drop (off []) ((List.replicate 1 0).set (off [(0,ty5.sz)]) (UInt8.ofInt ((q.i:Int)+1))))))=(zaj n key info (q.i+1)).2:=by simp only [zaj];rw [ziq];rfl
       refine za ?_
       conv=>whnf
       refine ⟨⟨q.i+1,h4⟩,[0,1,2],by show (((z+32-1)/ 32))-(q.i+1)<(((z+32-1)/ 32))-q.i;omega,?_⟩
       repeat ((conv=>whnf);refine zb ?_)
       conv=>whnf
       refine yc (congrArg SV.str hE1) ?_
       repeat ((conv=>whnf);refine zb ?_)
       conv=>whnf
       exact zx (congrArg SV.str hE2)
      ·have e4:q.i=(z+32-1)/ 32:=by omega
       rw [←e4] at h
       refine za ?_
       exact zh [] h
     ·subst hd0
      by_cases h4:q.i<(z+48-1)/ 48
      ·have hXl:((zaj n key info q.i).2++info++List.take 1 (List.drop (off []) ((List.replicate 1 0).set (off [(0,ty5.sz)]) (UInt8.ofInt ((q.i:Int)+1))))).length≤1073741824:=by rw [ziq,List.length_append,List.length_append];show _+_+1≤_;omega
       have hpm:(n=256∨n=384)∧n=n∧248=248∧248=248∧KC=KC∧KC=KC∧UInt64.ofNat (bk n)=UInt64.ofNat (bk n)∧UInt64.ofNat (bk n)=UInt64.ofNat (bk n)∧(mP n key 54).length=8∧(mP n key 92).length=8∧((zaj n key info q.i).2++info++List.take 1 (List.drop (off []) ((List.replicate 1 0).set (off [(0,ty5.sz)]) (UInt8.ofInt ((q.i:Int)+1))))).length≤1073741824:=⟨hn,rfl,rfl,rfl,rfl,rfl,rfl,rfl,hm1,hm2,hXl⟩
       have hml:=zpn hn (mP n key 92) (dgF n (mP n key 54) ((zaj n key info q.i).2++info++List.take 1 (List.drop (off []) ((List.replicate 1 0).set (off [(0,ty5.sz)]) (UInt8.ofInt ((q.i:Int)+1))))))
       rw [hdl] at hml
       have hE1:(zaj n key info q.i).1++dgF n (mP n key 92) (dgF n (mP n key 54) ((zaj n key info q.i).2++info++List.take 1 (List.drop (off []) ((List.replicate 1 0).set (off [(0,ty5.sz)]) (UInt8.ofInt ((q.i:Int)+1))))))=(zaj n key info (q.i+1)).1:=by simp only [zaj];rw [ziq];rfl
       have hE2:dgF n (mP n key 92) (dgF n (mP n key 54) ((zaj n key info q.i).2++info++List.take 1 (List.drop (off []) ((List.replicate 1 0).set (off [(0,ty5.sz)]) (UInt8.ofInt ((q.i:Int)+1))))))=(zaj n key info (q.i+1)).2:=by simp only [zaj];rw [ziq];rfl
       refine za ?_
       conv=>whnf
       refine ⟨⟨q.i+1,h4⟩,[0,1,2],by show (((z+48-1)/ 48))-(q.i+1)<(((z+48-1)/ 48))-q.i;omega,?_⟩
       repeat ((conv=>whnf);refine zb ?_)
       conv=>whnf
       refine yc (congrArg SV.str hE1) ?_
       repeat ((conv=>whnf);refine zb ?_)
       conv=>whnf
       exact zx (congrArg SV.str hE2)
      ·have e4:q.i=(z+48-1)/ 48:=by omega
       rw [←e4] at h
       refine za ?_
       exact zh [] h
   ·exact h.elim
def zab (n:Int) (key label ctx:List UInt8) (size:Nat):List UInt8:=
  exF n key ([UInt8.ofInt ((size:Int)/ 2^8),UInt8.ofInt (size:Int)]++(UInt8.ofInt ((([116,108,115,49,51,32]++label:List UInt8).length:Nat):Int) ::([116,108,115,49,51,32]++label))++(UInt8.ofInt (ctx.length:Int) ::ctx)) size
theorem zrc {n:Int} (hn:n=256∨n=384) (key label ctx:List UInt8) (size:Nat):(zab n key label ctx size).length=size:=z4v hn _ _ _
def zs6:Spec:=fun args hp K=>match args,hp with
  | [.int n,.str key,.str label,.str ctx,.int size],[]=>Pre ((n=256∨n=384)∧key.length≤140737488351232∧label.length≤100∧ctx.length≤255∧0≤size∧size≤1000) (K (.tup [.str (zab n key label ctx size.toNat),.int 0]) [])
  |_,_=>False
theorem z4y:zp prog 114 zs6:=by
  refine zn zcn (zd zk5 (zd z2x (zd zyt zl))) rfl func114 rfl call114 (D:=z84) ?_ ?_
  ·intro args hp K h
   unfold zs6 at h
   split at h
   ·exact Nat.le_of_ble_eq_true rfl
   ·exact h.elim
  ·intro args hp K h
   unfold zs6 at h
   split at h
   ·rename_i n key label ctx size
    obtain ⟨⟨hn,hk,hl,hc,hs0,hs⟩,h⟩:=zm h
    obtain ⟨z,rfl⟩:=Int.eq_ofNat_of_zero_le hs0
    rw [Int.toNat_natCast] at h
    have hIl:([UInt8.ofInt ((z:Int)/ 2^8),UInt8.ofInt (z:Int)]++(UInt8.ofInt ((([116,108,115,49,51,32]++label:List UInt8).length:Nat):Int) ::([116,108,115,49,51,32]++label))++(UInt8.ofInt (ctx.length:Int) ::ctx)).length≤1000:=by simp only [List.length_append,List.length_cons,List.length_nil];omega
    have hpx:(n=256∨n=384)∧key.length≤140737488351232∧([UInt8.ofInt ((z:Int)/ 2^8),UInt8.ofInt (z:Int)]++(UInt8.ofInt ((([116,108,115,49,51,32]++label:List UInt8).length:Nat):Int) ::([116,108,115,49,51,32]++label))++(UInt8.ofInt (ctx.length:Int) ::ctx)).length≤1000∧0≤(z:Int)∧(z:Int)≤1000:=⟨hn,hk,hIl,hs0,hs⟩
    unfold zab at h
    have hll:(([116,108,115,49,51,32]++label:List UInt8)).length≤255:=by simp only [List.length_append,List.length_cons,List.length_nil];omega
    refine za ?_
    rw [if_neg (by decide)]
    refine za ?_
    conv=>whnf
    exact zh [] h
   ·exact h.elim
end Go.Sym.Z
