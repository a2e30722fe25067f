/-
  Contracts of functions of the program, each said of symbolic values, and plain laws; no condition beyond each statement's own.
-/
import Derived.Test.YtmmpgjcpielefaaGreatGLStreamActs22
import Derived.Test.YtmmpgjcpielefaaGreatGLStreamActs16
set_option linter.unusedSimpArgs false
set_option linter.unusedVariables false
namespace Go.Sym.Z
open Go Go.Proofs.Tryz Go.Sym.Lp Go.Sym.Pol
set_option maxRecDepth 100000
attribute [local irreducible] zst car za8 zcb
def yh9:List (Nat×List PStep):= []
def yil:List (Nat×List PStep):= [(8,[⟨0,[]⟩,⟨1,[]⟩,⟨2,[]⟩,⟨3,[]⟩,⟨4,[0,1,2,3]⟩,⟨5,[0,1,2,3]⟩,⟨6,[0,1,2,3]⟩,⟨7,[0,1,2,3]⟩,⟨8,[]⟩,⟨9,[]⟩,⟨10,[]⟩])]
def yg7:List (Nat×List PStep):= [(12,[⟨0,[]⟩,⟨1,[0]⟩,⟨2,[0,1]⟩,⟨3,[0,1]⟩,⟨4,[0,1]⟩,⟨5,[0]⟩,⟨6,[0]⟩,⟨7,[0,1,2,3,4,5,6]⟩,⟨8,[0,1,2,3,4,5,6,7]⟩,⟨9,[0,1,2,3,4,5,6,7]⟩,⟨10,[0,1,2,3,4,5,6]⟩,⟨11,[0,1,2,3,4,5,6]⟩,⟨12,[0]⟩,⟨13,[]⟩,⟨14,[]⟩])]
structure Ps (n:Nat) where
  t:Nat
  x:Nat
  k:Nat
  c:Nat
  hn:k+16*t=n∨(k=0∧t=(n+15)/ 16)
  hx:0<k→x=16*t
  hc:k≤c
def ygh:Spec:=fun args hp K=>match args,hp with
  | [.ptr 0 0 0 [],.sl 1 0 0 [] n c],[.mk t0 [.arr64 5 r,.arr64 5 x],.mk t [.arr8 m l]]=>Pre (r.length=5∧x.length=5∧n≤l.length∧n≤c) (K (.tup []) [.mk t0 [.arr64 5 r,.arr64 5 (zct r x (l.take n))],.mk t [.arr8 m l]])
  |_,_=>False
theorem yfg:zp prog 142 ygh:=by
  refine zm xe (zd yeq zi) rfl func142 rfl call142 (D:=yh9) ?_ ?_
  ·intro args hp K h
   unfold ygh at h
   split at h
   ·exact Nat.le_of_ble_eq_true rfl
   ·exact h.elim
  ·intro args hp K h
   unfold ygh at h
   split at h
   ·rename_i n c t0 r x t m l
    obtain ⟨⟨hr,hx,hl,hc⟩,h⟩:=zq h
    have hB:(l.take n).length=n:=by rw [List.length_take];omega
    refine za ?_
    refine zt (Option (Ps n)) (fun q=>match q with
      |none=>⟨[(0,.ptr 0 0 0 []),(1,.sl 1 0 0 [] n c)],[.mk t0 [.arr64 5 r,.arr64 5 x],.mk t [.arr8 m l]]⟩
      |some s=>⟨[(0,.ptr 0 0 0 []),(1,.sl 1 0 0 [(s.x,1)] s.k s.c)],[.mk t0 [.arr64 5 r,.arr64 5 (zcd r x (l.take n) s.t)],.mk t [.arr8 m l]]⟩)
      (fun q=>match q with|none=>n+1|some s=>s.k) none [0,1] ?_ ?_
    ·exact zn
    ·intro q
     cases q with
     |none=>
      by_cases h4:0<n
      ·have hmn:(min (n:Int) 16).toNat=min n 16:=by omega
       have hD:16*0=0:=rfl
       have hxl:=ze0 (r:=r) hx (l.take n) 0
       have hp4:r.length=5∧(zcd r x (l.take n) 0).length=5∧min n 16≤16∧off []+min n 16≤l.length:=⟨hr,hxl,by omega,by show 0+_≤_;omega⟩
       refine za ?_
       rw [hmn]
       refine za ?_
       rw [show (l.drop (off [])).take (min n 16)=((l.take n).drop (16*0)).take 16 by
        rw [ydr,show 16*0=0 by omega,show min 16 (n-0)=min n 16 by omega]
        rfl]
       refine ⟨some ⟨0+1,slO c (min n 16),n-min n 16,c-min n 16,by omega,fun h0=>by
         have hne:c≠min n 16:=by omega
         rw [y7 hne];omega,by omega⟩,[0,1],by show n-min n 16<n+1;omega,?_⟩
       exact zn
      ·have e4:n=0:=by omega
       refine za ?_
       refine yu (hp':= [.mk t0 [.arr64 5 r,.arr64 5 (zct r x (l.take n))],.mk t [.arr8 m l]]) [0,1] h ?_
       repeat ((conv=>whnf);refine zb ?_)
       conv=>whnf
       exact zo (congrArg (fun y=>SV.agg [SV.arr64 5 r,SV.arr64 5 y]) (show zcd r x (l.take n) 0=zct r x (l.take n) by unfold zct;rw [hB];congr 1;omega))
     |some s=>
      have hsn:=s.hn
      have hsx:=s.hx
      have hsc:=s.hc
      by_cases h4:0<s.k
      ·have hmn:(min (s.k:Int) 16).toNat=min s.k 16:=by omega
       have hX:=hsx h4
       have hxl:=ze0 (r:=r) hx (l.take n) s.t
       have hp4:r.length=5∧(zcd r x (l.take n) s.t).length=5∧min s.k 16≤16∧off [(s.x,1)]+min s.k 16≤l.length:=⟨hr,hxl,by omega,by show s.x+_≤_;omega⟩
       refine za ?_
       rw [hmn]
       refine za ?_
       rw [show (l.drop (off [(s.x,1)])).take (min s.k 16)=((l.take n).drop (16*s.t)).take 16 by
        rw [ydr,show 16*s.t=s.x by omega,show min 16 (n-s.x)=min s.k 16 by omega]
        rfl]
       refine ⟨some ⟨s.t+1,s.x+slO s.c (min s.k 16),s.k-min s.k 16,s.c-min s.k 16,by omega,fun h0=>by
         have hne:s.c≠min s.k 16:=by omega
         rw [y7 hne];omega,by omega⟩,[0,1],by show s.k-min s.k 16<s.k;omega,?_⟩
       exact zn
      ·have e4:s.k=0:=by omega
       refine za ?_
       refine yu (hp':= [.mk t0 [.arr64 5 r,.arr64 5 (zct r x (l.take n))],.mk t [.arr8 m l]]) [0,1] h ?_
       repeat ((conv=>whnf);refine zb ?_)
       conv=>whnf
       exact zo (congrArg (fun y=>SV.agg [SV.arr64 5 r,SV.arr64 5 y]) (show zcd r x (l.take n) s.t=zct r x (l.take n) by unfold zct;rw [hB];congr 1;omega))
   ·exact h.elim
def zyq:Spec:=fun args hp K=>match args,hp with
  | [.arr64 5 x],[]=>Pre (x.length=5) (K (.arr64 5 (za8 x)) [])
  |_,_=>False
theorem yby:zp prog 165 zyq:=by
  refine zm xe (zd z1b zi) rfl func165 rfl call165 (D:=yil) ?_ ?_
  ·intro args hp K h
   unfold zyq at h
   split at h
   ·exact Nat.le_of_ble_eq_true rfl
   ·exact h.elim
  ·intro args hp K h
   unfold zyq at h
   split at h
   ·rename_i x
    obtain ⟨hx,h⟩:=zq h
    obtain ⟨y,hy⟩: ∃y,y=car (car x):=⟨_,rfl⟩
    have hxl:(car x).length=5:=by rw [zdu];exact hx
    have hyl:y.length=5:=by rw [hy,zdu,zdu];exact hx
    have hw:za8 x=if 0<(g64 (zbe y 4) 4>>>(26:UInt64)).toNat then (zbe y 4).set 4 (g64 (zbe y 4) 4&&&M26) else y:=by unfold za8;rw [←hy]
    rw [hw] at h
    refine za ?_
    rw [←hy]
    refine za ?_
    refine zt (Ix (4)) (fun q=>⟨[(0,.arr64 5 x),(1,.ptr 0 0 0 []),(2,.ptr 1 0 0 []),(3,.ptr 2 0 0 []),(12,.int q.i)],[.mk 220 [.arr64 5 y],.mk 220 [.arr64 5 [0,0,0,0,0]],.mk 220 [.arr64 5 (zbe y q.i)]]⟩) (fun q=>(4)-q.i) ⟨0,Nat.zero_le _⟩ [0,1,2] ?_ ?_
    ·exact zn
    ·intro q
     have hi:=q.hi
     have hl:=zlf y q.i
     have hI:((q.i:Int)+1).toNat=q.i+1:=by omega
     have hJ:((q.i:Int)).toNat=q.i:=Int.toNat_natCast _
     by_cases h4:q.i<4
     ·refine za ?_
      refine ⟨⟨q.i+1,h4⟩,[0,1,2],by show (4)-(q.i+1)<(4)-q.i;omega,?_⟩
      exact zn
     ·have e4:q.i=4:=by omega
      rw [e4] at hl
      rw [e4]
      by_cases h5:0<(g64 (zbe y 4) 4>>>(26:UInt64)).toNat
      ·rw [if_pos h5] at h
       have hd:decide (UInt64.ofNat 0<g64 (zbe y 4) 4>>>(26:UInt64))=true:=decide_eq_true (by rw [UInt64.lt_iff_toNat_lt];exact h5)
       repeat ((conv=>whnf);first|refine zu ?_|refine zg ?_|refine zh ?_|refine zb ?_|refine zr (by first|exact hd) ?_|refine zj (by first|exact hd) ?_|refine zk (by first|exact hd) ?_)
       conv=>whnf
       exact zf [] h
      ·rw [if_neg h5] at h
       have hd:decide (UInt64.ofNat 0<g64 (zbe y 4) 4>>>(26:UInt64))=false:=decide_eq_false (by rw [UInt64.lt_iff_toNat_lt];exact h5)
       repeat ((conv=>whnf);first|refine zu ?_|refine zg ?_|refine zh ?_|refine zb ?_|refine zr (by first|exact hd) ?_|refine zj (by first|exact hd) ?_|refine zk (by first|exact hd) ?_)
       conv=>whnf
       exact zf [] h
   ·exact h.elim
def z8h:Spec:=fun args hp K=>match args,hp with
  | [.ptr 0 0 0 [],.str key],[.mk t0 [.arr64 5 r,.arr64 5 x]]=>Pre (x.length=5∧key.length=32) (K (.str (zf9 x key)) [.mk t0 [.arr64 5 r,.arr64 5 x]])
  |_,_=>False
theorem yed:zp prog 145 z8h:=by
  refine zm xe (zd yby zi) rfl func145 rfl call145 (D:=yg7) ?_ ?_
  ·intro args hp K h
   unfold z8h at h
   split at h
   ·exact Nat.le_of_ble_eq_true rfl
   ·exact h.elim
  ·intro args hp K h
   unfold z8h at h
   split at h
   ·rename_i key t0 r x
    obtain ⟨⟨hx,hk⟩,h⟩:=zq h
    have hwl:=z2n hx
    refine za ?_
    refine zt (Ix (16)) (fun q=>⟨[(0,.ptr 0 0 0 []),(1,.str key),(6,.u64 (zmq (za8 x))),(7,.u64 (zgd (za8 x))),(8,.sl 2 0 0 [] 16 16),(9,.u64 (zcb (zmq (za8 x)) (zgd (za8 x)) key q.i).2),(40,.int 16),(41,.int q.i)],[.mk t0 [.arr64 5 r,.arr64 5 x],.mk 220 [.arr64 5 (za8 x)],.mk 5 [.arr8 16 (zcb (zmq (za8 x)) (zgd (za8 x)) key q.i).1]]⟩) (fun q=>(16)-q.i) ⟨0,Nat.zero_le _⟩ [0,1,2] ?_ ?_
    ·repeat ((conv=>whnf);refine zb ?_)
     conv=>whnf
     refine zv (by show _=SV.agg [SV.arr8 16 (zcb _ _ _ 0).1];rw [z1w];rfl) ?_
     repeat ((conv=>whnf);refine zb ?_)
     conv=>whnf
     exact zo (by show _=SV.u64 (zcb _ _ _ 0).2;rw [z1w];rfl)
    ·intro q
     have hi:=q.hi
     have hl:=zpo (zmq (za8 x)) (zgd (za8 x)) key q.i
     have hm8:(q.i:Int).tmod 8=((q.i%8:Nat):Int):=by rw [Int.tmod_eq_emod_of_nonneg (by omega)];omega
     have hk8:(8*(q.i:Int).tmod 8).toNat=8*(q.i%8):=by omega
     have hI:((16:Int)+(q.i:Int)).toNat=16+q.i:=by omega
     by_cases h4:q.i<16
     ·by_cases h5:8≤q.i
      ·refine za ?_
       rw [hk8,hI]
       conv=>whnf
       refine ⟨⟨q.i+1,h4⟩,[0,1,2],by show (16)-(q.i+1)<(16)-q.i;omega,?_⟩
       repeat ((conv=>whnf);refine zb ?_)
       conv=>whnf
       refine zv (by show _=SV.agg [SV.arr8 16 (zcb _ _ _ (q.i+1)).1];rw [ydh _ _ _ h5];rfl) ?_
       repeat ((conv=>whnf);refine zb ?_)
       conv=>whnf
       exact zo (by show _=SV.u64 (zcb _ _ _ (q.i+1)).2;rw [ydh _ _ _ h5];rfl)
      ·refine za ?_
       rw [hk8,hI]
       conv=>whnf
       refine ⟨⟨q.i+1,h4⟩,[0,1,2],by show (16)-(q.i+1)<(16)-q.i;omega,?_⟩
       repeat ((conv=>whnf);refine zb ?_)
       conv=>whnf
       refine zv (by show _=SV.agg [SV.arr8 16 (zcb _ _ _ (q.i+1)).1];rw [ydq _ _ _ h5];rfl) ?_
       repeat ((conv=>whnf);refine zb ?_)
       conv=>whnf
       exact zo (by show _=SV.u64 (zcb _ _ _ (q.i+1)).2;rw [ydq _ _ _ h5];rfl)
     ·have e4:q.i=16:=by omega
      rw [e4] at hl
      have hT:List.take 16 (List.drop (off []) (zcb (zmq (za8 x)) (zgd (za8 x)) key 16).1)=zf9 x key:=by unfold zf9;exact List.take_of_length_le (Nat.le_of_eq hl)
      rw [e4]
      refine za ?_
      rw [hT]
      conv=>whnf
      exact zf [0] h
   ·exact h.elim
end Go.Sym.Z

namespace Go.Sym.Z
open Go Go.Proofs.Tryz Go.Sym.Lp Go.Sym.Pol Go.Sym.Cha
set_option maxRecDepth 100000
attribute [local irreducible] zst car za8 zcb zef zct blk
def yi3:List (Nat×List PStep):= []
def yh3:List (Nat×List PStep):= []
def yih:List (Nat×List PStep):= [(2,[⟨0,[]⟩,⟨1,[]⟩,⟨2,[]⟩,⟨3,[0,1,2]⟩,⟨4,[0,1,2]⟩,⟨5,[0,1,2]⟩,⟨6,[0,1,2,3,4,5]⟩,⟨7,[0,1,2,3,4,5]⟩,⟨8,[0,1,2,3,4,5]⟩,⟨9,[0,1,2,3,4,5,6,7,8]⟩,⟨10,[0,1,2,3,4,5,6,7,8]⟩,⟨11,[0,1,2,3,4,5,6,7,8]⟩,⟨12,[]⟩,⟨13,[]⟩,⟨14,[]⟩])]
def yhg:List (Nat×List PStep):= []
def zs1:Spec:=fun args hp K=>match args,hp with
  | [.str key],[]=>Pre (16≤key.length) (K (.ptr 0 0 0 []) [.mk 223 [.arr64 5 (rOf key),.arr64 5 [0,0,0,0,0]]])
  |_,_=>False
theorem z4y:zp prog 141 zs1:=by
  refine zm xe (zd z80 zi) rfl func141 rfl call141 (D:=yi3) ?_ ?_
  ·intro args hp K h
   unfold zs1 at h
   split at h
   ·exact Nat.le_of_ble_eq_true rfl
   ·exact h.elim
  ·intro args hp K h
   unfold zs1 at h
   split at h
   ·rename_i key
    obtain ⟨hk,h⟩:=zq h
    obtain ⟨b,hb⟩: ∃b,b=key.take (Int.toNat 16):=⟨_,rfl⟩
    have hbl:b.length=16:=by rw [hb,List.length_take];show min 16 _=16;omega
    refine za ?_
    refine yi fun tl=>?_
    refine za ?_
    rw [←hb]
    refine zt (Ix (4)) (fun q=>⟨[(0,.str key),(3,.sl 0 0 0 [] b.length (b.length+tl.length)),(4,.int (3+4*(q.i:Int)))],[.mk 5 [.arr8 (b.length+tl.length) (cA b q.i++tl)]]⟩) (fun q=>(4)-q.i) ⟨0,Nat.zero_le _⟩ [0] ?_ ?_
    ·exact zn
    ·intro q
     have hi:=q.hi
     have hl:=zyo b q.i
     have hI:((3:Int)+4*(q.i:Int)).toNat=3+4*q.i:=by omega
     by_cases h4:q.i<4
     ·refine za ?_
      refine ⟨⟨q.i+1,h4⟩,[0],by show (4)-(q.i+1)<(4)-q.i;omega,?_⟩
      repeat ((conv=>whnf);refine zb ?_)
      conv=>whnf
      refine zv (congrArg (fun x=>SV.agg [SV.arr8 (b.length+tl.length) x]) ?hv) ?_
      case hv=>
        show (cA b q.i++tl).set ((3:Int)+4*(q.i:Int)).toNat ((cA b q.i++tl).getD ((3:Int)+4*(q.i:Int)).toNat 0&&&UInt8.ofNat 15)=cA b (q.i+1)++tl
        rw [hI,zr9 (by omega)]
        simp only [cA]
      exact zn
     ·have e4:q.i=4:=by omega
      rw [e4] at hl
      rw [e4]
      refine za ?_
      refine zt (Ix (3)) (fun r=>⟨[(0,.str key),(3,.sl 0 0 0 [] b.length (b.length+tl.length)),(5,.int (4+4*(r.i:Int)))],[.mk 5 [.arr8 (b.length+tl.length) (cC (cA b 4) r.i++tl)]]⟩) (fun r=>(3)-r.i) ⟨0,Nat.zero_le _⟩ [0] ?_ ?_
      ·exact zn
      ·intro r
       have hri:=r.hi
       have hlr:=zzn (cA b 4) r.i
       by_cases h5:r.i<3
       ·have hI:((4:Int)+4*(r.i:Int)).toNat=4+4*r.i:=by omega
        refine za ?_
        refine ⟨⟨r.i+1,h5⟩,[0],by show (3)-(r.i+1)<(3)-r.i;omega,?_⟩
        repeat ((conv=>whnf);refine zb ?_)
        conv=>whnf
        refine zv (congrArg (fun x=>SV.agg [SV.arr8 (b.length+tl.length) x]) ?hv) ?_
        case hv=>
          show (cC (cA b 4) r.i++tl).set ((4:Int)+4*(r.i:Int)).toNat ((cC (cA b 4) r.i++tl).getD ((4:Int)+4*(r.i:Int)).toNat 0&&&UInt8.ofNat 252)=cC (cA b 4) (r.i+1)++tl
          rw [hI,zr9 (by omega)]
          simp only [cC]
        exact zn
       ·have e5:r.i=3:=by omega
        rw [e5] at hlr
        have hP:16≤16∧0+16≤(cC (cA b 4) 3++tl).length:=⟨by omega,by rw [List.length_append];omega⟩
        have hT:List.take b.length (List.drop (off []) (cC (cA b 4) 3++tl))=cC (cA b 4) 3:=by
          show List.take b.length (cC (cA b 4) 3++tl)=_
          exact List.take_left' (by omega)
        have hrO:(zef (cC (cA b 4) 3)).set 4 (g64 (zef (cC (cA b 4) 3)) 4&&&UInt64.ofNat 16777215)=rOf key:=by rw [hb];rfl
        have hll:=zcy (cC (cA b 4) 3)
        rw [e5]
        refine za ?_
        rw [hT]
        refine za ?_
        refine yu (hp':= [.mk 223 [.arr64 5 (rOf key),.arr64 5 [0,0,0,0,0]]]) [2] h ?_
        repeat ((conv=>whnf);refine zb ?_)
        conv=>whnf
        exact zo (congrArg (fun y=>SV.agg [SV.arr64 5 y,SV.arr64 5 [0,0,0,0,0]]) hrO)
   ·exact h.elim
def z5p:Spec:=fun args hp K=>match args,hp with
  | [.int n],[]=>Pre (0≤n) (K (.str (fillB n.toNat)) [])
  |_,_=>False
theorem ye7:zp prog 143 z5p:=by
  refine zm xe zi rfl func143 rfl call143 (D:=yh3) ?_ ?_
  ·intro args hp K h
   unfold z5p at h
   split at h
   ·exact Nat.le_of_ble_eq_true rfl
   ·exact h.elim
  ·intro args hp K h
   unfold z5p at h
   split at h
   ·rename_i n
    obtain ⟨hn,h⟩:=zq h
    have hm:n.tmod 16=((n.toNat%16:Nat):Int):=by rw [Int.tmod_eq_emod_of_nonneg hn];omega
    have hm2:((16:Int)-n.tmod 16).tmod 16=(((16-n.toNat%16)%16:Nat):Int):=by rw [hm,Int.tmod_eq_emod_of_nonneg (by omega)];omega
    refine za ?_
    rw [hm2,Int.toNat_natCast]
    conv=>whnf
    refine yu (hp':= []) [] h ?_
    repeat ((conv=>whnf);refine zb ?_)
    conv=>whnf
    exact zo (congrArg SV.str (by unfold fillB;show List.take _ (List.drop 0 (List.replicate _ 0))=_;rw [List.drop_zero];exact List.take_of_length_le (by rw [List.length_replicate];exact Nat.le_refl _)))
   ·exact h.elim
theorem zex (v:UInt8):List.take 1 (List.drop (off []) ((List.replicate 1 0).set (off [(0,ty5.sz)]) v))= [v]:=rfl
def ztx:Spec:=fun args hp K=>match args,hp with
  | [.int x,.int k],[]=>Pre (k=4∨k=2) (K (.str (if k=4 then [UInt8.ofInt (x/ 2^24),UInt8.ofInt (x/ 2^16),UInt8.ofInt (x/ 2^8),UInt8.ofInt x] else [UInt8.ofInt (x/ 2^8),UInt8.ofInt x])) [])
  |_,_=>False
theorem zpd:zp prog 87 ztx:=by
  refine zm xe zi rfl func87 rfl call87 (D:=yhg) ?_ ?_
  ·intro args hp K h
   unfold ztx at h
   split at h
   ·exact Nat.le_of_ble_eq_true rfl
   ·exact h.elim
  ·intro args hp K h
   unfold ztx at h
   split at h
   ·rename_i x k
    obtain ⟨hk,h⟩:=zq h
    rcases hk with rfl|rfl
    ·rw [if_pos rfl] at h
     refine za ?_
     refine yi fun t1=>?_
     rw [zex]
     refine za ?_
     rw [zex]
     refine zr ⟨by simp,by simp<;>omega,by simp<;>omega⟩ ?_
     refine za ?_
     refine yi fun t2=>?_
     refine za ?_
     rw [zex]
     refine yi fun t3=>?_
     refine za ?_
     rw [zex]
     refine yi fun t4=>?_
     refine za ?_
     exact zf [] h
    ·rw [if_neg (by decide)] at h
     refine za ?_
     refine yi fun t1=>?_
     rw [zex]
     refine za ?_
     rw [zex]
     refine zr ⟨by simp,by simp<;>omega,by simp<;>omega⟩ ?_
     refine za ?_
     refine yi fun t2=>?_
     refine za ?_
     exact zf [] h
   ·exact h.elim
def zup:Spec:=fun args hp K=>match args,hp with
  | [.int n],[]=>Pre (0≤n) (K (.str (zcn n.toNat)) [])
  |_,_=>False
theorem z5h:zp prog 144 zup:=by
  refine zm xe (zd zpd zi) rfl func144 rfl call144 (D:=yih) ?_ ?_
  ·intro args hp K h
   unfold zup at h
   split at h
   ·exact Nat.le_of_ble_eq_true rfl
   ·exact h.elim
  ·intro args hp K h
   unfold zup at h
   split at h
   ·rename_i n
    obtain ⟨hn,h⟩:=zq h
    obtain ⟨k,rfl⟩:=Int.eq_ofNat_of_zero_le hn
    rw [Int.toNat_natCast] at h
    refine za ?_
    refine yi fun tl=>?_
    rw [if_pos rfl]
    refine za ?_
    exact zf [] h
   ·exact h.elim
end Go.Sym.Z

namespace Go.Sym.Z
open Go Go.Proofs.Tryz Go.Sym.Lp Go.Sym.Cha Go.Sym.Sha Go.Sym.Hk
set_option maxRecDepth 100000
attribute [local irreducible] xb KC HB za1 wrH wrR x9 zet bk kN pdX dgF mP xx
def yip:List (Nat×List PStep):= []
def yhj:List (Nat×List PStep):= []
def ylf:List (Nat×List PStep):= []
def yhv:List (Nat×List PStep):= []
def yhq:List (Nat×List PStep):= []
def yfv:Spec:=fun args hp K=>match args,hp with
  | [.int x,.int 1],[]=>K (.str [UInt8.ofInt x]) []
  |_,_=>False
theorem yd7:zp prog 87 yfv:=by
  refine zm zdt zi rfl func87 rfl call87 (D:=yhg) ?_ ?_
  ·intro args hp K h
   unfold yfv at h
   split at h
   ·exact Nat.le_of_ble_eq_true rfl
   ·exact h.elim
  ·intro args hp K h
   unfold yfv at h
   split at h
   ·rename_i x
    refine za ?_
    refine yi fun t1=>?_
    rw [zex]
    refine za ?_
    exact zf [] h
   ·exact h.elim
def ztu:Spec:=fun args hp K=>match args,hp with
  | [.str s,.int 1],[]=>Pre (s.length≤255) (K (.tup [.str (UInt8.ofInt (s.length:Int) ::s),.int 0]) [])
  |_,_=>False
theorem z8l:zp prog 132 ztu:=by
  refine zm zdt (zd yd7 zi) rfl func132 rfl call132 (D:=yip) ?_ ?_
  ·intro args hp K h
   unfold ztu at h
   split at h
   ·exact Nat.le_of_ble_eq_true rfl
   ·exact h.elim
  ·intro args hp K h
   unfold ztu at h
   split at h
   ·rename_i s
    obtain ⟨hs,h⟩:=zq h
    have hd:decide ((s.length:Int)/ 2^(8*(1:Int)).toNat=0)=true:=decide_eq_true (by show (s.length:Int)/ 256=0;omega)
    repeat ((conv=>whnf);first|refine zu ?_|refine zg ?_|refine zh ?_|refine zb ?_|refine zr (by first|exact hd|(rw [hd];rfl)) ?_|refine zj (by first|exact hd|(rw [hd];rfl)) ?_|refine zk (by first|exact hd|(rw [hd];rfl)) ?_)
    conv=>whnf
    exact zf [] h
   ·exact h.elim
def zdm (s:List UInt8) (a:Nat):Nat→Nat
  |0=>0
  |i+1=>256*zdm s a i+(s.getD (a+i) 0).toNat
def zhn:Spec:=fun args hp K=>match args,hp with
  | [.str s,.int a,.int 2],[]=>Pre (0≤a∧a+2≤(s.length:Int)∧s.length<9223372036854775808) (K (.tup [.int (256*((s.getD a.toNat 0).toNat:Int)+((s.getD (a.toNat+1) 0).toNat:Int)),.int (a+2),.int 0]) [])
  |_,_=>False
theorem z45:zp prog 120 zhn:=by
  refine zm zdt zi rfl func120 rfl call120 (D:=yhj) ?_ ?_
  ·intro args hp K h
   unfold zhn at h
   split at h
   ·exact Nat.le_of_ble_eq_true rfl
   ·exact h.elim
  ·intro args hp K h
   unfold zhn at h
   split at h
   ·rename_i s a
    obtain ⟨⟨ha,hl,hs⟩,h⟩:=zq h
    refine za ?_
    refine zt (Ix (2)) (fun q=>⟨[(0,.str s),(1,.int a),(2,.int 2),(9,.int (zdm s a.toNat q.i:Nat)),(27,.int 2),(28,.int q.i)],[]⟩) (fun q=>(2)-q.i) ⟨0,Nat.zero_le _⟩ [] ?_ ?_
    ·exact zn
    ·intro q
     have hi:=q.hi
     have hI:(a+(q.i:Int)).toNat=a.toNat+q.i:=by omega
     by_cases h4:q.i<2
     ·have hb:zdm s a.toNat q.i<256:=by
        have:q.i=0∨q.i=1:=by omega
        rcases this with e|e<;>rw [e]
        ·exact Nat.zero_lt_succ _
        ·simp only [zdm];rw [Nat.mul_zero,Nat.zero_add];exact UInt8.toNat_lt _
      have hsh:(UInt64.ofNat 8).toNat<64∧ya (((zdm s a.toNat q.i:Nat):Int)*2^(UInt64.ofNat 8).toNat):=⟨by decide,by show ya (((zdm s a.toNat q.i:Nat):Int)*256);unfold ya;omega⟩
      have hor:zae .or (((zdm s a.toNat q.i:Nat):Int)*2^(UInt64.ofNat 8).toNat) (((s.getD (a.toNat+q.i) 0).toNat:Nat):Int)=((zdm s a.toNat (q.i+1):Nat):Int):=by
        have hc:=UInt8.toNat_lt (s.getD (a.toNat+q.i) 0)
        have e:=Nat.two_pow_add_eq_or_of_lt (i:=8) hc (zdm s a.toNat q.i)
        have e2:(((zdm s a.toNat q.i:Nat):Int)*2^(UInt64.ofNat 8).toNat)=((2^8*zdm s a.toNat q.i:Nat):Int):=by show _*(256:Int)=((256*_:Nat):Int);omega
        rw [e2,Go.Sym.Ib.ibits_or (by omega) (by omega) (by rw [←e];omega),←e]
        rfl
      refine za ?_
      conv=>whnf
      refine ⟨⟨q.i+1,h4⟩,[],by show (2)-(q.i+1)<(2)-q.i;omega,?_⟩
      repeat ((conv=>whnf);refine zb ?_)
      conv=>whnf
      exact zo (congrArg SV.int (by rw [←hor,←hI]))
     ·have e4:q.i=2:=by omega
      have e5:((zdm s a.toNat 2:Nat):Int)=256*((s.getD a.toNat 0).toNat:Int)+((s.getD (a.toNat+1) 0).toNat:Int):=by
        simp only [zdm];rw [Nat.mul_zero,Nat.zero_add,Nat.add_zero];omega
      rw [←e5] at h
      rw [e4]
      refine za ?_
      exact zf [] h
   ·exact h.elim
def ye3:Spec:=fun args hp K=>match args,hp with
  | [.str s,.int a],[]=>Pre (0≤a∧a+2≤(s.length:Int)∧s.length<9223372036854775808) (K (.tup [.int (256*((s.getD a.toNat 0).toNat:Int)+((s.getD (a.toNat+1) 0).toNat:Int)),.int (a+2),.int 0]) [])
  |_,_=>False
theorem yjl:zp prog 94 ye3:=by
  refine zm zdt (zd z45 zi) rfl func94 rfl call94 (D:=ylf) ?_ ?_
  ·intro args hp K h
   unfold ye3 at h
   split at h
   ·exact Nat.le_of_ble_eq_true rfl
   ·exact h.elim
  ·intro args hp K h
   unfold ye3 at h
   split at h
   ·rename_i s a
    obtain ⟨hp,h⟩:=zq h
    refine za ?_
    exact zf [] h
   ·exact h.elim
def zh1:Spec:=fun args hp K=>match args,hp with
  | [.int n,.str key,.str info,.int size],[]=>Pre ((n=256∨n=384)∧key.length≤140737488351232∧info.length≤1000∧0≤size∧size≤1000) (K (.tup [.str (exF n key info size.toNat),.int 0]) [])
  |_,_=>False
set_option maxHeartbeats 4000000 in
theorem z58:zp prog 133 zh1:=by
  refine zm zdt (zd z7j (zd yc1 zi)) rfl func133 rfl call133 (D:=yhv) ?_ ?_
  ·intro args hp K h
   unfold zh1 at h
   split at h
   ·exact Nat.le_of_ble_eq_true rfl
   ·exact h.elim
  ·intro args hp K h
   unfold zh1 at h
   split at h
   ·rename_i n key info size
    obtain ⟨⟨hn,hk,hi,hs0,hs⟩,h⟩:=zq h
    obtain ⟨z,rfl⟩:=Int.eq_ofNat_of_zero_le hs0
    rw [Int.toNat_natCast] at h
    have hd:=decide_eq_true hn
    have h8:(8:Int)≠0∧ya ((255*n).tdiv 8):=by rcases hn with rfl|rfl<;>exact ⟨by decide,by unfold ya;decide⟩
    have hmx:8160≤(255*n).tdiv 8:=by rcases hn with rfl|rfl<;>decide
    have hfit:ya (255*n):=by rcases hn with rfl|rfl<;>(unfold ya;decide)
    have hm1:=z5k n key 54
    have hm2:=z5k n key 92
    repeat ((conv=>whnf);first|refine zu ?_|refine zg ?_|refine zh ?_|refine zb ?_|refine zr (by first|exact hd) ?_|refine zj (by first|exact hd) ?_|refine zk (by first|exact hd) ?_)
    conv=>whnf
    obtain ⟨d,hdl,hd0⟩: ∃d,dl n=d∧(d=32∨d=48):=⟨_,rfl,by unfold dl;split<;>simp⟩
    have hF:exF n key info z=(xx n key info ((z+d-1)/ d)).1.take z:=by unfold exF;rw [hdl]
    rw [hF] at h
    refine zt (Ix (((z+d-1)/ d))) (fun q=>⟨[(0,.int n),(2,.str info),(3,.int z),(10,.ptr 2 0 0 []),(12,.str (xx n key info q.i).1),(13,.str (xx n key info q.i).2),(14,.int ((q.i:Int)+1))],[.mk 248 [.int n,.arr64 8 (mP n key 54),.arr64 80 KC,.nilsl,.u64 (UInt64.ofNat (bk n))],.mk 248 [.int n,.arr64 8 (mP n key 92),.arr64 80 KC,.nilsl,.u64 (UInt64.ofNat (bk n))],.mk 209 [.ptr 0 0 0 [],.ptr 1 0 0 []]]⟩) (fun q=>(((z+d-1)/ d))-q.i) ⟨0,Nat.zero_le _⟩ [0,1,2] ?_ ?_
    ·repeat ((conv=>whnf);refine zb ?_)
     conv=>whnf
     refine zv (congrArg (fun x:List UInt8×List UInt8=>SV.str x.1) (show (([],[]):List UInt8×List UInt8)=xx n key info 0 by unfold xx;rfl)) ?_
     repeat ((conv=>whnf);refine zb ?_)
     conv=>whnf
     exact zo (congrArg (fun x:List UInt8×List UInt8=>SV.str x.2) (show (([],[]):List UInt8×List UInt8)=xx n key info 0 by unfold xx;rfl))
    ·intro q
     have hqi:=q.hi
     obtain ⟨hel,hel2⟩:=zjf hn key info q.i
     rw [hdl] at hel
     rcases hd0 with hd0|hd0
     ·subst hd0
      by_cases h4:q.i<(z+32-1)/ 32
      ·have hXl:((xx n key info q.i).2++info++List.take 1 (List.drop (off []) ((List.replicate 1 0).set (off [(0,ty5.sz)]) (UInt8.ofInt ((q.i:Int)+1))))).length≤1073741824:=by rw [zex,List.length_append,List.length_append];show _+_+1≤_;omega
       have hpm:(n=256∨n=384)∧n=n∧248=248∧248=248∧KC=KC∧KC=KC∧UInt64.ofNat (bk n)=UInt64.ofNat (bk n)∧UInt64.ofNat (bk n)=UInt64.ofNat (bk n)∧(mP n key 54).length=8∧(mP n key 92).length=8∧((xx n key info q.i).2++info++List.take 1 (List.drop (off []) ((List.replicate 1 0).set (off [(0,ty5.sz)]) (UInt8.ofInt ((q.i:Int)+1))))).length≤1073741824:=⟨hn,rfl,rfl,rfl,rfl,rfl,rfl,rfl,hm1,hm2,hXl⟩
       have hml:=znd hn (mP n key 92) (dgF n (mP n key 54) ((xx n key info q.i).2++info++List.take 1 (List.drop (off []) ((List.replicate 1 0).set (off [(0,ty5.sz)]) (UInt8.ofInt ((q.i:Int)+1))))))
       rw [hdl] at hml
       have hE1:(xx n key info q.i).1++dgF n (mP n key 92) (dgF n (mP n key 54) ((xx n key info q.i).2++info++List.take 1 (List.drop (off []) ((List.replicate 1 0).set (off [(0,ty5.sz)]) (UInt8.ofInt ((q.i:Int)+1))))))=(xx n key info (q.i+1)).1:=by simp only [xx];rw [zex];rfl
       have hE2:dgF n (mP n key 92) (dgF n (mP n key 54) ((xx n key info q.i).2++info++List.take 1 (List.drop (off []) ((List.replicate 1 0).set (off [(0,ty5.sz)]) (UInt8.ofInt ((q.i:Int)+1))))))=(xx n key info (q.i+1)).2:=by simp only [xx];rw [zex];rfl
       refine za ?_
       conv=>whnf
       refine ⟨⟨q.i+1,h4⟩,[0,1,2],by show (((z+32-1)/ 32))-(q.i+1)<(((z+32-1)/ 32))-q.i;omega,?_⟩
       repeat ((conv=>whnf);refine zb ?_)
       conv=>whnf
       refine zv (congrArg SV.str hE1) ?_
       repeat ((conv=>whnf);refine zb ?_)
       conv=>whnf
       exact zo (congrArg SV.str hE2)
      ·have e4:q.i=(z+32-1)/ 32:=by omega
       rw [←e4] at h
       refine za ?_
       exact zf [] h
     ·subst hd0
      by_cases h4:q.i<(z+48-1)/ 48
      ·have hXl:((xx n key info q.i).2++info++List.take 1 (List.drop (off []) ((List.replicate 1 0).set (off [(0,ty5.sz)]) (UInt8.ofInt ((q.i:Int)+1))))).length≤1073741824:=by rw [zex,List.length_append,List.length_append];show _+_+1≤_;omega
       have hpm:(n=256∨n=384)∧n=n∧248=248∧248=248∧KC=KC∧KC=KC∧UInt64.ofNat (bk n)=UInt64.ofNat (bk n)∧UInt64.ofNat (bk n)=UInt64.ofNat (bk n)∧(mP n key 54).length=8∧(mP n key 92).length=8∧((xx n key info q.i).2++info++List.take 1 (List.drop (off []) ((List.replicate 1 0).set (off [(0,ty5.sz)]) (UInt8.ofInt ((q.i:Int)+1))))).length≤1073741824:=⟨hn,rfl,rfl,rfl,rfl,rfl,rfl,rfl,hm1,hm2,hXl⟩
       have hml:=znd hn (mP n key 92) (dgF n (mP n key 54) ((xx n key info q.i).2++info++List.take 1 (List.drop (off []) ((List.replicate 1 0).set (off [(0,ty5.sz)]) (UInt8.ofInt ((q.i:Int)+1))))))
       rw [hdl] at hml
       have hE1:(xx n key info q.i).1++dgF n (mP n key 92) (dgF n (mP n key 54) ((xx n key info q.i).2++info++List.take 1 (List.drop (off []) ((List.replicate 1 0).set (off [(0,ty5.sz)]) (UInt8.ofInt ((q.i:Int)+1))))))=(xx n key info (q.i+1)).1:=by simp only [xx];rw [zex];rfl
       have hE2:dgF n (mP n key 92) (dgF n (mP n key 54) ((xx n key info q.i).2++info++List.take 1 (List.drop (off []) ((List.replicate 1 0).set (off [(0,ty5.sz)]) (UInt8.ofInt ((q.i:Int)+1))))))=(xx n key info (q.i+1)).2:=by simp only [xx];rw [zex];rfl
       refine za ?_
       conv=>whnf
       refine ⟨⟨q.i+1,h4⟩,[0,1,2],by show (((z+48-1)/ 48))-(q.i+1)<(((z+48-1)/ 48))-q.i;omega,?_⟩
       repeat ((conv=>whnf);refine zb ?_)
       conv=>whnf
       refine zv (congrArg SV.str hE1) ?_
       repeat ((conv=>whnf);refine zb ?_)
       conv=>whnf
       exact zo (congrArg SV.str hE2)
      ·have e4:q.i=(z+48-1)/ 48:=by omega
       rw [←e4] at h
       refine za ?_
       exact zf [] h
   ·exact h.elim
def x3 (n:Int) (key label ctx:List UInt8) (size:Nat):List UInt8:=
  exF n key ([UInt8.ofInt ((size:Int)/ 2^8),UInt8.ofInt (size:Int)]++(UInt8.ofInt ((([116,108,115,49,51,32]++label:List UInt8).length:Nat):Int) ::([116,108,115,49,51,32]++label))++(UInt8.ofInt (ctx.length:Int) ::ctx)) size
theorem zu0 {n:Int} (hn:n=256∨n=384) (key label ctx:List UInt8) (size:Nat):(x3 n key label ctx size).length=size:=ycx hn _ _ _
def zk7:Spec:=fun args hp K=>match args,hp with
  | [.int n,.str key,.str label,.str ctx,.int size],[]=>Pre ((n=256∨n=384)∧key.length≤140737488351232∧label.length≤100∧ctx.length≤255∧0≤size∧size≤1000) (K (.tup [.str (x3 n key label ctx size.toNat),.int 0]) [])
  |_,_=>False
theorem ycq:zp prog 114 zk7:=by
  refine zm zdt (zd zpd (zd z8l (zd z58 zi))) rfl func114 rfl call114 (D:=yhq) ?_ ?_
  ·intro args hp K h
   unfold zk7 at h
   split at h
   ·exact Nat.le_of_ble_eq_true rfl
   ·exact h.elim
  ·intro args hp K h
   unfold zk7 at h
   split at h
   ·rename_i n key label ctx size
    obtain ⟨⟨hn,hk,hl,hc,hs0,hs⟩,h⟩:=zq h
    obtain ⟨z,rfl⟩:=Int.eq_ofNat_of_zero_le hs0
    rw [Int.toNat_natCast] at h
    have hIl:([UInt8.ofInt ((z:Int)/ 2^8),UInt8.ofInt (z:Int)]++(UInt8.ofInt ((([116,108,115,49,51,32]++label:List UInt8).length:Nat):Int) ::([116,108,115,49,51,32]++label))++(UInt8.ofInt (ctx.length:Int) ::ctx)).length≤1000:=by simp only [List.length_append,List.length_cons,List.length_nil];omega
    have hpx:(n=256∨n=384)∧key.length≤140737488351232∧([UInt8.ofInt ((z:Int)/ 2^8),UInt8.ofInt (z:Int)]++(UInt8.ofInt ((([116,108,115,49,51,32]++label:List UInt8).length:Nat):Int) ::([116,108,115,49,51,32]++label))++(UInt8.ofInt (ctx.length:Int) ::ctx)).length≤1000∧0≤(z:Int)∧(z:Int)≤1000:=⟨hn,hk,hIl,hs0,hs⟩
    unfold x3 at h
    have hll:(([116,108,115,49,51,32]++label:List UInt8)).length≤255:=by simp only [List.length_append,List.length_cons,List.length_nil];omega
    refine za ?_
    rw [if_neg (by decide)]
    refine za ?_
    conv=>whnf
    exact zf [] h
   ·exact h.elim
end Go.Sym.Z

namespace Go.Sym.Z
open Go Go.Proofs.Tryz Go.Sym.Lp Go.Sym.Pol Go.Sym.Cha
set_option maxRecDepth 100000
attribute [local irreducible] zct blk zf9 rOf fillB zcn xt
def yjg:List (Nat×List PStep):= [(6,[⟨0,[]⟩,⟨1,[0]⟩,⟨2,[0,1]⟩,⟨3,[0,1]⟩,⟨4,[0,1,2,3]⟩,⟨5,[0,1,2,3]⟩,⟨6,[0,1,2,3]⟩,⟨7,[0,1]⟩,⟨8,[0]⟩,⟨9,[0]⟩,⟨10,[0,1,2,3,4,5,6,7,8,9]⟩,⟨11,[0,1,2,3,4,5,6,7,8,9]⟩,⟨14,[0,1,2,3,4,5,6,7,8,9,10,11]⟩,⟨15,[0,1,2,3,4,5,6,7,8,9,10,11]⟩,⟨18,[0,1,2,3,4,5,6,7,8,9,10,11,14,15]⟩,⟨19,[0,1,2,3,4,5,6,7,8,9,10,11,14,15]⟩,⟨12,[0,1,2,3,4,5,6,7,8,9,14,15,18,19]⟩,⟨13,[0,14,15,18,19]⟩,⟨16,[0,1,2,3,4,5,6,7,8,9,18,19,13]⟩,⟨17,[0,18,19]⟩,⟨20,[0,1,2,3,4,5,6,7,8,9,13,17]⟩,⟨21,[0]⟩,⟨22,[0]⟩,⟨23,[]⟩])]
def yx (key nonce aad b:List UInt8):List UInt8:=
  zf9 (zsf (rOf ((blk key nonce 0).take 32)) aad b) ((blk key nonce 0).take 32)
def zqi:Spec:=fun args hp K=>match args,hp with
  | [.str key,.str nonce,.str aad,.sl 0 0 0 [] n c],[.mk t [.arr8 m l]]=>Pre (key.length=32∧nonce.length=12∧aad.length≤65536∧n≤65536∧n≤l.length∧n≤c)
      (K (.str (yx key nonce aad (l.take n))) [.mk t [.arr8 m l]])
  |_,_=>False
theorem ye0:zp prog 118 zqi:=by
  refine zm xe (zd zyu (zd z4y (zd yfg (zd ye7 (zd z5h (zd yed zi)))))) rfl func118 rfl call118 (D:=yjg) ?_ ?_
  ·intro args hp K h
   unfold zqi at h
   split at h
   ·exact Nat.le_of_ble_eq_true rfl
   ·exact h.elim
  ·intro args hp K h
   unfold zqi at h
   split at h
   ·rename_i key nonce aad n c t m l
    obtain ⟨⟨hk,hn,ha,hn2,hl,hc⟩,h⟩:=zq h
    have hkn:key.length=32∧(0≤(0:Int)∧(0:Int)≤4294967295)∧nonce.length=12:=⟨hk,by decide,hn⟩
    have hbl:=zfq key nonce (UInt32.ofInt 0)
    obtain ⟨own,ho⟩: ∃own,own=(blk key nonce (UInt32.ofInt 0)).take (Int.toNat 32):=⟨_,rfl⟩
    have hol:own.length=32:=by rw [ho,List.length_take,hbl];rfl
    have hB:(l.take n).length=n:=by rw [List.length_take];omega
    have hG:yx key nonce aad (l.take n)=zf9 (zsf (rOf own) aad (l.take n)) own:=by rw [ho];unfold yx;rfl
    rw [hG] at h
    have hrl:=yba own
    have hm:(n:Int).tmod 16=((n%16:Nat):Int):=by rw [Int.tmod_eq_emod_of_nonneg (by omega)];omega
    have hA:((aad.length:Int)).toNat=aad.length:=Int.toNat_natCast _
    have hN:((n:Int)).toNat=n:=Int.toNat_natCast _
    have hfa:=zcc aad.length
    have hfn:=zcc n
    have h8a:=zdh aad.length
    have h8n:=zdh n
    refine za ?_
    rw [←ho,hA]
    clear hbl
    unfold zsf at h
    rw [hB] at h
    obtain ⟨rest,hrest⟩: ∃rest,rest=(l.take n).drop (n-n%16):=⟨_,rfl⟩
    have ht2:(l.take n).take (n-n%16)=l.take (n-n%16):=by rw [List.take_take,Nat.min_eq_left (by omega)]
    rw [←hrest,ht2] at h
    generalize hbe:blk key nonce (UInt32.ofInt 0)=BB at*
    clear hG
    generalize rOf own=r at*
    generalize fillB aad.length=fa at*
    obtain ⟨s1,hs1⟩: ∃s1,s1=aad++fa:=⟨_,rfl⟩
    have hs1l:s1.length≤65600:=by rw [hs1,List.length_append,hfa];omega
    have z5:([0,0,0,0,0]:List UInt64).length=5:=rfl
    refine zr (by rw [hfa];omega) ?_
    rw [←hs1]
    refine za ?_
    refine yi fun t1=>?_
    have e1:List.take s1.length (s1++t1)=s1:=List.take_left' rfl
    have hk2:((n:Int)-(n:Int).tmod 16).toNat=n-n%16:=by omega
    have hsl:=zix c ((n:Int)-(n:Int).tmod 16).toNat
    have hx1:=zo2 (r:=r) z5 (List.take s1.length (s1++t1))
    have hx2:=zo2 (r:=r) hx1 (List.take ((n:Int)-(n:Int).tmod 16).toNat l)
    have hp1:r.length=5∧([0,0,0,0,0]:List UInt64).length=5∧s1.length≤(s1++t1).length∧s1.length≤s1.length+t1.length:=⟨hrl,rfl,by rw [List.length_append];omega,by omega⟩
    have hp2:r.length=5∧(zct r [0,0,0,0,0] (List.take s1.length (s1++t1))).length=5∧((n:Int)-(n:Int).tmod 16).toNat≤l.length∧((n:Int)-(n:Int).tmod 16).toNat≤c:=⟨hrl,hx1,by omega,by omega⟩
    have hp3:off (yb [] (slO c ((n:Int)-(n:Int).tmod 16).toNat) ty5.sz)+(n-((n:Int)-(n:Int).tmod 16).toNat)≤l.length:=by
      show slO c ((n:Int)-(n:Int).tmod 16).toNat+_≤_;omega
    have hrl3:(List.take (n-((n:Int)-(n:Int).tmod 16).toNat) (List.drop (off (yb [] (slO c ((n:Int)-(n:Int).tmod 16).toNat) ty5.sz)) l)).length≤16:=by
      rw [List.length_take];omega
    have hf1:(fillB ((n:Int)).toNat).length≤16:=by rw [zcc];omega
    have h81:(zcn ((aad.length:Int)).toNat).length=8:=zdh _
    have h82:(zcn ((n:Int)).toNat).length=8:=zdh _
    have hn0:0≤(n:Int):=by omega
    have ha0:0≤(aad.length:Int):=by omega
    have hRR:List.take (n-((n:Int)-(n:Int).tmod 16).toNat) (List.drop (off (yb [] (slO c ((n:Int)-(n:Int).tmod 16).toNat) ty5.sz)) l)=rest:=by
      rw [hk2,hrest,List.drop_take]
      show List.take _ (List.drop (slO c (n-n%16)) l)=_
      by_cases hc2:c=n-n%16
      ·rw [show n-(n-n%16)=0 by omega,List.take_zero,List.take_zero]
      ·rw [y7 hc2]
    refine za ?_
    refine yi fun t2=>?_
    refine za ?_
    refine zr ⟨zo2 hx2 _,hol⟩ ?_
    refine za ?_
    have hS:List.take s1.length (s1++t1)=aad++fa:=by rw [e1,hs1]
    have hfin:zf9 (zct r (zct r (zct r [0,0,0,0,0] (List.take s1.length (s1++t1))) (List.take ((n:Int)-(n:Int).tmod 16).toNat l)) (List.take (List.take (n-((n:Int)-(n:Int).tmod 16).toNat) (List.drop (off (yb [] (slO c ((n:Int)-(n:Int).tmod 16).toNat) ty5.sz)) l)++fillB ((n:Int)).toNat++zcn ((aad.length:Int)).toNat++zcn ((n:Int)).toNat).length ((List.take (n-((n:Int)-(n:Int).tmod 16).toNat) (List.drop (off (yb [] (slO c ((n:Int)-(n:Int).tmod 16).toNat) ty5.sz)) l)++fillB ((n:Int)).toNat++zcn ((aad.length:Int)).toNat++zcn ((n:Int)).toNat)++t2))) own=zf9 (zct r (zct r (zct r [0,0,0,0,0] (aad++fa)) (l.take (n-n%16))) (rest++fillB n++zcn aad.length++zcn n)) own:=by
      rw [List.take_left' (l₂:=t2) rfl,hRR,hS,hk2,hA,hN]
    conv=>whnf
    refine yu (hp':= [.mk t [.arr8 m l]]) [0] h ?_
    repeat ((conv=>whnf);refine zb ?_)
    conv=>whnf
    exact zo (congrArg SV.str hfin)
   ·exact h.elim
end Go.Sym.Z

namespace Go.Sym.Z
open Go Go.Proofs.Tryz Go.Sym.Lp Go.Sym.Pol Go.Sym.Cha
set_option maxRecDepth 100000
attribute [local irreducible] yx xt blk
def zay (key nonce aad s:List UInt8):List UInt8:=
  xt key nonce 1 s++yx key nonce aad (xt key nonce 1 s)
theorem zwx (key nonce aad b:List UInt8):(yx key nonce aad b).length=16:=by
  unfold yx
  exact z2y _ _
end Go.Sym.Z

namespace Go.Sym.Z
open Go Go.Proofs.Tryz Go.Sym.Lp Go.Sym.Gcm Go.Sym.Aes Go.Sym.Pol Go.Sym.Cha
set_option maxRecDepth 100000
def yko:List (Nat×List PStep):= []
def ylg:List (Nat×List PStep):= []
def ymo:List (Nat×List PStep):= []
attribute [local irreducible] zay yx zgf zew zft xt
def zdw (w:Int) (n:Nat):Prop:=w=4865∧n=16∨w=4866∧n=32∨w=4867∧n=32
instance (w:Int) (n:Nat):Decidable (zdw w n):=by unfold zdw;exact inferInstance
def y6 (w:Int) (key nonce aad s:List UInt8):List UInt8:=if w=4867 then zay key nonce aad s else zgf key nonce aad s
def xq (w:Int) (key nonce aad s:List UInt8):List UInt8:=if w=4867 then yx key nonce aad s else zew key nonce aad s
def y3 (w:Int) (key nonce s:List UInt8):List UInt8:=if w=4867 then xt key nonce 1 s else zft key nonce s
theorem zar (w:Int) (key nonce s:List UInt8):(y3 w key nonce s).length=s.length:=by
  unfold y3;split
  ·exact zjo _ _ _ _
  ·exact z8u _ _ _
theorem zc9 (w:Int) (key nonce aad s:List UInt8):(xq w key nonce aad s).length=16:=by
  unfold xq;split
  ·exact zwx _ _ _ _
  ·exact z60 _ _ _ _
theorem ze5 (w:Int) (key nonce aad s:List UInt8):y6 w key nonce aad s=y3 w key nonce s++xq w key nonce aad (y3 w key nonce s):=by
  unfold y6 y3 xq
  split
  ·unfold zay;rfl
  ·unfold zgf;rfl
def zlo:Spec:=fun args hp K=>match args,hp with
  | [.int w],[]=>ye (decide (w=4865)) (K (.tup [.int 16,.int 256,.int 0]) []) (ye (decide (w=4866)) (K (.tup [.int 32,.int 384,.int 0]) []) (ye (decide (w=4867)) (K (.tup [.int 32,.int 256,.int 0]) []) (K (.tup [.int 0,.int 0,.int 800]) [])))
  |_,_=>False
theorem zs8:zp prog 85 zlo:=by
  refine zm y5 zi rfl func85 rfl call85 (D:=yko) ?_ ?_
  ·intro args hp K h
   unfold zlo at h
   split at h
   ·exact Nat.le_of_ble_eq_true rfl
   ·exact h.elim
  ·intro args hp K h
   unfold zlo at h
   split at h
   ·rename_i w
    obtain ⟨ht,hn⟩:=z8 h
    by_cases h1:w=4865
    ·have h:=ht (decide_eq_true h1)
     refine za ?_
     exact zf [] h
    ·have h:=hn (decide_eq_false h1)
     obtain ⟨ht,hn⟩:=z8 h
     by_cases h2:w=4866
     ·have h:=ht (decide_eq_true h2)
      refine za ?_
      exact zf [] h
     ·have h:=hn (decide_eq_false h2)
      obtain ⟨ht,hn⟩:=z8 h
      by_cases h3:w=4867
      ·have h:=ht (decide_eq_true h3)
       refine za ?_
       exact zf [] h
      ·have h:=hn (decide_eq_false h3)
       refine za ?_
       exact zf [] h
   ·exact h.elim
def z10:Spec:=fun args hp K=>match args,hp with
  | [.int e],[]=>K (.int e) []
  |_,_=>False
theorem z4u:zp prog 12 z10:=by
  refine zm y5 zi rfl func12 rfl call12 (D:=ymo) ?_ ?_
  ·intro args hp K h
   unfold z10 at h
   split at h
   ·exact Nat.le_of_ble_eq_true rfl
   ·exact h.elim
  ·intro args hp K h
   unfold z10 at h
   split at h
   ·rename_i e
    refine za ?_
    exact zf [] h
   ·exact h.elim
def z94:Spec:=fun args hp K=>match args,hp with
  | [.int w,.str key,.str nonce,.str aad,.int long],[]=>K (.bool (decide (zdw w key.length∧nonce.length=12∧aad.length≤65536∧long≤65536))) []
  |_,_=>False
set_option maxHeartbeats 4000000 in
theorem z41:zp prog 88 z94:=by
  refine zm y5 (zd zs8 zi) rfl func88 rfl call88 (D:=ylg) ?_ ?_
  ·intro args hp K h
   unfold z94 at h
   split at h
   ·exact Nat.le_of_ble_eq_true rfl
   ·exact h.elim
  ·intro args hp K h
   unfold z94 at h
   split at h
   ·rename_i w key nonce aad long
    have four:w=4865∨w=4866∨w=4867∨(w≠4865∧w≠4866∧w≠4867):=by omega
    by_cases hk:zdw w key.length
    ·have hk':=hk
     unfold zdw at hk'
     by_cases h2:nonce.length=12
     ·by_cases h3:aad.length≤65536
      ·have hd:decide (zdw w key.length∧nonce.length=12∧aad.length≤65536∧long≤65536)=decide (long≤65536):=by
         by_cases h4:long≤65536
         ·rw [decide_eq_true h4];exact decide_eq_true ⟨hk,h2,h3,h4⟩
         ·rw [decide_eq_false h4];exact decide_eq_false fun hh=>h4 hh.2.2.2
       rw [hd] at h
       rcases hk' with ⟨h0,h1⟩|⟨h0,h1⟩|⟨h0,h1⟩
       ·refine za ?_
        exact zf [] h
       ·refine za ?_
        exact zf [] h
       ·refine za ?_
        exact zf [] h
      ·rw [decide_eq_false fun hh=>h3 hh.2.2.1] at h
       rcases hk' with ⟨h0,h1⟩|⟨h0,h1⟩|⟨h0,h1⟩
       ·refine za ?_
        exact zf [] h
       ·refine za ?_
        exact zf [] h
       ·refine za ?_
        exact zf [] h
     ·rw [decide_eq_false fun hh=>h2 hh.2.1] at h
      rcases hk' with ⟨h0,h1⟩|⟨h0,h1⟩|⟨h0,h1⟩
      ·refine za ?_
       exact zf [] h
      ·refine za ?_
       exact zf [] h
      ·refine za ?_
       exact zf [] h
    ·rw [decide_eq_false fun hh=>hk hh.1] at h
     unfold zdw at hk
     rcases four with h0|h0|h0|⟨h0,h1,h2⟩
     ·refine za ?_
      exact zf [] h
     ·refine za ?_
      exact zf [] h
     ·refine za ?_
      exact zf [] h
     ·refine za ?_
      exact zf [] h
   ·exact h.elim
theorem zsj {P:Program} {f:FuncId} {S S':Spec} (h:zp P f S) (hs: ∀args hp K,S' args hp K→S args hp K):zp P f S':=fun args hp K h1=>h args hp K (hs args hp K h1)
def zy8:Spec:=fun args hp K=>match args,hp with
  | [.str key,.str nonce,.str aad,.str s],[]=>Pre (key.length=32∧nonce.length=12∧aad.length≤65536∧(s.length:Int)≤65536) (K (.tup [.str (zay key nonce aad s),.int 0]) [])
  |_,_=>False
def zx6:Spec:=fun args hp K=>match args,hp with
  | [.str key,.str nonce,.str aad,.str s],[]=>Pre ((key.length=16∨key.length=32)∧nonce.length=12∧aad.length≤65536∧(s.length:Int)≤65536) (K (.tup [.str (zgf key nonce aad s),.int 0]) [])
  |_,_=>False
def zy6:Spec:=fun args hp K=>match args,hp with
  | [.str key,.str nonce,.str aad,.str s],[]=>Pre (key.length=32∧nonce.length=12∧aad.length≤65536∧(s.length:Int)-16≤65536)
      (ye (decide (16≤s.length∧yx key nonce aad (s.take (s.length-16))=s.drop (s.length-16))) (K (.tup [.str (xt key nonce 1 (s.take (s.length-16))),.int 0]) []) (K (.tup [.str [],.int 700]) []))
  |_,_=>False
def zxh:Spec:=fun args hp K=>match args,hp with
  | [.str key,.str nonce,.str aad,.str s],[]=>Pre ((key.length=16∨key.length=32)∧nonce.length=12∧aad.length≤65536∧(s.length:Int)-16≤65536)
      (ye (decide (16≤s.length∧zew key nonce aad (s.take (s.length-16))=s.drop (s.length-16))) (K (.tup [.str (zft key nonce (s.take (s.length-16))),.int 0]) []) (K (.tup [.str [],.int 501]) []))
  |_,_=>False
theorem ya1: ∀args hp K,zx6 args hp K→zpu args hp K:=by
  intro args hp K h
  unfold zx6 at h
  unfold zpu
  split at h
  ·obtain ⟨h0,h⟩:=zq h
   try dsimp only
   rw [if_pos h0];exact h
  ·exact h.elim
theorem ybk: ∀args hp K,zxh args hp K→zpz args hp K:=by
  intro args hp K h
  unfold zxh at h
  unfold zpz
  split at h
  ·obtain ⟨h0,h⟩:=zq h
   obtain ⟨ht,hn⟩:=z8 h
   try dsimp only
   rw [if_pos ⟨h0.1,h0.2.1,h0.2.2.1,by omega⟩]
   split
   ·rename_i hc;exact ht (decide_eq_true hc)
   ·rename_i hc;exact hn (decide_eq_false hc)
  ·exact h.elim
def zzu:Spec:=fun args hp K=>match args,hp with
  | [.int w,.str key,.str nonce,.str aad,.str s],[]=>
      ye (decide (zdw w key.length∧nonce.length=12∧aad.length≤65536∧(s.length:Int)≤65536))
        (K (.tup [.str (y6 w key nonce aad s),.int 0]) []) (K (.tup [.str [],.int 800]) [])
  |_,_=>False
def zyx:Spec:=fun args hp K=>match args,hp with
  | [.int w,.str key,.str nonce,.str aad,.str s],[]=>Pre (s.length<9223372036854775808)
      (ye (decide (zdw w key.length∧nonce.length=12∧aad.length≤65536∧(s.length:Int)-16≤65536))
        (ye (decide (16≤s.length∧xq w key nonce aad (s.take (s.length-16))=s.drop (s.length-16))) (K (.tup [.str (y3 w key nonce (s.take (s.length-16))),.int 0]) []) (K (.tup [.str [],.int 801]) []))
        (K (.tup [.str [],.int 800]) []))
  |_,_=>False
end Go.Sym.Z

namespace Go.Sym.Z
open Go Go.Proofs.Tryz Go.Sym.Lp Go.Sym.Gcm Go.Sym.Aes Go.Sym.Pol Go.Sym.Cha
set_option maxRecDepth 100000
attribute [local irreducible] zay yx zgf zew zft xt
end Go.Sym.Z

namespace Go.Sym.Z
open Go Go.Proofs.Tryz Go.Sym.Lp Go.Sym.Gcm Go.Sym.Aes Go.Sym.Pol Go.Sym.Cha
set_option maxRecDepth 100000
attribute [local irreducible] zay yx zgf zew zft xt
def ygx:List (Nat×List PStep):= [(1,[⟨0,[]⟩,⟨1,[]⟩,⟨3,[0,1]⟩,⟨4,[0,1]⟩,⟨2,[3,4]⟩,⟨5,[]⟩,⟨6,[]⟩])]
def yjf:List (Nat×List PStep):= [(2,[⟨0,[]⟩,⟨1,[]⟩,⟨2,[0,1]⟩,⟨3,[0,1,2]⟩,⟨4,[0,1]⟩,⟨5,[]⟩])]
def ylj:List (Nat×List PStep):= []
def ylb:List (Nat×List PStep):= []
def yk0:List (Nat×List PStep):= []
def ygg:List (Nat×TyI):= [(3,ty3),(4,ty4),(5,ty5),(9,ty9),(48,zd6),(51,zeb),(168,zif),(113,xw),(99,xj),(183,zer),(186,zmf),(134,zl3),(178,zj2),(216,zjl),(214,zju),(212,zki),(132,zox),(136,zpn)]
theorem zbo: ∀t i,y8 ygg t=some i→yt prog t i:=(zc zbg (zc zbj (zc zbc (zc zbf (zc zaq (zc zap (zc zkd (zc zai (zc za6 (zc zwy (zc zw0 (zc zv5 (zc zob (zc zp0 (zc zon (zc znm (zc z4k (zc z6e x1))))))))))))))))))
def zb8 (l:List UInt8) (a na b nb:Nat) (s:List UInt8):List UInt8:=zx (zx l a (s.take na)) b ((s.drop na).take nb)
def ziz:Spec:=fun args hp K=>match args,hp with
  | [.int w,.str key,.str nonce],[]=>ye (decide (w=4867)) (K (.agg [.str key,.str nonce,.nilptr]) [])
      (Pre (key.length=16∨key.length=32) (K (.agg [.str key,.str nonce,.ptr 0 0 0 []]) [.mk 186 [.ptr 1 0 0 [],.u64 (gH (gW key) (gR key)).1,.u64 (gH (gW key) (gR key)).2],.mk 216 [.arr8 256 box,.sl 2 0 0 [] (gR key) (gR key)],.mk 168 [.arr8 (16*gR key) (gW key)]]))
  |_,_=>False
theorem zmb:zp prog 90 ziz:=by
  refine zm zbo (zd z6k zi) rfl func90 rfl call90 (D:=ylj) ?_ ?_
  ·intro args hp K h
   unfold ziz at h
   split at h
   ·exact Nat.le_of_ble_eq_true rfl
   ·exact h.elim
  ·intro args hp K h
   unfold ziz at h
   split at h
   ·rename_i w key nonce
    obtain ⟨ht,hn⟩:=z8 h
    by_cases h0:w=4867
    ·have h:=ht (decide_eq_true h0)
     refine za ?_
     exact zf [] h
    ·have h:=hn (decide_eq_false h0)
     obtain ⟨hk,h⟩:=zq h
     have hd:=decide_eq_true hk
     repeat ((conv=>whnf);first|refine zu ?_|refine zg ?_|refine zh ?_|refine zb ?_|refine zr (by first|exact hd) ?_|refine zj (by first|exact hd) ?_|refine zk (by first|exact hd) ?_)
     conv=>whnf
     exact zf [2,3,4] h
   ·exact h.elim
def z9z:Spec:=fun args hp K=>match args,hp with
  | [.agg [.str key,.str nonce,.nilptr],.str aad,.sl 0 0 0 [] n c],[.mk t [.arr8 m l]]=>Pre (key.length=32∧nonce.length=12∧aad.length≤65536∧n≤65536∧n≤l.length∧n≤c) (K (.str (yx key nonce aad (l.take n))) [.mk t [.arr8 m l]])
  | [.agg [.str key,.str nonce,.ptr 0 0 0 []],.str aad,.sl 3 0 0 [] n c],[.mk t0 [.ptr 1 0 0 [],.u64 h1,.u64 h2],.mk t1 [.arr8 256 bx,.sl 2 0 0 [] R cR],.mk t2 [.arr8 N W],.mk t [.arr8 m l]]=>
      Pre (bx=box∧nonce.length=12∧1≤R∧R≤100∧16*R≤W.length∧n≤l.length∧n≤c∧aad.length≤65536∧n≤70000)
      (K (.str (gtg W R (h1,h2) nonce aad (l.take n))) [.mk t0 [.ptr 1 0 0 [],.u64 h1,.u64 h2],.mk t1 [.arr8 256 bx,.sl 2 0 0 [] R cR],.mk t2 [.arr8 N W],.mk t [.arr8 m l]])
  |_,_=>False
theorem z8e:zp prog 92 z9z:=by
  refine zm zbo (zd ye0 (zd yev zi)) rfl func92 rfl call92 (D:=ylb) ?_ ?_
  ·intro args hp K h
   unfold z9z at h
   split at h
   ·exact Nat.le_of_ble_eq_true rfl
   ·exact Nat.le_of_ble_eq_true rfl
   ·exact h.elim
  ·intro args hp K h
   unfold z9z at h
   split at h
   ·obtain ⟨hp,h⟩:=zq h
    refine za ?_
    exact zf [0] h
   ·obtain ⟨hp,h⟩:=zq h
    refine za ?_
    exact zf [0,1,2,3] h
   ·exact h.elim
def z9v:Spec:=fun args hp K=>match args,hp with
  | [.agg [.str key,.str nonce,.nilptr],.sl 0 0 0 [] n cap],[.mk t [.arr8 m l]]=>Pre (key.length=32∧nonce.length=12∧n≤l.length∧n≤cap∧n≤9223372036854775807)
      (K (.tup []) [.mk t [.arr8 m (xt key nonce (UInt32.ofInt 1) (l.take n)++l.drop n)]])
  | [.agg [.str key,.str nonce,.ptr 0 0 0 []],.sl 3 0 0 [] n cap],[.mk t0 [.ptr 1 0 0 [],.u64 h1,.u64 h2],.mk t1 [.arr8 256 bx,.sl 2 0 0 [] R c],.mk t2 [.arr8 N W],.mk t [.arr8 m l]]=>
      Pre (bx=box∧nonce.length=12∧1≤R∧R≤100∧16*R≤W.length∧n≤l.length∧n≤cap∧n≤9223372036854775807)
      (K (.tup []) [.mk t0 [.ptr 1 0 0 [],.u64 h1,.u64 h2],.mk t1 [.arr8 256 bx,.sl 2 0 0 [] R c],.mk t2 [.arr8 N W],.mk t [.arr8 m (gst W R nonce 2 (l.take n)++l.drop n)]])
  |_,_=>False
theorem z8q:zp prog 91 z9v:=by
  refine zm zbo (zd ycy (zd ye2 zi)) rfl func91 rfl call91 (D:=yk0) ?_ ?_
  ·intro args hp K h
   unfold z9v at h
   split at h
   ·exact Nat.le_of_ble_eq_true rfl
   ·exact Nat.le_of_ble_eq_true rfl
   ·exact h.elim
  ·intro args hp K h
   unfold z9v at h
   split at h
   ·obtain ⟨hp,h⟩:=zq h
    refine za ?_
    exact zf [0] h
   ·obtain ⟨hp,h⟩:=zq h
    refine za ?_
    exact zf [0,1,2,3] h
   ·exact h.elim
end Go.Sym.Z

namespace Go.Sym.Z
open Go Go.Proofs.Tryz Go.Sym.Lp Go.Sym.Gcm Go.Sym.Aes Go.Sym.Pol Go.Sym.Cha
set_option maxRecDepth 100000
attribute [local irreducible] zay yx zgf zew zft xt zb8 xq y3 gst gtg gW gR gH
def yji:List (Nat×List PStep):= [(9,[⟨0,[]⟩,⟨1,[0]⟩,⟨2,[0,1]⟩,⟨3,[0,1,2]⟩,⟨4,[0,1]⟩,⟨6,[0,1,2,3,4]⟩,⟨7,[0,1,2,3,4,6]⟩,⟨8,[0,1,2,3,4]⟩,⟨9,[0,1,2,3,4]⟩,⟨5,[6,7,8,9]⟩,⟨10,[]⟩]),(11,[⟨0,[]⟩,⟨1,[0]⟩,⟨2,[0,1]⟩,⟨3,[0]⟩,⟨4,[]⟩])]
def ymh:List (Nat×List PStep):= [(7,[⟨0,[]⟩,⟨1,[0]⟩,⟨2,[0,1]⟩,⟨3,[0]⟩,⟨4,[]⟩]),(8,[⟨0,[]⟩,⟨1,[0]⟩,⟨2,[]⟩,⟨3,[0,1,2]⟩,⟨4,[0,1,2,3]⟩,⟨5,[0,1,2,3,4]⟩,⟨6,[0,1,2,3,4,5]⟩,⟨7,[0,1,2,3,4]⟩,⟨8,[0,1,2]⟩,⟨9,[]⟩])]
def two (l:List UInt8) (a na b nb:Nat):List UInt8:=(l.drop a).take na++(l.drop b).take nb
def zrg (w:Int) (key nonce aad:List UInt8) (long:Int):Prop:=zdw w key.length∧nonce.length=12∧aad.length≤65536∧long≤65536
instance (w:Int) (key nonce aad:List UInt8) (long:Int):Decidable (zrg w key nonce aad long):=by unfold zrg;exact inferInstance
theorem zwn {l s x:List UInt8} {a na b nb:Nat} (h:s.length=na+nb):zb8 l a na b nb (s++x)=zb8 l a na b nb s:=by
  unfold zb8
  rw [List.take_append_of_le_length (by omega),List.drop_append_of_le_length (by omega),List.take_append_of_le_length (by rw [List.length_drop];omega)]
end Go.Sym.Z

namespace Go.Sym.Z
open Go Go.Proofs.Tryz Go.Sym.Lp Go.Sym.Gcm Go.Sym.Aes Go.Sym.Pol Go.Sym.Cha
set_option maxRecDepth 100000
attribute [local irreducible] zay yx zgf zew zft xt zb8 xq y3 gst gtg gW gR gH y6
end Go.Sym.Z
