/-
  Contracts of functions of the program, each said of symbolic values, and plain laws; no condition beyond each statement's own.
-/
import Derived.Test.YtmmpgjcpielefaaGreatGLStreamActs21
import Derived.Test.YtmmpgjcpielefaaGreatGLStreamActs19
import Derived.Test.YtmmpgjcpielefaaGreatGLStreamActs13
set_option linter.unusedSimpArgs false
set_option linter.unusedVariables false
namespace Go.Sym.Z
open Go Go.Proofs.Tryz Go.Sym.Lp Go.Sym.Cha Go.Sym.Sha Go.Sym.Hk
set_option maxRecDepth 100000
attribute [local irreducible] xb KC HB za1 wrH wrR x9 zet bk kN pdX
def yj0:List (Nat×List PStep):= []
def yh8:List (Nat×List PStep):= [(1,[⟨0,[]⟩,⟨1,[]⟩,⟨3,[0,1]⟩,⟨4,[0,1]⟩,⟨2,[3,4]⟩,⟨5,[]⟩,⟨6,[]⟩,⟨7,[]⟩])]
theorem zvp {n:Int} {x:List UInt8} (h:x.length=bk n):(wrR n [] x).length=0:=by
  rw [zfm,h,List.length_nil,Nat.zero_add,Nat.mod_self]
def zuu:Spec:=fun args hp K=>match args,hp with
  | [.int n,.str key],[]=>Pre (key.length≤140737488351232)
      (ye (decide (n=256∨n=384))
        (K (.tup [.agg [.ptr 0 0 0 [],.ptr 1 0 0 []],.int 0]) [.mk 248 [.int n,.arr64 8 (mP n key 54),.arr64 80 KC,.nilsl,.u64 (UInt64.ofNat (bk n))],.mk 248 [.int n,.arr64 8 (mP n key 92),.arr64 80 KC,.nilsl,.u64 (UInt64.ofNat (bk n))]])
        (K (.tup [.agg [.nilptr,.nilptr],.int 300]) []))
  |_,_=>False
theorem z7j:zp prog 156 zuu:=by
  refine zm zdt (zd z5v (zd yeu (zd zkl zi))) rfl func156 rfl call156 (D:=yj0) ?_ ?_
  ·intro args hp K h
   unfold zuu at h
   split at h
   ·exact Nat.le_of_ble_eq_true rfl
   ·exact h.elim
  ·intro args hp K h
   unfold zuu at h
   split at h
   ·rename_i n key
    obtain ⟨hk,h⟩:=zq h
    obtain ⟨ht,hf⟩:=z8 h
    by_cases hn:n=256∨n=384
    ·have h:=ht (decide_eq_true hn)
     have hd:=decide_eq_true hn
     have hkc:=zog
     have hl:=zn2 n
     have hp:=And.intro hn hk
     have hbk:bk n≤128:=by unfold bk;split<;>omega
     have hx1:=za4 (bk n) (kN n key) 54
     have hx2:=za4 (bk n) (kN n key) 92
     have hz1:=zvp hx1
     have hz2:=zvp hx2
     have ha:(0:UInt64)+UInt64.ofNat (bk n)=UInt64.ofNat (bk n):=UInt64.zero_add _
     repeat ((conv=>whnf);first|refine zu ?_|refine zg ?_|refine zh ?_|refine zb ?_|refine zr (by first|exact hd) ?_|refine zj (by first|exact hd) ?_|refine zk (by first|exact hd) ?_)
     conv=>whnf
     rw [hx1,hx2,ha]
     conv=>whnf
     exact zf [1,2] h
    ·have h:=hf (decide_eq_false hn)
     have hd:=decide_eq_false hn
     repeat ((conv=>whnf);first|refine zu ?_|refine zg ?_|refine zh ?_|refine zb ?_|refine zr (by first|exact hd) ?_|refine zj (by first|exact hd) ?_|refine zk (by first|exact hd) ?_)
     conv=>whnf
     exact zf [] h
   ·exact h.elim
def zze:Spec:=fun args hp K=>match args,hp with
  | [.agg [.ptr 0 0 0 [],.ptr 1 0 0 []],.str s],[.mk t0 [.int n,.arr64 8 H1,.arr64 80 k1,.nilsl,.u64 a1],.mk t1 [.int n2,.arr64 8 H2,.arr64 80 k2,.nilsl,.u64 a2]]=>
      Pre ((n=256∨n=384)∧n2=n∧t0=248∧t1=248∧k1=KC∧k2=KC∧a1=UInt64.ofNat (bk n)∧a2=UInt64.ofNat (bk n)∧H1.length=8∧H2.length=8∧s.length≤1073741824)
      (K (.str (dgF n H2 (dgF n H1 s))) [.mk t0 [.int n,.arr64 8 H1,.arr64 80 k1,.nilsl,.u64 a1],.mk t1 [.int n2,.arr64 8 H2,.arr64 80 k2,.nilsl,.u64 a2]])
  |_,_=>False
theorem yc1:zp prog 157 zze:=by
  refine zm zdt (zd zz2 (zd zkl (zd z1o zi))) rfl func157 rfl call157 (D:=yh8) ?_ ?_
  ·intro args hp K h
   unfold zze at h
   split at h
   ·exact Nat.le_of_ble_eq_true rfl
   ·exact h.elim
  ·intro args hp K h
   unfold zze at h
   split at h
   ·rename_i s t0 n H1 k1 a1 t1 n2 H2 k2 a2
    obtain ⟨⟨hn,e2,e3,e4,e5,e6,e7,e8,hl1,hl2,hs⟩,h'⟩:=zq h
    clear h
    subst e2 e3 e4 e5 e6 e7 e8
    have hkc:=zog
    have hpf1:H1.length=8∧KC.length=80∧248=248:=⟨hl1,hkc,rfl⟩
    have hpf2:H2.length=8∧KC.length=80∧248=248:=⟨hl2,hkc,rfl⟩
    have hw1:=zbr (n:=n2) (k:=KC) hl1 [] s
    have hr1:=ztc n2 [] s
    by_cases hz:(wrR n2 [] s).length=0
    ·skip
     have hz0:wrR n2 [] s= []:=List.length_eq_zero_iff.1 hz
     have hps:(wrH n2 KC H1 [] s).length=8∧KC.length=80∧248=248∧(n2=256∨n2=384):=⟨hw1,hkc,rfl,hn⟩
     obtain ⟨D,hD⟩: ∃D,D=(zet n2 KC (wrH n2 KC H1 [] s) [] (UInt64.ofNat (bk n2)+UInt64.ofNat s.length)):=⟨_,rfl⟩
     have hDl:D.length=dl n2:=by rw [hD];exact zj8 hn _ _ _ _
     have hDe:dgF n2 H1 s=D:=by unfold dgF;rw [hz0,←hD]
     have hdl:dl n2≤48:=by unfold dl;split<;>decide
     have hw2:=zbr (n:=n2) (k:=KC) hl2 [] D
     have hr2:=ztc n2 [] D
     have hnz: ¬(wrR n2 [] D).length=0:=by
       rw [zfm,List.length_nil,Nat.zero_add,hDl]
       unfold dl bk
       rcases hn with rfl|rfl<;>decide
     rw [hDe] at h'
     refine za ?_
     rw [←hD]
     refine za ?_
     refine yi fun t2=>?_
     have htk2:List.take (wrR n2 [] D).length (wrR n2 [] D++t2)=wrR n2 [] D:=List.take_left' rfl
     have hps2:(wrH n2 KC H2 [] D).length=8∧KC.length=80∧248=248∧(n2=256∨n2=384)∧0<(wrR n2 [] D).length∧(wrR n2 [] D).length<bk n2∧(wrR n2 [] D).length≤(wrR n2 [] D).length+t2.length∧(wrR n2 [] D).length≤(wrR n2 [] D++t2).length:=⟨hw2,hkc,rfl,hn,by omega,hr2,by omega,by rw [List.length_append];omega⟩
     refine za ?_
     rw [htk2]
     conv=>whnf
     exact zf [0,1] h'
    ·skip
     obtain ⟨D,hD⟩: ∃D,D=(zet n2 KC (wrH n2 KC H1 [] s) (wrR n2 [] s) (UInt64.ofNat (bk n2)+UInt64.ofNat s.length)):=⟨_,rfl⟩
     have hDl:D.length=dl n2:=by rw [hD];exact zj8 hn _ _ _ _
     have hDe:dgF n2 H1 s=D:=by unfold dgF;rw [←hD]
     have hdl:dl n2≤48:=by unfold dl;split<;>decide
     have hw2:=zbr (n:=n2) (k:=KC) hl2 [] D
     have hr2:=ztc n2 [] D
     have hnz: ¬(wrR n2 [] D).length=0:=by
       rw [zfm,List.length_nil,Nat.zero_add,hDl]
       unfold dl bk
       rcases hn with rfl|rfl<;>decide
     rw [hDe] at h'
     refine za ?_
     refine yi fun t1=>?_
     have htk:List.take (wrR n2 [] s).length (wrR n2 [] s++t1)=wrR n2 [] s:=List.take_left' rfl
     have hps:(wrH n2 KC H1 [] s).length=8∧KC.length=80∧248=248∧(n2=256∨n2=384)∧0<(wrR n2 [] s).length∧(wrR n2 [] s).length<bk n2∧(wrR n2 [] s).length≤(wrR n2 [] s).length+t1.length∧(wrR n2 [] s).length≤(wrR n2 [] s++t1).length:=⟨hw1,hkc,rfl,hn,by omega,hr1,by omega,by rw [List.length_append];omega⟩
     refine za ?_
     rw [htk,←hD]
     refine za ?_
     refine yi fun t2=>?_
     have htk2:List.take (wrR n2 [] D).length (wrR n2 [] D++t2)=wrR n2 [] D:=List.take_left' rfl
     have hps2:(wrH n2 KC H2 [] D).length=8∧KC.length=80∧248=248∧(n2=256∨n2=384)∧0<(wrR n2 [] D).length∧(wrR n2 [] D).length<bk n2∧(wrR n2 [] D).length≤(wrR n2 [] D).length+t2.length∧(wrR n2 [] D).length≤(wrR n2 [] D++t2).length:=⟨hw2,hkc,rfl,hn,by omega,hr2,by omega,by rw [List.length_append];omega⟩
     refine za ?_
     rw [htk2]
     conv=>whnf
     exact zf [0,1] h'
   ·exact h.elim
end Go.Sym.Z

namespace Go.Sym.Z
open Go Go.Proofs.Tryz Go.Sym.Lp Go.Sym.Cha
set_option maxRecDepth 100000
attribute [local irreducible] blk beg zph
def yg3:List (Nat×List PStep):= []
def yhm:List (Nat×List PStep):= []
def yj8:List (Nat×List PStep):= [(8,[⟨0,[]⟩,⟨1,[0]⟩,⟨2,[]⟩,⟨3,[]⟩,⟨4,[0,1,2,3]⟩,⟨5,[0,1,2,3]⟩,⟨6,[0,1,2,3]⟩,⟨7,[]⟩,⟨8,[]⟩,⟨9,[]⟩])]
def ztl:Spec:=fun args hp K=>match args,hp with
  | [.str key,.int c,.str nonce],[]=>K (.bool (decide (key.length=32∧(0≤c∧c≤4294967295)∧nonce.length=12))) []
  |_,_=>False
theorem z70:zp prog 162 ztl:=by
  refine zm za0 zi rfl func162 rfl call162 (D:=yg3) ?_ ?_
  ·intro args hp K h
   unfold ztl at h
   split at h
   ·exact Nat.le_of_ble_eq_true rfl
   ·exact h.elim
  ·intro args hp K h
   unfold ztl at h
   split at h
   ·rename_i key c nonce
    by_cases h1:key.length=32
    ·by_cases h2:0≤c
     ·by_cases h3:c≤4294967295
      ·by_cases h4:nonce.length=12
       ·rw [decide_eq_true ⟨h1,⟨h2,h3⟩,h4⟩] at h
        have d4:decide ((nonce.length:Int)=12)=true:=decide_eq_true (by omega)
        refine za ?_
        rw [d4]
        conv=>whnf
        exact zf [] h
       ·rw [decide_eq_false fun hh=>h4 hh.2.2] at h
        have d4:decide ((nonce.length:Int)=12)=false:=decide_eq_false (by omega)
        refine za ?_
        rw [d4]
        conv=>whnf
        exact zf [] h
      ·rw [decide_eq_false fun hh=>h3 hh.2.1.2] at h
       refine za ?_
       exact zf [] h
     ·rw [decide_eq_false fun hh=>h2 hh.2.1.1] at h
      refine za ?_
      exact zf [] h
    ·rw [decide_eq_false fun hh=>h1 hh.1] at h
     refine za ?_
     exact zf [] h
   ·exact h.elim
def zky:Spec:=fun args hp K=>match args,hp with
  | [.str key,.int c,.str nonce],[]=>Pre (key.length=32∧(0≤c∧c≤4294967295)∧nonce.length=12) (K (.tup [.str (blk key nonce (UInt32.ofInt c)),.int 0]) [])
  |_,_=>False
theorem zyu:zp prog 140 zky:=by
  refine zm za0 (zd z70 (zd z0j (zd z05 zi))) rfl func140 rfl call140 (D:=yhm) ?_ ?_
  ·intro args hp K h
   unfold zky at h
   split at h
   ·exact Nat.le_of_ble_eq_true rfl
   ·exact h.elim
  ·intro args hp K h
   unfold zky at h
   split at h
   ·rename_i key c nonce
    obtain ⟨hp0,h⟩:=zq h
    have hd:=decide_eq_true hp0
    have hl:=zm2 key nonce (UInt32.ofInt c)
    have hk:key.length=32∧nonce.length=12:=⟨hp0.1,hp0.2.2⟩
    have hb:=zfq key nonce (UInt32.ofInt c)
    have e:List.take 64 (List.drop (off []) (zph (beg key nonce (UInt32.ofInt c))))=blk key nonce (UInt32.ofInt c):=by
      unfold blk;exact List.take_of_length_le (Nat.le_of_eq (zg6 _))
    have hb2:=zg6 (beg key nonce (UInt32.ofInt c))
    repeat ((conv=>whnf);first|refine zu ?_|refine zg ?_|refine zh ?_|refine zb ?_|refine zr (by first|exact hd|(rw [hd];rfl)) ?_|refine zj (by first|exact hd|(rw [hd];rfl)) ?_|refine zk (by first|exact hd|(rw [hd];rfl)) ?_)
    conv=>whnf
    rw [e]
    conv=>whnf
    exact zf [] h
   ·exact h.elim
structure Xs (n:Nat) where
  t:Nat
  x:Nat
  k:Nat
  c:Nat
  hn:k+64*t=n∨(k=0∧n≤64*t)
  hx:0<k→x=64*t
  hc:k≤c
def zzi:Spec:=fun args hp K=>match args,hp with
  | [.str key,.int c,.str nonce,.sl 0 0 0 [] n cap],[.mk t [.arr8 m l]]=>Pre (key.length=32∧nonce.length=12∧n≤l.length∧n≤cap∧n≤9223372036854775807)
      (K (.tup []) [.mk t [.arr8 m (xt key nonce (UInt32.ofInt c) (l.take n)++l.drop n)]])
  |_,_=>False
theorem ycy:zp prog 116 zzi:=by
  refine zm za0 (zd z0j (zd z05 zi)) rfl func116 rfl call116 (D:=yj8) ?_ ?_
  ·intro args hp K h
   unfold zzi at h
   split at h
   ·exact Nat.le_of_ble_eq_true rfl
   ·exact h.elim
  ·intro args hp K h
   unfold zzi at h
   split at h
   ·rename_i key c nonce n cap t m l
    obtain ⟨⟨hk,hn,hl,hcap,hmax⟩,h⟩:=zq h
    rw [←z4f hl] at h
    have hkn:key.length=32∧nonce.length=12:=⟨hk,hn⟩
    refine za ?_
    refine zt (Option (Xs n)) (fun q=>match q with
      |none=>⟨[(0,.str key),(1,.int c),(2,.str nonce),(3,.sl 0 0 0 [] n cap),(8,.u32 (UInt32.ofInt c))],[.mk t [.arr8 m l]]⟩
      |some s=>⟨[(0,.str key),(1,.int c),(2,.str nonce),(3,.sl 0 0 0 [(s.x,1)] s.k s.c),(8,.u32 (UInt32.ofInt c+UInt32.ofNat s.t))],[.mk t [.arr8 m (zlb key nonce (UInt32.ofInt c) l (n-s.k))]]⟩)
      (fun q=>match q with|none=>n+1|some s=>s.k) none [0] ?_ ?_
    ·exact zn
    ·intro q
     cases q with
     |none=>
      by_cases h4:0<n
      ·have hD:64*0=0:=rfl
       have hct:UInt32.ofInt c+UInt32.ofNat 0=UInt32.ofInt c:=UInt32.add_zero _
       have hbg:=zm2 key nonce (UInt32.ofInt c)
       have hmn:(min (n:Int) 64).toNat=min n 64:=by omega
       refine za ?_
       refine zt (Ix ((min n 64))) (fun r=>⟨[(0,.str key),(1,.int c),(2,.str nonce),(3,.sl 0 0 0 [] n cap),(8,.u32 (UInt32.ofInt c)),(9,.ptr 1 0 0 []),(10,.int (min (n:Int) 64)),(27,.int (min (n:Int) 64)),(28,.int r.i)],[.mk t [.arr8 m (zlb key nonce (UInt32.ofInt c) l (0+r.i))],.mk 187 [.arr8 64 (blk key nonce (UInt32.ofInt c))]]⟩) (fun r=>((min n 64))-r.i) ⟨0,Nat.zero_le _⟩ [0,1] ?_ ?_
       ·repeat ((conv=>whnf);refine zb ?_)
        conv=>whnf
        exact zo (congrArg (fun x=>SV.agg [SV.arr8 64 x]) (by unfold blk;rfl))
       ·intro r
        have hri:=r.hi
        have hlr:(zlb key nonce (UInt32.ofInt c) l (0+r.i)).length=l.length:=yg (l:=l) (a:=0) (i:=0+r.i) (by omega) (ze2 key nonce (UInt32.ofInt c) l)
        have hbl:=zfq key nonce (UInt32.ofInt c)
        have hR:((r.i:Int)).toNat=r.i:=Int.toNat_natCast _
        by_cases h5:r.i<min n 64
        ·refine za ?_
         refine ⟨⟨r.i+1,h5⟩,[0,1],by show ((min n 64))-(r.i+1)<((min n 64))-r.i;omega,?_⟩
         repeat ((conv=>whnf);refine zb ?_)
         conv=>whnf
         refine zv (congrArg (fun x=>SV.agg [SV.arr8 m x]) (z9 (by omega) ?hv ?hkk)) ?_
         case hkk=>show r.i=0+(0+r.i);omega
         case hv=>
           show List.getD (ovr l 0 (ze2 key nonce (UInt32.ofInt c) l) (0+r.i)) (r.i) 0^^^List.getD (blk key nonce (UInt32.ofInt c)) r.i 0=_
           rw [yw (by omega) _ (by omega)]
           unfold ze2
           rw [show (0+r.i)/ 64=0 by omega,show (0+r.i)%64=r.i by omega,hct,Nat.zero_add]
         exact zn
        ·have e5:r.i=min n 64:=by omega
         rw [e5]
         refine za ?_
         rw [hmn]
         refine ⟨some ⟨0+1,slO cap (min n 64),n-min n 64,cap-min n 64,by omega,fun h0=>by
           have hne:cap≠min n 64:=by omega
           rw [y7 hne];omega,by omega⟩,[0],by show n-min n 64<n+1;omega,?_⟩
         repeat ((conv=>whnf);refine zb ?_)
         conv=>whnf
         exact zo (congrArg (fun k=>SV.agg [SV.arr8 m (zlb key nonce (UInt32.ofInt c) l k)]) (by show 0+min n 64=n-(n-min n 64);omega))
      ·have e4:n=0:=by omega
       refine za ?_
       refine yu (hp':= [.mk t [.arr8 m (zlb key nonce (UInt32.ofInt c) l n)]]) [0] h ?_
       repeat ((conv=>whnf);refine zb ?_)
       conv=>whnf
       exact zo (congrArg (fun x=>SV.agg [SV.arr8 m x]) (by rw [e4];unfold zlb;exact (zaj _ _ _).symm))
     |some s=>
      have hsn:=s.hn
      have hsx:=s.hx
      have hsc:=s.hc
      have hls:=yg (l:=l) (a:=0) (i:=n-s.k) (by omega) (ze2 key nonce (UInt32.ofInt c) l)
      by_cases h4:0<s.k
      ·have hX:=hsx h4
       have hD:n-s.k=64*s.t:=by omega
       have hbg:=zm2 key nonce (UInt32.ofInt c+UInt32.ofNat s.t)
       have hmn:(min (s.k:Int) 64).toNat=min s.k 64:=by omega
       refine za ?_
       refine zt (Ix ((min s.k 64))) (fun r=>⟨[(0,.str key),(1,.int c),(2,.str nonce),(3,.sl 0 0 0 [(s.x,1)] s.k s.c),(8,.u32 (UInt32.ofInt c+UInt32.ofNat s.t)),(9,.ptr 1 0 0 []),(10,.int (min (s.k:Int) 64)),(27,.int (min (s.k:Int) 64)),(28,.int r.i)],[.mk t [.arr8 m (zlb key nonce (UInt32.ofInt c) l ((n-s.k)+r.i))],.mk 187 [.arr8 64 (blk key nonce (UInt32.ofInt c+UInt32.ofNat s.t))]]⟩) (fun r=>((min s.k 64))-r.i) ⟨0,Nat.zero_le _⟩ [0,1] ?_ ?_
       ·repeat ((conv=>whnf);refine zb ?_)
        conv=>whnf
        exact zo (congrArg (fun x=>SV.agg [SV.arr8 64 x]) (by unfold blk;rfl))
       ·intro r
        have hri:=r.hi
        have hlr:(zlb key nonce (UInt32.ofInt c) l ((n-s.k)+r.i)).length=l.length:=yg (l:=l) (a:=0) (i:=(n-s.k)+r.i) (by omega) (ze2 key nonce (UInt32.ofInt c) l)
        have hbl:=zfq key nonce (UInt32.ofInt c+UInt32.ofNat s.t)
        have hR:((r.i:Int)).toNat=r.i:=Int.toNat_natCast _
        by_cases h5:r.i<min s.k 64
        ·refine za ?_
         refine ⟨⟨r.i+1,h5⟩,[0,1],by show ((min s.k 64))-(r.i+1)<((min s.k 64))-r.i;omega,?_⟩
         repeat ((conv=>whnf);refine zb ?_)
         conv=>whnf
         refine zv (congrArg (fun x=>SV.agg [SV.arr8 m x]) (z9 (by omega) ?hv ?hkk)) ?_
         case hkk=>show s.x+r.i=0+((n-s.k)+r.i);omega
         case hv=>
           show List.getD (ovr l 0 (ze2 key nonce (UInt32.ofInt c) l) ((n-s.k)+r.i)) (s.x+r.i) 0^^^List.getD (blk key nonce (UInt32.ofInt c+UInt32.ofNat s.t)) r.i 0=_
           rw [yw (by omega) _ (by omega)]
           unfold ze2
           rw [show ((n-s.k)+r.i)/ 64=s.t by omega,show ((n-s.k)+r.i)%64=r.i by omega,show s.x+r.i=n-s.k+r.i by omega]
         exact zn
        ·have e5:r.i=min s.k 64:=by omega
         rw [e5]
         refine za ?_
         rw [hmn]
         refine ⟨some ⟨s.t+1,s.x+slO s.c (min s.k 64),s.k-min s.k 64,s.c-min s.k 64,by omega,fun h0=>by
           have hne:s.c≠min s.k 64:=by omega
           rw [y7 hne];omega,by omega⟩,[0],by show s.k-min s.k 64<s.k;omega,?_⟩
         repeat ((conv=>whnf);refine zb ?_)
         conv=>whnf
         refine zv (congrArg (fun k=>SV.agg [SV.arr8 m (zlb key nonce (UInt32.ofInt c) l k)]) (by show (n-s.k)+min s.k 64=n-(s.k-min s.k 64);omega)) ?_
         repeat ((conv=>whnf);refine zb ?_)
         conv=>whnf
         exact zo (congrArg SV.u32 (by show (UInt32.ofInt c+UInt32.ofNat s.t)+UInt32.ofNat 1=UInt32.ofInt c+UInt32.ofNat (s.t+1);exact u32_add _ _))
      ·have e4:s.k=0:=by omega
       refine za ?_
       refine yu (hp':= [.mk t [.arr8 m (zlb key nonce (UInt32.ofInt c) l n)]]) [0] h ?_
       repeat ((conv=>whnf);refine zb ?_)
       conv=>whnf
       exact zo (congrArg (fun k=>SV.agg [SV.arr8 m (zlb key nonce (UInt32.ofInt c) l k)]) (by show n-s.k=n;omega))
   ·exact h.elim
end Go.Sym.Z

namespace Go.Sym.Pol
open Go.Sym.Lp
def pP:Nat:=1361129467683753853853498429727072845819
def ws:List UInt64→Nat
  | [a,b,c,d,e]=>a.toNat+67108864*b.toNat+4503599627370496*c.toNat+302231454903657293676544*d.toNat+20282409603651670423947251286016*e.toNat
  |_=>0
theorem zeh {x:List UInt64} (h:x.length=5): ∃a b c d e,x= [a,b,c,d,e]:=by
  match x,h with
  | [a,b,c,d,e],_=>exact ⟨a,b,c,d,e,rfl⟩
def M26:UInt64:=67108863
theorem zco (x:UInt64):(x>>>(26:UInt64)).toNat=x.toNat/ 67108864:=by
  rw [UInt64.toNat_shiftRight]
  show x.toNat>>>(26%64)=_
  rw [Nat.shiftRight_eq_div_pow]
theorem zbl (x:UInt64):(x&&&M26).toNat=x.toNat%67108864:=by
  rw [UInt64.toNat_and]
  show x.toNat&&&(2^26-1)=_
  rw [Nat.and_two_pow_sub_one_eq_mod]
theorem xn {x y:UInt64} (h:x.toNat+y.toNat<18446744073709551616):(x+y).toNat=x.toNat+y.toNat:=by
  rw [UInt64.toNat_add];exact Nat.mod_eq_of_lt h
theorem z2h {x y:UInt64} (h:x.toNat*y.toNat<18446744073709551616):(x*y).toNat=x.toNat*y.toNat:=by
  rw [UInt64.toNat_mul];exact Nat.mod_eq_of_lt h
def g64 (x:List UInt64) (i:Nat):UInt64:=x.getD i 0
def zbd (x:List UInt64):Nat→List UInt64
  |0=>x
  |i+1=>
   let y:=zbd x i
   let c:=g64 y (i%5)>>>(26:UInt64)
   let z:=y.set (i%5) (g64 y (i%5)&&&M26)
   if i%5=4 then z.set 0 (g64 z 0+5*c) else z.set (i%5+1) (g64 z (i%5+1)+c)
theorem zle (x:List UInt64): ∀i,(zbd x i).length=x.length
  |0=>rfl
  |i+1=>by
   simp only [zbd]
   split<;>simp [zle x i]
def car (x:List UInt64):List UInt64:=zbd x 6
theorem zxb (a b c d e:UInt64):car [a,b,c,d,e]=
    (let c0:=a>>>(26:UInt64);let b1:=b+c0;let c1:=b1>>>(26:UInt64);let c':=c+c1;let c2:=c'>>>(26:UInt64);let d':=d+c2;let c3:=d'>>>(26:UInt64);let e':=e+c3;let c4:=e'>>>(26:UInt64)
     let a':=(a&&&M26)+5*c4;let c5:=a'>>>(26:UInt64)
     [a'&&&M26,(b1&&&M26)+c5,c'&&&M26,d'&&&M26,e'&&&M26]):=rfl
theorem z1p {x:List UInt64} (h:x.length=5) (hb: ∀i,i<5→(g64 x i).toNat<1152921504606846976):
    ∃k,ws x=ws (car x)+k*pP∧(car x).length=5∧(∀i,i<5→(g64 (car x) i).toNat<67108864+1048576)∧(g64 (car x) 4).toNat<67108864:=by
  obtain ⟨a,b,c,d,e,rfl⟩:=zeh h
  have ha:a.toNat<1152921504606846976:=hb 0 (by decide)
  have hb':b.toNat<1152921504606846976:=hb 1 (by decide)
  have hc:c.toNat<1152921504606846976:=hb 2 (by decide)
  have hd:d.toNat<1152921504606846976:=hb 3 (by decide)
  have he:e.toNat<1152921504606846976:=hb 4 (by decide)
  rw [zxb]
  simp only
  have s0:=zco a
  generalize a>>>(26:UInt64)=c0 at*
  have e1:(b+c0).toNat=b.toNat+c0.toNat:=xn (by omega)
  generalize b+c0=b1 at*
  have s1:=zco b1
  generalize hb1:b1>>>(26:UInt64)=c1 at*
  have e2:(c+c1).toNat=c.toNat+c1.toNat:=xn (by omega)
  generalize c+c1=c' at*
  have s2:=zco c'
  generalize c'>>>(26:UInt64)=c2 at*
  have e3:(d+c2).toNat=d.toNat+c2.toNat:=xn (by omega)
  generalize d+c2=d' at*
  have s3:=zco d'
  generalize d'>>>(26:UInt64)=c3 at*
  have e4:(e+c3).toNat=e.toNat+c3.toNat:=xn (by omega)
  generalize e+c3=e' at*
  have s4:=zco e'
  generalize e'>>>(26:UInt64)=c4 at*
  have m5:(5*c4).toNat=5*c4.toNat:=z2h (by show 5*c4.toNat<_;omega)
  have n0:=zbl a
  generalize a&&&M26=a0 at*
  have e5:(a0+5*c4).toNat=a0.toNat+5*c4.toNat:=by rw [xn (by omega),m5]
  generalize a0+5*c4=a' at*
  have s5:=zco a'
  generalize a'>>>(26:UInt64)=c5 at*
  have n1:=zbl b1
  generalize b1&&&M26=b0 at*
  have e6:(b0+c5).toNat=b0.toNat+c5.toNat:=xn (by omega)
  have n2:=zbl a'
  have n3:=zbl c'
  have n4:=zbl d'
  have n5:=zbl e'
  refine ⟨c4.toNat,?_,rfl,?_,?_⟩
  ·simp only [ws]
   rw [e6,n2,n3,n4,n5]
   unfold pP
   omega
  ·intro i hi
   have:i=0∨i=1∨i=2∨i=3∨i=4:=by omega
   rcases this with rfl|rfl|rfl|rfl|rfl
   ·show (a'&&&M26).toNat<_;omega
   ·show (b0+c5).toNat<_;omega
   ·show (c'&&&M26).toNat<_;omega
   ·show (d'&&&M26).toNat<_;omega
   ·show (e'&&&M26).toNat<_;omega
  ·show (e'&&&M26).toNat<_;omega
theorem z5s {x:List UInt64} (h:x.length=5) (hb: ∀i,i<5→i≠1→(g64 x i).toNat<67108864) (hb1:(g64 x 1).toNat<67108864+1048576):
    ∃k,ws x=ws (car x)+k*pP∧(car x).length=5∧(∀i,i<5→(g64 (car x) i).toNat<67108864):=by
  obtain ⟨a,b,c,d,e,rfl⟩:=zeh h
  have ha:a.toNat<67108864:=hb 0 (by decide) (by decide)
  have hb':b.toNat<67108864+1048576:=hb1
  have hc:c.toNat<67108864:=hb 2 (by decide) (by decide)
  have hd:d.toNat<67108864:=hb 3 (by decide) (by decide)
  have he:e.toNat<67108864:=hb 4 (by decide) (by decide)
  rw [zxb]
  simp only
  have s0:=zco a
  generalize a>>>(26:UInt64)=c0 at*
  have e1:(b+c0).toNat=b.toNat+c0.toNat:=xn (by omega)
  generalize b+c0=b1 at*
  have s1:=zco b1
  generalize hb1:b1>>>(26:UInt64)=c1 at*
  have e2:(c+c1).toNat=c.toNat+c1.toNat:=xn (by omega)
  generalize c+c1=c' at*
  have s2:=zco c'
  generalize c'>>>(26:UInt64)=c2 at*
  have e3:(d+c2).toNat=d.toNat+c2.toNat:=xn (by omega)
  generalize d+c2=d' at*
  have s3:=zco d'
  generalize d'>>>(26:UInt64)=c3 at*
  have e4:(e+c3).toNat=e.toNat+c3.toNat:=xn (by omega)
  generalize e+c3=e' at*
  have s4:=zco e'
  generalize e'>>>(26:UInt64)=c4 at*
  have m5:(5*c4).toNat=5*c4.toNat:=z2h (by show 5*c4.toNat<_;omega)
  have n0:=zbl a
  generalize a&&&M26=a0 at*
  have e5:(a0+5*c4).toNat=a0.toNat+5*c4.toNat:=by rw [xn (by omega),m5]
  generalize a0+5*c4=a' at*
  have s5:=zco a'
  generalize a'>>>(26:UInt64)=c5 at*
  have n1:=zbl b1
  generalize b1&&&M26=b0 at*
  have e6:(b0+c5).toNat=b0.toNat+c5.toNat:=xn (by omega)
  have n2:=zbl a'
  have n3:=zbl c'
  have n4:=zbl d'
  have n5:=zbl e'
  refine ⟨c4.toNat,?_,rfl,?_⟩
  ·simp only [ws]
   rw [e6,n2,n3,n4,n5]
   unfold pP
   omega
  ·intro i hi
   have:i=0∨i=1∨i=2∨i=3∨i=4:=by omega
   rcases this with rfl|rfl|rfl|rfl|rfl
   ·show (a'&&&M26).toNat<_;omega
   ·show (b0+c5).toNat<_;omega
   ·show (c'&&&M26).toNat<_;omega
   ·show (d'&&&M26).toNat<_;omega
   ·show (e'&&&M26).toNat<_;omega
def ztz (x r:List UInt64) (i k:Nat):UInt64:=if 5≤i+k then g64 x i*g64 r k*5 else g64 x i*g64 r k
def xu (x r:List UInt64):Nat→List UInt64
  |0=> [0,0,0,0,0]
  |n+1=>(xu x r n).set ((n/ 5+n%5)%5) (g64 (xu x r n) ((n/ 5+n%5)%5)+ztz x r (n/ 5) (n%5))
theorem zb0 (x r:List UInt64): ∀n,(xu x r n).length=5
  |0=>rfl
  |n+1=>by simp only [xu,List.length_set];exact zb0 x r n
theorem x8 (x r:List UInt64) (n:Nat):xu x r (n+1)=(xu x r n).set ((n/ 5+n%5)%5) (g64 (xu x r n) ((n/ 5+n%5)%5)+ztz x r (n/ 5) (n%5)):=rfl
theorem yif (a b c d e r s t u v:UInt64):xu [a,b,c,d,e] [r,s,t,u,v] 25= [0+a*r+b*v*5+c*u*5+d*t*5+e*s*5,0+a*s+b*r+c*v*5+d*u*5+e*t*5,0+a*t+b*s+c*r+d*v*5+e*u*5,0+a*u+b*t+c*s+d*r+e*v*5,0+a*v+b*u+c*t+d*s+e*r]:=by
  have h1:xu [a,b,c,d,e] [r,s,t,u,v] 1= [0+a*r,0,0,0,0]:=rfl
  have h2:xu [a,b,c,d,e] [r,s,t,u,v] 2= [0+a*r,0+a*s,0,0,0]:=by rw [x8 _ _ 1,h1];rfl
  have h3:xu [a,b,c,d,e] [r,s,t,u,v] 3= [0+a*r,0+a*s,0+a*t,0,0]:=by rw [x8 _ _ 2,h2];rfl
  have h4:xu [a,b,c,d,e] [r,s,t,u,v] 4= [0+a*r,0+a*s,0+a*t,0+a*u,0]:=by rw [x8 _ _ 3,h3];rfl
  have h5:xu [a,b,c,d,e] [r,s,t,u,v] 5= [0+a*r,0+a*s,0+a*t,0+a*u,0+a*v]:=by rw [x8 _ _ 4,h4];rfl
  have h6:xu [a,b,c,d,e] [r,s,t,u,v] 6= [0+a*r,0+a*s+b*r,0+a*t,0+a*u,0+a*v]:=by rw [x8 _ _ 5,h5];rfl
  have h7:xu [a,b,c,d,e] [r,s,t,u,v] 7= [0+a*r,0+a*s+b*r,0+a*t+b*s,0+a*u,0+a*v]:=by rw [x8 _ _ 6,h6];rfl
  have h8:xu [a,b,c,d,e] [r,s,t,u,v] 8= [0+a*r,0+a*s+b*r,0+a*t+b*s,0+a*u+b*t,0+a*v]:=by rw [x8 _ _ 7,h7];rfl
  have h9:xu [a,b,c,d,e] [r,s,t,u,v] 9= [0+a*r,0+a*s+b*r,0+a*t+b*s,0+a*u+b*t,0+a*v+b*u]:=by rw [x8 _ _ 8,h8];rfl
  have h10:xu [a,b,c,d,e] [r,s,t,u,v] 10= [0+a*r+b*v*5,0+a*s+b*r,0+a*t+b*s,0+a*u+b*t,0+a*v+b*u]:=by rw [x8 _ _ 9,h9];rfl
  have h11:xu [a,b,c,d,e] [r,s,t,u,v] 11= [0+a*r+b*v*5,0+a*s+b*r,0+a*t+b*s+c*r,0+a*u+b*t,0+a*v+b*u]:=by rw [x8 _ _ 10,h10];rfl
  have h12:xu [a,b,c,d,e] [r,s,t,u,v] 12= [0+a*r+b*v*5,0+a*s+b*r,0+a*t+b*s+c*r,0+a*u+b*t+c*s,0+a*v+b*u]:=by rw [x8 _ _ 11,h11];rfl
  have h13:xu [a,b,c,d,e] [r,s,t,u,v] 13= [0+a*r+b*v*5,0+a*s+b*r,0+a*t+b*s+c*r,0+a*u+b*t+c*s,0+a*v+b*u+c*t]:=by rw [x8 _ _ 12,h12];rfl
  have h14:xu [a,b,c,d,e] [r,s,t,u,v] 14= [0+a*r+b*v*5+c*u*5,0+a*s+b*r,0+a*t+b*s+c*r,0+a*u+b*t+c*s,0+a*v+b*u+c*t]:=by rw [x8 _ _ 13,h13];rfl
  have h15:xu [a,b,c,d,e] [r,s,t,u,v] 15= [0+a*r+b*v*5+c*u*5,0+a*s+b*r+c*v*5,0+a*t+b*s+c*r,0+a*u+b*t+c*s,0+a*v+b*u+c*t]:=by rw [x8 _ _ 14,h14];rfl
  have h16:xu [a,b,c,d,e] [r,s,t,u,v] 16= [0+a*r+b*v*5+c*u*5,0+a*s+b*r+c*v*5,0+a*t+b*s+c*r,0+a*u+b*t+c*s+d*r,0+a*v+b*u+c*t]:=by rw [x8 _ _ 15,h15];rfl
  have h17:xu [a,b,c,d,e] [r,s,t,u,v] 17= [0+a*r+b*v*5+c*u*5,0+a*s+b*r+c*v*5,0+a*t+b*s+c*r,0+a*u+b*t+c*s+d*r,0+a*v+b*u+c*t+d*s]:=by rw [x8 _ _ 16,h16];rfl
  have h18:xu [a,b,c,d,e] [r,s,t,u,v] 18= [0+a*r+b*v*5+c*u*5+d*t*5,0+a*s+b*r+c*v*5,0+a*t+b*s+c*r,0+a*u+b*t+c*s+d*r,0+a*v+b*u+c*t+d*s]:=by rw [x8 _ _ 17,h17];rfl
  have h19:xu [a,b,c,d,e] [r,s,t,u,v] 19= [0+a*r+b*v*5+c*u*5+d*t*5,0+a*s+b*r+c*v*5+d*u*5,0+a*t+b*s+c*r,0+a*u+b*t+c*s+d*r,0+a*v+b*u+c*t+d*s]:=by rw [x8 _ _ 18,h18];rfl
  have h20:xu [a,b,c,d,e] [r,s,t,u,v] 20= [0+a*r+b*v*5+c*u*5+d*t*5,0+a*s+b*r+c*v*5+d*u*5,0+a*t+b*s+c*r+d*v*5,0+a*u+b*t+c*s+d*r,0+a*v+b*u+c*t+d*s]:=by rw [x8 _ _ 19,h19];rfl
  have h21:xu [a,b,c,d,e] [r,s,t,u,v] 21= [0+a*r+b*v*5+c*u*5+d*t*5,0+a*s+b*r+c*v*5+d*u*5,0+a*t+b*s+c*r+d*v*5,0+a*u+b*t+c*s+d*r,0+a*v+b*u+c*t+d*s+e*r]:=by rw [x8 _ _ 20,h20];rfl
  have h22:xu [a,b,c,d,e] [r,s,t,u,v] 22= [0+a*r+b*v*5+c*u*5+d*t*5+e*s*5,0+a*s+b*r+c*v*5+d*u*5,0+a*t+b*s+c*r+d*v*5,0+a*u+b*t+c*s+d*r,0+a*v+b*u+c*t+d*s+e*r]:=by rw [x8 _ _ 21,h21];rfl
  have h23:xu [a,b,c,d,e] [r,s,t,u,v] 23= [0+a*r+b*v*5+c*u*5+d*t*5+e*s*5,0+a*s+b*r+c*v*5+d*u*5+e*t*5,0+a*t+b*s+c*r+d*v*5,0+a*u+b*t+c*s+d*r,0+a*v+b*u+c*t+d*s+e*r]:=by rw [x8 _ _ 22,h22];rfl
  have h24:xu [a,b,c,d,e] [r,s,t,u,v] 24= [0+a*r+b*v*5+c*u*5+d*t*5+e*s*5,0+a*s+b*r+c*v*5+d*u*5+e*t*5,0+a*t+b*s+c*r+d*v*5+e*u*5,0+a*u+b*t+c*s+d*r,0+a*v+b*u+c*t+d*s+e*r]:=by rw [x8 _ _ 23,h23];rfl
  have h25:xu [a,b,c,d,e] [r,s,t,u,v] 25= [0+a*r+b*v*5+c*u*5+d*t*5+e*s*5,0+a*s+b*r+c*v*5+d*u*5+e*t*5,0+a*t+b*s+c*r+d*v*5+e*u*5,0+a*u+b*t+c*s+d*r+e*v*5,0+a*v+b*u+c*t+d*s+e*r]:=by rw [x8 _ _ 24,h24];rfl
  exact h25
def zgr (x r:List UInt64):List UInt64:=car (xu x r 25)
theorem yam {x y X Y:Nat} (hx:x≤X) (hy:y≤Y):x*y≤X*Y:=Nat.mul_le_mul hx hy
theorem z61 {x r:List UInt64} (hx:x.length=5) (hr:r.length=5) (bx: ∀i,i<5→(g64 x i).toNat<268435456) (br: ∀i,i<5→(g64 r i).toNat<67108864):
    (∃k,ws x*ws r=ws (xu x r 25)+k*pP)∧ ∀i,i<5→(g64 (xu x r 25) i).toNat<1152921504606846976:=by
  obtain ⟨a,b,c,d,e,rfl⟩:=zeh hx
  obtain ⟨r,s,t,u,v,rfl⟩:=zeh hr
  have ha:a.toNat≤268435455:=Nat.le_of_lt_succ (bx 0 (by decide))
  have hb:b.toNat≤268435455:=Nat.le_of_lt_succ (bx 1 (by decide))
  have hc:c.toNat≤268435455:=Nat.le_of_lt_succ (bx 2 (by decide))
  have hd:d.toNat≤268435455:=Nat.le_of_lt_succ (bx 3 (by decide))
  have he:e.toNat≤268435455:=Nat.le_of_lt_succ (bx 4 (by decide))
  have hr':r.toNat≤67108863:=Nat.le_of_lt_succ (br 0 (by decide))
  have hs:s.toNat≤67108863:=Nat.le_of_lt_succ (br 1 (by decide))
  have ht:t.toNat≤67108863:=Nat.le_of_lt_succ (br 2 (by decide))
  have hu:u.toNat≤67108863:=Nat.le_of_lt_succ (br 3 (by decide))
  have hv:v.toNat≤67108863:=Nat.le_of_lt_succ (br 4 (by decide))
  rw [yif]
  have one: ∀{p q:UInt64},p.toNat≤268435455→q.toNat≤67108863→(p*q).toNat=p.toNat*q.toNat∧p.toNat*q.toNat≤18014398174429185:=fun {p q} hp hq=>by
    have:=yam hp hq
    have hle:p.toNat*q.toNat≤18014398174429185:=Nat.le_trans this (by decide)
    exact ⟨z2h (by omega),hle⟩
  have fv: ∀{p q:UInt64},p.toNat≤268435455→q.toNat≤67108863→(p*q*5).toNat=p.toNat*q.toNat*5∧p.toNat*q.toNat≤18014398174429185:=fun hp hq=>by
    obtain ⟨h1,h2⟩:=one hp hq
    refine ⟨?_,h2⟩
    rw [z2h (by rw [h1];show _*5<_;omega),h1];rfl
  obtain ⟨q00,b00⟩:=one ha hr'
  obtain ⟨q01,b01⟩:=one ha hs
  obtain ⟨q02,b02⟩:=one ha ht
  obtain ⟨q03,b03⟩:=one ha hu
  obtain ⟨q04,b04⟩:=one ha hv
  obtain ⟨q10,b10⟩:=one hb hr'
  obtain ⟨q11,b11⟩:=one hb hs
  obtain ⟨q12,b12⟩:=one hb ht
  obtain ⟨q13,b13⟩:=one hb hu
  obtain ⟨q14,b14⟩:=fv hb hv
  obtain ⟨q20,b20⟩:=one hc hr'
  obtain ⟨q21,b21⟩:=one hc hs
  obtain ⟨q22,b22⟩:=one hc ht
  obtain ⟨q23,b23⟩:=fv hc hu
  obtain ⟨q24,b24⟩:=fv hc hv
  obtain ⟨q30,b30⟩:=one hd hr'
  obtain ⟨q31,b31⟩:=one hd hs
  obtain ⟨q32,b32⟩:=fv hd ht
  obtain ⟨q33,b33⟩:=fv hd hu
  obtain ⟨q34,b34⟩:=fv hd hv
  obtain ⟨q40,b40⟩:=one he hr'
  obtain ⟨q41,b41⟩:=fv he hs
  obtain ⟨q42,b42⟩:=fv he ht
  obtain ⟨q43,b43⟩:=fv he hu
  obtain ⟨q44,b44⟩:=fv he hv
  have w00:(0+a*r).toNat=a.toNat*r.toNat:=by rw [xn (by rw [q00];show 0+_<_;omega),q00];show 0+_=_;omega
  have w01:(0+a*r+b*v*5).toNat=a.toNat*r.toNat+b.toNat*v.toNat*5:=by rw [xn (by rw [w00,q14];omega),w00,q14]
  have w02:(0+a*r+b*v*5+c*u*5).toNat=a.toNat*r.toNat+b.toNat*v.toNat*5+c.toNat*u.toNat*5:=by rw [xn (by rw [w01,q23];omega),w01,q23]
  have w03:(0+a*r+b*v*5+c*u*5+d*t*5).toNat=a.toNat*r.toNat+b.toNat*v.toNat*5+c.toNat*u.toNat*5+d.toNat*t.toNat*5:=by rw [xn (by rw [w02,q32];omega),w02,q32]
  have w04:(0+a*r+b*v*5+c*u*5+d*t*5+e*s*5).toNat=a.toNat*r.toNat+b.toNat*v.toNat*5+c.toNat*u.toNat*5+d.toNat*t.toNat*5+e.toNat*s.toNat*5:=by rw [xn (by rw [w03,q41];omega),w03,q41]
  have w10:(0+a*s).toNat=a.toNat*s.toNat:=by rw [xn (by rw [q01];show 0+_<_;omega),q01];show 0+_=_;omega
  have w11:(0+a*s+b*r).toNat=a.toNat*s.toNat+b.toNat*r.toNat:=by rw [xn (by rw [w10,q10];omega),w10,q10]
  have w12:(0+a*s+b*r+c*v*5).toNat=a.toNat*s.toNat+b.toNat*r.toNat+c.toNat*v.toNat*5:=by rw [xn (by rw [w11,q24];omega),w11,q24]
  have w13:(0+a*s+b*r+c*v*5+d*u*5).toNat=a.toNat*s.toNat+b.toNat*r.toNat+c.toNat*v.toNat*5+d.toNat*u.toNat*5:=by rw [xn (by rw [w12,q33];omega),w12,q33]
  have w14:(0+a*s+b*r+c*v*5+d*u*5+e*t*5).toNat=a.toNat*s.toNat+b.toNat*r.toNat+c.toNat*v.toNat*5+d.toNat*u.toNat*5+e.toNat*t.toNat*5:=by rw [xn (by rw [w13,q42];omega),w13,q42]
  have w20:(0+a*t).toNat=a.toNat*t.toNat:=by rw [xn (by rw [q02];show 0+_<_;omega),q02];show 0+_=_;omega
  have w21:(0+a*t+b*s).toNat=a.toNat*t.toNat+b.toNat*s.toNat:=by rw [xn (by rw [w20,q11];omega),w20,q11]
  have w22:(0+a*t+b*s+c*r).toNat=a.toNat*t.toNat+b.toNat*s.toNat+c.toNat*r.toNat:=by rw [xn (by rw [w21,q20];omega),w21,q20]
  have w23:(0+a*t+b*s+c*r+d*v*5).toNat=a.toNat*t.toNat+b.toNat*s.toNat+c.toNat*r.toNat+d.toNat*v.toNat*5:=by rw [xn (by rw [w22,q34];omega),w22,q34]
  have w24:(0+a*t+b*s+c*r+d*v*5+e*u*5).toNat=a.toNat*t.toNat+b.toNat*s.toNat+c.toNat*r.toNat+d.toNat*v.toNat*5+e.toNat*u.toNat*5:=by rw [xn (by rw [w23,q43];omega),w23,q43]
  have w30:(0+a*u).toNat=a.toNat*u.toNat:=by rw [xn (by rw [q03];show 0+_<_;omega),q03];show 0+_=_;omega
  have w31:(0+a*u+b*t).toNat=a.toNat*u.toNat+b.toNat*t.toNat:=by rw [xn (by rw [w30,q12];omega),w30,q12]
  have w32:(0+a*u+b*t+c*s).toNat=a.toNat*u.toNat+b.toNat*t.toNat+c.toNat*s.toNat:=by rw [xn (by rw [w31,q21];omega),w31,q21]
  have w33:(0+a*u+b*t+c*s+d*r).toNat=a.toNat*u.toNat+b.toNat*t.toNat+c.toNat*s.toNat+d.toNat*r.toNat:=by rw [xn (by rw [w32,q30];omega),w32,q30]
  have w34:(0+a*u+b*t+c*s+d*r+e*v*5).toNat=a.toNat*u.toNat+b.toNat*t.toNat+c.toNat*s.toNat+d.toNat*r.toNat+e.toNat*v.toNat*5:=by rw [xn (by rw [w33,q44];omega),w33,q44]
  have w40:(0+a*v).toNat=a.toNat*v.toNat:=by rw [xn (by rw [q04];show 0+_<_;omega),q04];show 0+_=_;omega
  have w41:(0+a*v+b*u).toNat=a.toNat*v.toNat+b.toNat*u.toNat:=by rw [xn (by rw [w40,q13];omega),w40,q13]
  have w42:(0+a*v+b*u+c*t).toNat=a.toNat*v.toNat+b.toNat*u.toNat+c.toNat*t.toNat:=by rw [xn (by rw [w41,q22];omega),w41,q22]
  have w43:(0+a*v+b*u+c*t+d*s).toNat=a.toNat*v.toNat+b.toNat*u.toNat+c.toNat*t.toNat+d.toNat*s.toNat:=by rw [xn (by rw [w42,q31];omega),w42,q31]
  have w44:(0+a*v+b*u+c*t+d*s+e*r).toNat=a.toNat*v.toNat+b.toNat*u.toNat+c.toNat*t.toNat+d.toNat*s.toNat+e.toNat*r.toNat:=by rw [xn (by rw [w43,q40];omega),w43,q40]
  refine ⟨⟨b.toNat*v.toNat*1+c.toNat*u.toNat*1+c.toNat*v.toNat*67108864+d.toNat*t.toNat*1+d.toNat*u.toNat*67108864+d.toNat*v.toNat*4503599627370496+e.toNat*s.toNat*1+e.toNat*t.toNat*67108864+e.toNat*u.toNat*4503599627370496+e.toNat*v.toNat*302231454903657293676544,?_⟩,?_⟩
  ·simp only [ws]
   rw [w04,w14,w24,w34,w44]
   unfold pP
   clear one fv
   generalize a.toNat=a at*
   generalize b.toNat=b at*
   generalize c.toNat=c at*
   generalize d.toNat=d at*
   generalize e.toNat=e at*
   generalize r.toNat=r at*
   generalize s.toNat=s at*
   generalize t.toNat=t at*
   generalize u.toNat=u at*
   generalize v.toNat=v at*
   clear b00 b01 b02 b03 b04 b10 b11 b12 b13 b14 b20 b21 b22 b23 b24 b30 b31 b32 b33 b34 b40 b41 b42 b43 b44 ha hb hc hd he hr' hs ht hu hv
   grind
  ·intro i hi
   have:i=0∨i=1∨i=2∨i=3∨i=4:=by omega
   rcases this with rfl|rfl|rfl|rfl|rfl
   ·show (UInt64.toNat (_+_))<_;rw [w04];omega
   ·show (UInt64.toNat (_+_))<_;rw [w14];omega
   ·show (UInt64.toNat (_+_))<_;rw [w24];omega
   ·show (UInt64.toNat (_+_))<_;rw [w34];omega
   ·show (UInt64.toNat (_+_))<_;rw [w44];omega
end Go.Sym.Pol
namespace Go.Sym.Pol
open Go.Sym.Lp
def zkb (x y:List UInt64):List UInt64:=(List.range 5).map fun i=>g64 x i+g64 y i
theorem zgs (x y:List UInt64):(zkb x y).length=5:=zz _ _
theorem zdu (x:List UInt64):(car x).length=x.length:=zle x 6
theorem z3e (x r:List UInt64):(zgr x r).length=5:=by unfold zgr;rw [zdu,zb0]
theorem zxr (x:List UInt64) (i:Nat) (h: ¬i%5=4):zbd x (i+1)=((zbd x i).set (i%5) (g64 (zbd x i) (i%5)&&&M26)).set (i%5+1) (g64 ((zbd x i).set (i%5) (g64 (zbd x i) (i%5)&&&M26)) (i%5+1)+g64 (zbd x i) (i%5)>>>(26:UInt64)):=by
  simp only [zbd];rw [if_neg h]
theorem zxw (x:List UInt64) (i:Nat) (h:i%5=4):zbd x (i+1)=((zbd x i).set (i%5) (g64 (zbd x i) (i%5)&&&M26)).set 0 (g64 ((zbd x i).set (i%5) (g64 (zbd x i) (i%5)&&&M26)) 0+5*g64 (zbd x i) (i%5)>>>(26:UInt64)):=by
  simp only [zbd];rw [if_pos h]
def zba (b:List UInt8):Nat→List UInt64
  |0=> [0,0,0]
  |i+1=>(zba b i).set (i/ 8) (g64 (zba b i) (i/ 8)|||(b.getD i 0).toUInt64<<<UInt64.ofNat (8*(i%8)))
theorem zd9 (b:List UInt8): ∀i,(zba b i).length=3
  |0=>rfl
  |i+1=>by simp only [zba,List.length_set];exact zd9 b i
def ldW (b:List UInt8):List UInt64:=(zba b b.length).set (b.length/ 8) (g64 (zba b b.length) (b.length/ 8)|||(1:UInt64)<<<UInt64.ofNat (8*(b.length%8)))
def ygo (w:List UInt64):List UInt64:=
  [g64 w 0&&&M26,g64 w 0>>>(26:UInt64)&&&M26,(g64 w 0>>>(52:UInt64)|||g64 w 1<<<(12:UInt64))&&&M26,g64 w 1>>>(14:UInt64)&&&M26,g64 w 1>>>(40:UInt64)|||g64 w 2<<<(24:UInt64)]
def zef (b:List UInt8):List UInt64:=ygo (ldW b)
theorem zcy (b:List UInt8):(zef b).length=5:=rfl
def zst (r x:List UInt64) (b:List UInt8):List UInt64:=zgr (zkb x (zef b)) r
theorem z89 (r x:List UInt64) (b:List UInt8):(zst r x b).length=5:=z3e _ _
end Go.Sym.Pol
namespace Go.Sym.Pol
theorem zz6 (x r:List UInt64) {i k:Nat} (hk:k<5):xu x r (5*i+k+1)=(xu x r (5*i+k)).set ((i+k)%5) (g64 (xu x r (5*i+k)) ((i+k)%5)+ztz x r i k):=by
  rw [x8,show (5*i+k)/ 5=i by omega,show (5*i+k)%5=k by omega]
end Go.Sym.Pol
namespace Go.Sym.Pol
open Go.Sym.Lp
def zcd (r x:List UInt64) (B:List UInt8):Nat→List UInt64
  |0=>x
  |t+1=>zst r (zcd r x B t) ((B.drop (16*t)).take 16)
def zct (r x:List UInt64) (B:List UInt8):List UInt64:=zcd r x B ((B.length+15)/ 16)
theorem ze0 {r x:List UInt64} (hx:x.length=5) (B:List UInt8): ∀t,(zcd r x B t).length=5
  |0=>hx
  |_+1=>z89 _ _ _
theorem zo2 {r x:List UInt64} (hx:x.length=5) (B:List UInt8):(zct r x B).length=5:=ze0 hx B _
theorem ydr {l:List UInt8} {n a:Nat}:((l.take n).drop a).take 16=(l.drop a).take (min 16 (n-a)):=by
  rw [List.drop_take,List.take_take]
def zbe (x:List UInt64):Nat→List UInt64
  |0=>x.set 0 (g64 x 0+5)
  |i+1=>((zbe x i).set (i+1) (g64 (zbe x i) (i+1)+g64 (zbe x i) i>>>(26:UInt64))).set i (g64 ((zbe x i).set (i+1) (g64 (zbe x i) (i+1)+g64 (zbe x i) i>>>(26:UInt64))) i&&&M26)
theorem zlf (x:List UInt64): ∀i,(zbe x i).length=x.length
  |0=>by simp [zbe]
  |i+1=>by simp only [zbe,List.length_set];exact zlf x i
def za8 (x:List UInt64):List UInt64:=
  if 0<(g64 (zbe (car (car x)) 4) 4>>>(26:UInt64)).toNat then (zbe (car (car x)) 4).set 4 (g64 (zbe (car (car x)) 4) 4&&&M26) else car (car x)
theorem z2n {x:List UInt64} (h:x.length=5):(za8 x).length=5:=by
  unfold za8;split
  ·rw [List.length_set,zlf,zdu,zdu,h]
  ·rw [zdu,zdu,h]
def zmq (x:List UInt64):UInt64:=g64 x 0|||g64 x 1<<<(26:UInt64)|||g64 x 2<<<(52:UInt64)
def zgd (x:List UInt64):UInt64:=g64 x 2>>>(12:UInt64)|||g64 x 3<<<(14:UInt64)|||g64 x 4<<<(40:UInt64)
def zcb (lo hi:UInt64) (key:List UInt8):Nat→List UInt8×UInt64
  |0=>(List.replicate 16 0,0)
  |i+1=>
   let c:=(zcb lo hi key i).2+(((if 8≤i then hi else lo)>>>UInt64.ofNat (8*(i%8))&&&255)+(key.getD (16+i) 0).toUInt64)
   ((zcb lo hi key i).1.set i c.toUInt8,c>>>(8:UInt64))
theorem zpo (lo hi:UInt64) (key:List UInt8): ∀i,(zcb lo hi key i).1.length=16
  |0=>rfl
  |i+1=>by simp only [zcb,List.length_set];exact zpo lo hi key i
def zf9 (x:List UInt64) (key:List UInt8):List UInt8:=(zcb (zmq (za8 x)) (zgd (za8 x)) key 16).1
theorem z2y (x:List UInt64) (key:List UInt8):(zf9 x key).length=16:=zpo _ _ _ 16
end Go.Sym.Pol
namespace Go.Sym.Pol
section
variable (lo hi:UInt64) (key:List UInt8) {i:Nat}
theorem z1w:zcb lo hi key 0=(List.replicate 16 0,0):=rfl
theorem ydh (h:8≤i):zcb lo hi key (i+1)=((zcb lo hi key i).1.set i ((zcb lo hi key i).2+((hi>>>UInt64.ofNat (8*(i%8))&&&255)+(key.getD (16+i) 0).toUInt64)).toUInt8,((zcb lo hi key i).2+((hi>>>UInt64.ofNat (8*(i%8))&&&255)+(key.getD (16+i) 0).toUInt64))>>>(8:UInt64)):=by
  simp only [zcb];rw [if_pos h]
theorem ydq (h: ¬8≤i):zcb lo hi key (i+1)=((zcb lo hi key i).1.set i ((zcb lo hi key i).2+((lo>>>UInt64.ofNat (8*(i%8))&&&255)+(key.getD (16+i) 0).toUInt64)).toUInt8,((zcb lo hi key i).2+((lo>>>UInt64.ofNat (8*(i%8))&&&255)+(key.getD (16+i) 0).toUInt64))>>>(8:UInt64)):=by
  simp only [zcb];rw [if_neg h]
end
end Go.Sym.Pol
namespace Go.Sym.Pol
open Go.Sym.Lp
def cA (b:List UInt8):Nat→List UInt8
  |0=>b
  |j+1=>(cA b j).set (3+4*j) ((cA b j).getD (3+4*j) 0&&&UInt8.ofNat 15)
def cC (b:List UInt8):Nat→List UInt8
  |0=>b
  |j+1=>(cC b j).set (4+4*j) ((cC b j).getD (4+4*j) 0&&&UInt8.ofNat 252)
theorem zyo (b:List UInt8): ∀j,(cA b j).length=b.length
  |0=>rfl
  |j+1=>by simp only [cA,List.length_set];exact zyo b j
theorem zzn (b:List UInt8): ∀j,(cC b j).length=b.length
  |0=>rfl
  |j+1=>by simp only [cC,List.length_set];exact zzn b j
theorem zr9 {b tl:List UInt8} {k:Nat} (h:k<b.length) (m:UInt8):(b++tl).set k ((b++tl).getD k 0&&&m)=b.set k (b.getD k 0&&&m)++tl:=by
  rw [List.set_append_left _ _ h,List.getD_eq_getElem?_getD,List.getElem?_append_left h,←List.getD_eq_getElem?_getD]
def rOf (key:List UInt8):List UInt64:=(zef (cC (cA (key.take 16) 4) 3)).set 4 (g64 (zef (cC (cA (key.take 16) 4) 3)) 4&&&UInt64.ofNat 16777215)
theorem yba (key:List UInt8):(rOf key).length=5:=by unfold rOf;rw [List.length_set];exact zcy _
def fillB (n:Nat):List UInt8:=List.replicate ((16-n%16)%16) 0
def zcn (n:Nat):List UInt8:= [UInt8.ofInt (n:Int),UInt8.ofInt ((n:Int)/ 2^8),UInt8.ofInt ((n:Int)/ 2^16),UInt8.ofInt ((n:Int)/ 2^24),0,0,0,0]
def zsf (r:List UInt64) (aad b:List UInt8):List UInt64:=
  zct r (zct r (zct r [0,0,0,0,0] (aad++fillB aad.length)) (b.take (b.length-b.length%16))) (b.drop (b.length-b.length%16)++fillB b.length++zcn aad.length++zcn b.length)
end Go.Sym.Pol
namespace Go.Sym.Pol
theorem zcc (n:Nat):(fillB n).length=(16-n%16)%16:=by unfold fillB;exact List.length_replicate
theorem zdh (n:Nat):(zcn n).length=8:=rfl
end Go.Sym.Pol

namespace Go.Sym.Z
open Go Go.Proofs.Tryz Go.Sym.Lp Go.Sym.Pol
set_option maxRecDepth 100000
attribute [local irreducible] zba zbd xu
def yh7:List (Nat×List PStep):= [(4,[⟨0,[]⟩,⟨1,[0]⟩,⟨2,[0]⟩,⟨3,[1,2]⟩,⟨4,[]⟩,⟨5,[]⟩,⟨6,[]⟩,⟨7,[1,2,3,4,5,6]⟩,⟨8,[]⟩,⟨9,[]⟩]),(6,[⟨0,[]⟩,⟨1,[]⟩,⟨2,[]⟩,⟨3,[]⟩,⟨4,[0,1,2,3]⟩,⟨5,[0,1,2,3]⟩,⟨6,[]⟩,⟨7,[1,2,3,4,5,6]⟩,⟨8,[]⟩,⟨9,[]⟩]),(7,[⟨0,[]⟩,⟨1,[0]⟩,⟨2,[0]⟩,⟨3,[0]⟩,⟨4,[1,2,3]⟩,⟨5,[]⟩,⟨6,[]⟩,⟨7,[0,1,2,3,4,5,6]⟩,⟨8,[]⟩,⟨9,[1,2,3,4,5,6,7,8]⟩,⟨10,[]⟩,⟨11,[]⟩])]
def yjb:List (Nat×List PStep):= [(7,[⟨0,[]⟩,⟨1,[0]⟩,⟨2,[1]⟩,⟨3,[]⟩,⟨4,[]⟩,⟨5,[0,1,2,3,4]⟩,⟨6,[0,1,2,3,4,5]⟩,⟨7,[0,1,2,3,4,6]⟩,⟨8,[0,1,2,3,4]⟩,⟨9,[0,1,2,3,4]⟩,⟨10,[]⟩,⟨11,[]⟩])]
def yjv:List (Nat×List PStep):= [(5,[⟨0,[]⟩,⟨1,[]⟩,⟨2,[]⟩,⟨3,[]⟩,⟨4,[0,1,2,3]⟩,⟨5,[0,1,2,3]⟩,⟨6,[0,1,2,3,4,5]⟩,⟨7,[0,1,2,3,4,5]⟩,⟨8,[0,1,2,3,4,5]⟩,⟨9,[0,1,2,3]⟩,⟨10,[]⟩,⟨11,[]⟩,⟨12,[]⟩]),(7,[⟨0,[]⟩,⟨1,[]⟩,⟨2,[]⟩,⟨3,[]⟩,⟨4,[]⟩,⟨5,[0,1,2,3,4]⟩,⟨6,[0,1,2,3,4]⟩,⟨7,[0,1,2,3,4]⟩,⟨8,[0,1,2,3,4]⟩,⟨9,[0,1,2,3,4]⟩,⟨10,[]⟩,⟨11,[]⟩,⟨12,[]⟩])]
def yix:List (Nat×List PStep):= [(4,[⟨0,[]⟩,⟨1,[0]⟩,⟨2,[1]⟩,⟨3,[1]⟩,⟨4,[]⟩,⟨5,[]⟩,⟨6,[0,1,2,3,4,5]⟩,⟨7,[0,1,2,3,4,5]⟩,⟨8,[0,1,2,3,4,5]⟩,⟨9,[]⟩,⟨10,[1,2,3,4,5,6,7,8,9]⟩,⟨11,[1,2,3,4,5,6,7,8,9]⟩,⟨12,[]⟩,⟨13,[]⟩]),(6,[⟨0,[]⟩,⟨1,[]⟩,⟨2,[]⟩,⟨3,[0,1,2]⟩,⟨4,[0,1,2]⟩,⟨5,[0,1,2]⟩,⟨6,[]⟩])]
def yh6:List (Nat×TyI):= [(3,ty3),(4,ty4),(5,ty5),(9,ty9),(48,zd6),(99,xj),(51,zeb),(168,zif),(220,zoi),(238,zqe),(223,znl),(193,zo0),(236,zni),(167,zo3)]
theorem xe: ∀t i,y8 yh6 t=some i→yt prog t i:=(zc zbg (zc zbj (zc zbc (zc zbf (zc zaq (zc za6 (zc zap (zc zkd (zc z5y (zc z9f (zc z7p (zc z5u (zc z9m (zc z9j x1))))))))))))))
def zx9:Spec:=fun args hp K=>match args,hp with
  | [.ptr 0 0 0 []],[.mk t [.arr64 5 x]]=>Pre (x.length=5) (K (.tup []) [.mk t [.arr64 5 (car x)]])
  |_,_=>False
theorem z1b:zp prog 178 zx9:=by
  refine zm xe zi rfl func178 rfl call178 (D:=yh7) ?_ ?_
  ·intro args hp K h
   unfold zx9 at h
   split at h
   ·exact Nat.le_of_ble_eq_true rfl
   ·exact h.elim
  ·intro args hp K h
   unfold zx9 at h
   split at h
   ·rename_i t x
    obtain ⟨hx,h⟩:=zq h
    refine za ?_
    refine zt (Ix (6)) (fun q=>⟨[(0,.ptr 0 0 0 []),(4,.int q.i)],[.mk t [.arr64 5 (zbd x q.i)]]⟩) (fun q=>(6)-q.i) ⟨0,Nat.zero_le _⟩ [0] ?_ ?_
    ·repeat ((conv=>whnf);refine zb ?_)
     conv=>whnf
     exact zo (congrArg (fun x=>SV.agg [SV.arr64 5 x]) (show x=zbd x 0 by unfold zbd;rfl))
    ·intro q
     have hi:=q.hi
     have hl:=zle x q.i
     have hm:(q.i:Int).tmod 5=((q.i%5:Nat):Int):=by rw [Int.tmod_eq_emod_of_nonneg (by omega)];omega
     have hI:((q.i:Int).tmod 5).toNat=q.i%5:=by omega
     have hJ:((q.i:Int).tmod 5+1).toNat=q.i%5+1:=by omega
     by_cases h4:q.i<6
     ·by_cases h5:q.i%5=4
      ·refine za ?_
       rw [hI]
       conv=>whnf
       refine ⟨⟨q.i+1,h4⟩,[0],by show (6)-(q.i+1)<(6)-q.i;omega,?_⟩
       repeat ((conv=>whnf);refine zb ?_)
       conv=>whnf
       exact zo (congrArg (fun x=>SV.agg [SV.arr64 5 x]) (zxw x q.i h5).symm)
      ·refine za ?_
       rw [hI,hJ]
       conv=>whnf
       refine ⟨⟨q.i+1,h4⟩,[0],by show (6)-(q.i+1)<(6)-q.i;omega,?_⟩
       repeat ((conv=>whnf);refine zb ?_)
       conv=>whnf
       exact zo (congrArg (fun x=>SV.agg [SV.arr64 5 x]) (zxr x q.i h5).symm)
     ·have e4:q.i=6:=by omega
      rw [e4,show zbd x 6=car x by unfold car;rfl]
      refine za ?_
      exact zf [0] h
   ·exact h.elim
def z4e:Spec:=fun args hp K=>match args,hp with
  | [.sl 0 0 0 o n c],[.mk t [.arr8 m l]]=>Pre (n≤16∧off o+n≤l.length) (K (.arr64 5 (zef ((l.drop (off o)).take n))) [.mk t [.arr8 m l]])
  |_,_=>False
theorem z80:zp prog 163 z4e:=by
  refine zm xe zi rfl func163 rfl call163 (D:=yjv) ?_ ?_
  ·intro args hp K h
   unfold z4e at h
   split at h
   ·exact Nat.le_of_ble_eq_true rfl
   ·exact h.elim
  ·intro args hp K h
   unfold z4e at h
   split at h
   ·rename_i o n c t m l
    obtain ⟨⟨hn,hl⟩,h⟩:=zq h
    have hB:((l.drop (off o)).take n).length=n:=by rw [List.length_take,List.length_drop];omega
    refine za ?_
    refine zt (Ix (n)) (fun q=>⟨[(0,.sl 0 0 0 o n c),(2,.ptr 1 0 0 []),(3,.ptr 2 0 0 []),(6,.sl 0 0 0 o n c),(7,.int n),(8,.int q.i)],[.mk t [.arr8 m l],.mk 220 [.arr64 5 [0,0,0,0,0]],.mk 236 [.arr64 3 (zba ((l.drop (off o)).take n) q.i)]]⟩) (fun q=>(n)-q.i) ⟨0,Nat.zero_le _⟩ [0,1,2] ?_ ?_
    ·repeat ((conv=>whnf);refine zb ?_)
     conv=>whnf
     exact zo (congrArg (fun x=>SV.agg [SV.arr64 3 x]) (show [0,0,0]=zba _ 0 by unfold zba;rfl))
    ·intro q
     have hi:=q.hi
     have hw:=zd9 ((l.drop (off o)).take n) q.i
     have hI:((q.i:Int)).toNat=q.i:=Int.toNat_natCast _
     have hd8:(q.i:Int).tdiv 8=((q.i/ 8:Nat):Int):=by rw [Int.tdiv_eq_ediv_of_nonneg (by omega)];omega
     have hm8:(q.i:Int).tmod 8=((q.i%8:Nat):Int):=by rw [Int.tmod_eq_emod_of_nonneg (by omega)];omega
     have hpd:(8:Int)≠0∧ya ((q.i:Int).tdiv 8):=⟨by decide,by unfold ya;omega⟩
     by_cases h4:q.i<n
     ·refine za ?_
      refine ⟨⟨q.i+1,h4⟩,[0,1,2],by show (n)-(q.i+1)<(n)-q.i;omega,?_⟩
      repeat ((conv=>whnf);refine zb ?_)
      conv=>whnf
      refine zv (congrArg (fun x=>SV.agg [SV.arr64 3 x]) ?hv) ?_
      case hv=>
        show (zba _ q.i).set ((q.i:Int).tdiv 8).toNat (g64 (zba _ q.i) ((q.i:Int).tdiv 8).toNat|||(l.getD (off (yb o q.i 1)) 0).toUInt64<<<UInt64.ofNat (8*(q.i:Int).tmod 8).toNat)=zba _ (q.i+1)
        rw [zy,hd8,hm8,Int.toNat_natCast,show (8*((q.i%8:Nat):Int)).toNat=8*(q.i%8) by omega,Nat.mul_one,←zgy (n:=n) h4]
        simp only [zba]
      exact zn
     ·have e4:q.i=n:=by omega
      have hn8:(n:Int).tdiv 8=((n/ 8:Nat):Int):=by rw [Int.tdiv_eq_ediv_of_nonneg (by omega)];omega
      have hk8:(n:Int).tmod 8=((n%8:Nat):Int):=by rw [Int.tmod_eq_emod_of_nonneg (by omega)];omega
      have hpn:(8:Int)≠0∧ya ((n:Int).tdiv 8):=⟨by decide,by unfold ya;omega⟩
      rw [e4] at hw
      rw [e4]
      have hnn:((n:Int).tdiv 8).toNat=n/ 8:=by omega
      have hnk:(8*(n:Int).tmod 8).toNat=8*(n%8):=by omega
      refine za ?_
      rw [hnn,hnk]
      conv=>whnf
      refine yu (hp':= [.mk t [.arr8 m l]]) [0] h ?_
      repeat ((conv=>whnf);refine zb ?_)
      conv=>whnf
      exact zo (congrArg (SV.arr64 5) (show _=zef ((l.drop (off o)).take n) by unfold zef ldW;rw [hB];rfl))
   ·exact h.elim
def zye:Spec:=fun args hp K=>match args,hp with
  | [.ptr 0 1 5 [],.ptr 0 0 0 []],[.mk t [.arr64 5 r,.arr64 5 x]]=>Pre (r.length=5∧x.length=5) (K (.tup []) [.mk t [.arr64 5 r,.arr64 5 (zgr x r)]])
  |_,_=>False
theorem yag:zp prog 177 zye:=by
  refine zm xe (zd z1b zi) rfl func177 rfl call177 (D:=yjb) ?_ ?_
  ·intro args hp K h
   unfold zye at h
   split at h
   ·exact Nat.le_of_ble_eq_true rfl
   ·exact h.elim
  ·intro args hp K h
   unfold zye at h
   split at h
   ·rename_i t r x
    obtain ⟨⟨hr,hx⟩,h⟩:=zq h
    refine za ?_
    refine zt (Ix (5)) (fun q=>⟨[(0,.ptr 0 1 5 []),(1,.ptr 0 0 0 []),(4,.ptr 1 0 0 []),(8,.int q.i)],[.mk t [.arr64 5 r,.arr64 5 x],.mk 220 [.arr64 5 (xu x r (5*q.i))]]⟩) (fun q=>(5)-q.i) ⟨0,Nat.zero_le _⟩ [0,1] ?_ ?_
    ·repeat ((conv=>whnf);refine zb ?_)
     conv=>whnf
     exact zo (congrArg (fun x=>SV.agg [SV.arr64 5 x]) (show [0,0,0,0,0]=xu x r 0 by unfold xu;rfl))
    ·intro q
     have hi:=q.hi
     by_cases h4:q.i<5
     ·refine za ?_
      refine zt (Ix (5)) (fun k=>⟨[(0,.ptr 0 1 5 []),(1,.ptr 0 0 0 []),(4,.ptr 1 0 0 []),(8,.int q.i),(5,.int q.i),(11,.int k.i)],[.mk t [.arr64 5 r,.arr64 5 x],.mk 220 [.arr64 5 (xu x r (5*q.i+k.i))]]⟩) (fun k=>(5)-k.i) ⟨0,Nat.zero_le _⟩ [0,1] ?_ ?_
      ·exact zn
      ·intro k
       have hki:=k.hi
       have hl:=zb0 x r (5*q.i+k.i)
       have hm:((q.i:Int)+(k.i:Int)).tmod 5=(((q.i+k.i)%5:Nat):Int):=by rw [Int.tmod_eq_emod_of_nonneg (by omega)];omega
       have hI:(((q.i:Int)+(k.i:Int)).tmod 5).toNat=(q.i+k.i)%5:=by omega
       by_cases h5:k.i<5
       ·have hat:=zz6 x r (i:=q.i) (k:=k.i) h5
        by_cases h6:5≤q.i+k.i
        ·unfold ztz at hat
         rw [if_pos h6] at hat
         refine za ?_
         rw [hI]
         conv=>whnf
         refine ⟨⟨k.i+1,h5⟩,[0,1],by show (5)-(k.i+1)<(5)-k.i;omega,?_⟩
         repeat ((conv=>whnf);refine zb ?_)
         conv=>whnf
         exact zo (congrArg (fun x=>SV.agg [SV.arr64 5 x]) hat.symm)
        ·unfold ztz at hat
         rw [if_neg h6] at hat
         refine za ?_
         rw [hI]
         conv=>whnf
         refine ⟨⟨k.i+1,h5⟩,[0,1],by show (5)-(k.i+1)<(5)-k.i;omega,?_⟩
         repeat ((conv=>whnf);refine zb ?_)
         conv=>whnf
         exact zo (congrArg (fun x=>SV.agg [SV.arr64 5 x]) hat.symm)
       ·have e5:k.i=5:=by omega
        rw [e5,show 5*q.i+5=5*(q.i+1) by omega]
        refine za ?_
        refine ⟨⟨q.i+1,h4⟩,[0,1],by show (5)-(q.i+1)<(5)-q.i;omega,?_⟩
        exact zn
     ·have e4:q.i=5:=by omega
      have hl:=zb0 x r (5*5)
      have hcl:(car (xu x r (5*5))).length=5:=by rw [zdu];exact hl
      rw [e4]
      refine za ?_
      exact zf [0] h
   ·exact h.elim
def ygf:Spec:=fun args hp K=>match args,hp with
  | [.ptr 0 0 0 [],.sl 1 0 0 o n c],[.mk t0 [.arr64 5 r,.arr64 5 x],.mk t [.arr8 m l]]=>Pre (r.length=5∧x.length=5∧n≤16∧off o+n≤l.length) (K (.tup []) [.mk t0 [.arr64 5 r,.arr64 5 (zst r x ((l.drop (off o)).take n))],.mk t [.arr8 m l]])
  |_,_=>False
theorem yeq:zp prog 164 ygf:=by
  refine zm xe (zd z80 (zd yag zi)) rfl func164 rfl call164 (D:=yix) ?_ ?_
  ·intro args hp K h
   unfold ygf at h
   split at h
   ·exact Nat.le_of_ble_eq_true rfl
   ·exact h.elim
  ·intro args hp K h
   unfold ygf at h
   split at h
   ·rename_i o n c t0 r x t m l
    obtain ⟨⟨hr,hx,hn,hl⟩,h⟩:=zq h
    obtain ⟨y,hy⟩: ∃y,y=zef ((l.drop (off o)).take n):=⟨_,rfl⟩
    have hyl:y.length=5:=by rw [hy];exact zcy _
    have hA:zst r x ((l.drop (off o)).take n)=zgr (zkb x y) r:=by unfold zst;rw [hy]
    rw [hA] at h
    refine za ?_
    rw [←hy]
    refine zt (Ix (5)) (fun q=>⟨[(0,.ptr 0 0 0 []),(1,.sl 1 0 0 o n c),(4,.ptr 2 0 0 []),(8,.int q.i)],[.mk t0 [.arr64 5 r,.arr64 5 (ovr x 0 (fun i=>g64 x i+g64 y i) q.i)],.mk t [.arr8 m l],.mk 220 [.arr64 5 y]]⟩) (fun q=>(5)-q.i) ⟨0,Nat.zero_le _⟩ [0,1,2] ?_ ?_
    ·exact zn
    ·intro q
     have hi:=q.hi
     have hlo:=yg (l:=x) (a:=0) (i:=q.i) (by omega) (fun i=>g64 x i+g64 y i)
     by_cases h4:q.i<5
     ·refine za ?_
      refine ⟨⟨q.i+1,h4⟩,[0,1,2],by show (5)-(q.i+1)<(5)-q.i;omega,?_⟩
      repeat ((conv=>whnf);refine zb ?_)
      conv=>whnf
      refine zv (congrArg (fun z=>SV.agg [SV.arr64 5 r,SV.arr64 5 z]) (z9 (by omega) ?hv ?hkk)) ?_
      case hkk=>show q.i=0+q.i;omega
      case hv=>
        show g64 (ovr x 0 _ q.i) q.i+g64 y q.i=g64 x q.i+g64 y q.i
        unfold g64
        rw [yw (by omega) _ (by omega)]
      exact zn
     ·have e4:q.i=5:=by omega
      have hal:=zgs x y
      rw [e4,y4 hx,show (List.range 5).map (fun i=>g64 x i+g64 y i)=zkb x y by unfold zkb;rfl]
      refine za ?_
      exact zf [0,1] h
   ·exact h.elim
end Go.Sym.Z
