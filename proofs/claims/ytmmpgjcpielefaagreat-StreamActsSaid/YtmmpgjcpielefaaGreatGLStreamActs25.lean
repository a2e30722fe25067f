/-
  Contracts of functions of the program, each said of symbolic values, and plain laws; no condition beyond each statement's own.
-/
import Derived.Test.YtmmpgjcpielefaaGreatGLStreamActs17
import Derived.Test.YtmmpgjcpielefaaGreatGLStreamActs24
import Derived.Test.YtmmpgjcpielefaaGreatGLStreamActs22
import Derived.Test.YtmmpgjcpielefaaGreatGLStreamActs23
import Derived.Test.YtmmpgjcpielefaaGreatGLStreamActs16
set_option linter.unusedSimpArgs false
set_option linter.unusedVariables false
namespace Go.Sym.Z
open Go Go.Proofs.Tryz Go.Sym.Lp Go.Sym.Gcm Go.Sym.Aes
set_option maxRecDepth 100000
attribute [local irreducible] ldE ld yl hf4 zgm enc ks box zpv wr
def yie:List (Nat×List PStep):= []
def ylk:List (Nat×List PStep):= [(9,[⟨0,[]⟩,⟨1,[0]⟩,⟨2,[0,1]⟩,⟨3,[0]⟩,⟨4,[0,1,2,3]⟩,⟨5,[0,1,2,3,4]⟩,⟨6,[0,1,2,3,4,5]⟩,⟨7,[0,1,2,3,4]⟩,⟨8,[0,1,2,3]⟩,⟨9,[0,1,2,3,4,5,6,7,8]⟩,⟨10,[0,1,2,3,4,5,6,7,8,9]⟩,⟨11,[0,1,2,3,4,5,6,7,8]⟩,⟨12,[0,1,2,3]⟩,⟨13,[]⟩,⟨14,[]⟩])]
theorem yj9 {n m:Nat} {x y:List UInt8} (h:n=m) (e:x=y):SV.agg [SV.arr8 n x]=SV.agg [SV.arr8 m y]:=by rw [h,e]
theorem z6v (h:El) (s:List UInt8) (t:Nat):zha h s (t+1)=zpv h (xr (zha h s t) (ld ((s.drop (16*t)).take 16))):=rfl
def zza:Spec:=fun args hp K=>match args,hp with
  | [.str g,.str s],[]=>Pre (g.length=16∧s.length≤4611686018427387904) (K (.str (wr (zha (ld g) s (s.length/ 16)))) [])
  |_,_=>False
theorem ya6:zp prog 108 zza:=by
  refine zm y5 (zd z8n (zd z69 (zd z6d zi))) rfl func108 rfl call108 (D:=yie) ?_ ?_
  ·intro args hp K h
   unfold zza at h
   split at h
   ·exact Nat.le_of_ble_eq_true rfl
   ·exact h.elim
  ·intro args hp K h
   unfold zza at h
   split at h
   ·rename_i g s
    obtain ⟨⟨hg,hs⟩,h⟩:=zq h
    refine za ?_
    refine zt (Ix ((s.length/ 16))) (fun q=>⟨[(1,.str s),(5,.u64 (ld g).1),(6,.u64 (ld g).2),(7,.u64 (zha (ld g) s q.i).1),(8,.u64 (zha (ld g) s q.i).2),(9,.int (16*(q.i:Int)))],[]⟩) (fun q=>((s.length/ 16))-q.i) ⟨0,Nat.zero_le _⟩ [] ?_ ?_
    ·exact zn
    ·intro q
     have hi:=q.hi
     have hP1:(16*(q.i:Int)+16).toNat-(16*(q.i:Int)).toNat=16:=by omega
     have hP2:(16*(q.i:Int)).toNat=16*q.i:=by omega
     by_cases h4:q.i<s.length/ 16
     ·refine za ?_
      conv=>whnf
      refine ⟨⟨q.i+1,h4⟩,[],by show ((s.length/ 16))-(q.i+1)<((s.length/ 16))-q.i;omega,?_⟩
      repeat ((conv=>whnf);refine zb ?_)
      conv=>whnf
      refine zv (congrArg SV.u64 (show _=(zha (ld g) s (q.i+1)).1 by rw [z6v,hP1,hP2]<;>rfl)) ?_
      repeat ((conv=>whnf);refine zb ?_)
      conv=>whnf
      exact zo (congrArg SV.u64 (show _=(zha (ld g) s (q.i+1)).2 by rw [z6v,hP1,hP2]<;>rfl))
     ·have e4:q.i=s.length/ 16:=by omega
      rw [←e4] at h
      refine za ?_
      exact zf [] h
   ·exact h.elim
def zlr:Spec:=fun args hp K=>match args,hp with
  | [.sl 0 0 0 [] n c,.str nonce,.int f,.str s],[.mk t [.arr8 N W]]=> ∃R,(n=4*R∧1≤R∧R≤100∧16*R≤W.length∧nonce.length=12∧0≤f∧f≤1000∧s.length≤1073741824)∧K (.str (gst W R nonce (UInt32.ofNat f.toNat) s)) [.mk t [.arr8 N W]]
  |_,_=>False
theorem zi0:zp prog 78 zlr:=by
  refine zm y5 (zd zvg (zd zrl zi)) rfl func78 rfl call78 (D:=ylk) ?_ ?_
  ·intro args hp K h
   unfold zlr at h
   split at h
   ·exact Nat.le_of_ble_eq_true rfl
   ·exact h.elim
  ·intro args hp K h
   unfold zlr at h
   split at h
   ·rename_i n c nonce f s t N W
    obtain ⟨R,⟨rfl,hR1,hR2,hW,hn,hf0,hf1,hs⟩,h⟩:=h
    obtain ⟨g,rfl⟩:=Int.eq_ofNat_of_zero_le hf0
    rw [Int.toNat_natCast] at h
    have hS:(s.length:Int).toNat=s.length:=Int.toNat_natCast _
    refine za ?_
    refine zt (Ix (s.length)) (fun q=>⟨[(0,.sl 0 0 0 [] (4*R) c),(1,.str nonce),(2,.int g),(3,.str s),(9,.sl 1 0 0 [] s.length s.length),(10,.int (16*(q.i:Int)))],[.mk t [.arr8 N W],.mk 5 [.arr8 s.length (ovr (List.replicate s.length 0) 0 (stG W R nonce (UInt32.ofNat g) s) (min s.length (16*q.i)))]]⟩) (fun q=>(s.length)-q.i) ⟨0,Nat.zero_le _⟩ [0,1] ?_ ?_
    ·repeat ((conv=>whnf);refine zb ?_)
     conv=>whnf
     exact zo (yj9 (by omega) (by rw [hS];show _=ovr _ 0 _ (min s.length (16*0));rw [Nat.mul_zero,Nat.min_zero,zaj]))
    ·intro q
     have hi:=q.hi
     have hlr:=List.length_replicate (n:=s.length) (a:=(0:UInt8))
     by_cases h4:16*q.i<s.length
     ·have hpd:(16:Int)≠0∧ya ((16*(q.i:Int)).tdiv 16):=⟨by decide,by rw [Int.tdiv_eq_ediv_of_nonneg (by omega)];unfold ya;omega⟩
      have hq:(16*(q.i:Int)).tdiv 16=(q.i:Int):=by rw [Int.tdiv_eq_ediv_of_nonneg (by omega)];omega
      have hbe:nonce++beB ((g:Int)+(16*(q.i:Int)).tdiv 16) 4=ctr nonce (UInt32.ofNat g+UInt32.ofNat q.i):=by
        rw [hq,show (g:Int)+(q.i:Int)=((g+q.i:Nat):Int) by omega,yfc (by omega),UInt32.ofNat_add]
      have hcl:(ctr nonce (UInt32.ofNat g+UInt32.ofNat q.i)).length=16:=znb hn _
      have hpl:nonce.length+(beB ((g:Int)+(16*(q.i:Int)).tdiv 16) (Int.toNat 4)).length<9223372036854775808:=by rw [zam,hn];decide
      have hll:(nonce++beB ((g:Int)+(16*(q.i:Int)).tdiv 16) (Int.toNat 4)).length=16:=by rw [List.length_append,zam,hn];rfl
      have hbl:=zh4 W R (nonce++beB ((g:Int)+(16*(q.i:Int)).tdiv 16) (Int.toNat 4))
      refine za ?_
      refine ⟨R,⟨rfl,hR1,hR2,hll,hW⟩,?_⟩
      refine za ?_
      refine zt (Ix ((min 16 (s.length-16*q.i)))) (fun r=>⟨[(0,.sl 0 0 0 [] (4*R) c),(1,.str nonce),(2,.int g),(3,.str s),(9,.sl 1 0 0 [] s.length s.length),(10,.int (16*(q.i:Int))),(11,.str (enc W R (nonce++beB ((g:Int)+(16*(q.i:Int)).tdiv 16) (Int.toNat 4)))),(12,.int r.i)],[.mk t [.arr8 N W],.mk 5 [.arr8 s.length (ovr (List.replicate s.length 0) 0 (stG W R nonce (UInt32.ofNat g) s) (16*q.i+r.i))]]⟩) (fun r=>((min 16 (s.length-16*q.i)))-r.i) ⟨0,Nat.zero_le _⟩ [0,1] ?_ ?_
      ·repeat ((conv=>whnf);refine zb ?_)
       conv=>whnf
       exact zo (congrArg (fun k=>SV.agg [SV.arr8 s.length (ovr (List.replicate s.length 0) 0 (stG W R nonce (UInt32.ofNat g) s) k)]) (by show min s.length (16*q.i)=16*q.i+0;omega))
      ·intro r
       have hri:=r.hi
       have hlo:=yg (l:=List.replicate s.length (0:UInt8)) (a:=0) (i:=16*q.i+r.i) (by omega) (stG W R nonce (UInt32.ofNat g) s)
       rw [hlr] at hlo
       by_cases h5:r.i<16
       ·by_cases h6:16*q.i+r.i<s.length
        ·have h7:r.i<min 16 (s.length-16*q.i):=by omega
         refine za ?_
         refine ⟨⟨r.i+1,h7⟩,[0,1],by show ((min 16 (s.length-16*q.i)))-(r.i+1)<((min 16 (s.length-16*q.i)))-r.i;omega,?_⟩
         repeat ((conv=>whnf);refine zb ?_)
         conv=>whnf
         refine zv (congrArg (fun x=>SV.agg [SV.arr8 s.length x]) (z9 (by omega) ?hv ?hkk)) ?_
         case hkk=>show (16*(q.i:Int)+(r.i:Int)).toNat=0+(16*q.i+r.i);omega
         case hv=>
           show s.getD (16*(q.i:Int)+(r.i:Int)).toNat 0^^^(enc W R (nonce++beB ((g:Int)+(16*(q.i:Int)).tdiv 16) 4)).getD ((r.i:Int)).toNat 0=stG W R nonce (UInt32.ofNat g) s (16*q.i+r.i)
           unfold stG kb
           rw [hbe,show (16*(q.i:Int)+(r.i:Int)).toNat=16*q.i+r.i by omega,Int.toNat_natCast,show (16*q.i+r.i)/ 16=q.i by omega,show (16*q.i+r.i)%16=r.i by omega]
         exact zn
        ·have e5:16*q.i+r.i=s.length:=by omega
         refine za ?_
         have hq1:q.i<s.length:=by omega
         conv=>whnf
         refine ⟨⟨q.i+1,hq1⟩,[0,1],by show (s.length)-(q.i+1)<(s.length)-q.i;omega,?_⟩
         repeat ((conv=>whnf);refine zb ?_)
         conv=>whnf
         exact zo (congrArg (fun k=>SV.agg [SV.arr8 s.length (ovr (List.replicate s.length 0) 0 (stG W R nonce (UInt32.ofNat g) s) k)]) (by show 16*q.i+r.i=min s.length (16*(q.i+1));omega))
       ·refine za ?_
        have hq1:q.i<s.length:=by omega
        conv=>whnf
        refine ⟨⟨q.i+1,hq1⟩,[0,1],by show (s.length)-(q.i+1)<(s.length)-q.i;omega,?_⟩
        repeat ((conv=>whnf);refine zb ?_)
        conv=>whnf
        exact zo (congrArg (fun k=>SV.agg [SV.arr8 s.length (ovr (List.replicate s.length 0) 0 (stG W R nonce (UInt32.ofNat g) s) k)]) (by show 16*q.i+r.i=min s.length (16*(q.i+1));omega))
     ·have hlo:=yg (l:=List.replicate s.length (0:UInt8)) (a:=0) (i:=s.length) (by omega) (stG W R nonce (UInt32.ofNat g) s)
      rw [hlr] at hlo
      have e5:min s.length (16*q.i)=s.length:=by omega
      have e6:List.take s.length (List.drop (off []) (ovr (List.replicate s.length 0) 0 (stG W R nonce (UInt32.ofNat g) s) s.length))=gst W R nonce (UInt32.ofNat g) s:=by
        rw [y4 hlr]
        exact List.take_of_length_le (Nat.le_of_eq (zz _ _))
      rw [e5]
      refine za ?_
      rw [e6]
      conv=>whnf
      exact zf [0] h
   ·exact h.elim
end Go.Sym.Z

namespace Go.Sym.Z
open Go Go.Proofs.Tryz Go.Sym.Lp Go.Sym.Cha
set_option maxRecDepth 100000
attribute [local irreducible] qr wd zhe blk beg zph
def yit:List (Nat×List PStep):= [(27,[⟨0,[]⟩,⟨1,[]⟩,⟨2,[]⟩,⟨3,[0,1,2]⟩,⟨4,[0,1,2]⟩,⟨5,[0,1,2]⟩,⟨6,[]⟩,⟨7,[]⟩])]
def ymy:List (Nat×List PStep):= [(9,[⟨0,[]⟩,⟨1,[0]⟩,⟨2,[0,1]⟩,⟨3,[0]⟩,⟨4,[0,1,2,3]⟩,⟨5,[0,1,2,3,4]⟩,⟨6,[0,1,2,3,4,5]⟩,⟨7,[0,1,2,3,4]⟩,⟨8,[0,1,2,3]⟩,⟨9,[0,1,2,3,4,5,6,7,8]⟩,⟨10,[0,1,2,3,4,5,6,7,8,9]⟩,⟨11,[0,1,2,3,4,5,6,7,8]⟩,⟨12,[0,1,2,3]⟩,⟨13,[]⟩,⟨14,[]⟩])]
theorem yau (n:Nat):UInt32.ofInt (n:Int)=UInt32.ofNat n:=by
  apply UInt32.toNat_inj.1
  unfold UInt32.ofInt
  rw [UInt32.toNat_ofNat',UInt32.toNat_ofNat']
  omega
def zn5:Spec:=fun args hp K=>match args,hp with
  | [.str key,.u32 n,.str nonce],[]=>Pre (key.length=32∧nonce.length=12) (K (.str (blk key nonce n)) [])
  |_,_=>False
set_option maxHeartbeats 4000000 in
theorem zsg:zp prog 102 zn5:=by
  refine zm za0 (zd ymc (zd zzc zi)) rfl func102 rfl call102 (D:=yit) ?_ ?_
  ·intro args hp K h
   unfold zn5 at h
   split at h
   ·exact Nat.le_of_ble_eq_true rfl
   ·exact h.elim
  ·intro args hp K h
   unfold zn5 at h
   split at h
   ·rename_i key n nonce
    obtain ⟨⟨hk,hn⟩,h⟩:=zq h
    refine za ?_
    refine zt (Ix (8)) (fun q=>⟨[(0,.str key),(1,.u32 n),(2,.str nonce),(7,.ptr 0 0 0 []),(8,.int q.i)],[.mk 164 [.arr32 16 (ovr c0 4 (fun i=>wd key (4*i)) q.i)]]⟩) (fun q=>(8)-q.i) ⟨0,Nat.zero_le _⟩ [0] ?_ ?_
    ·exact zn
    ·intro q
     have hi:=q.hi
     have hI:((4:Int)+(q.i:Int)).toNat=4+q.i:=by omega
     have hl0:=z7s
     have hlo:=yg (l:=c0) (a:=4) (i:=q.i) (by omega) (fun i=>wd key (4*i))
     by_cases h4:q.i<8
     ·have hp3:0≤4*(q.i:Int)∧4*(q.i:Int)+4≤(key.length:Int)∧key.length≤9223372036854775807:=⟨by omega,by omega,by omega⟩
      refine za ?_
      refine ⟨⟨q.i+1,h4⟩,[0],by show (8)-(q.i+1)<(8)-q.i;omega,?_⟩
      repeat ((conv=>whnf);refine zb ?_)
      conv=>whnf
      refine zv (congrArg (fun x=>SV.agg [SV.arr32 16 x]) (z9 (by omega) ?hv ?hkk)) ?_
      case hkk=>show ((4:Int)+(q.i:Int)).toNat=4+q.i;omega
      case hv=>
        show wd key (4*(q.i:Int)).toNat=_
        rw [show (4*(q.i:Int)).toNat=4*q.i by omega]
      exact zn
     ·have e4:q.i=8:=by omega
      rw [e4] at hlo
      rw [e4]
      have hl2:((ovr c0 4 (fun i=>wd key (4*i)) 8).set 12 n).length=16:=by rw [List.length_set,hlo];rfl
      refine za ?_
      refine zt (Ix (3)) (fun r=>⟨[(0,.str key),(1,.u32 n),(2,.str nonce),(7,.ptr 0 0 0 []),(9,.int r.i)],[.mk 164 [.arr32 16 (ovr ((ovr c0 4 (fun i=>wd key (4*i)) 8).set 12 n) 13 (fun i=>wd nonce (4*i)) r.i)]]⟩) (fun r=>(3)-r.i) ⟨0,Nat.zero_le _⟩ [0] ?_ ?_
      ·exact zn
      ·intro r
       have hri:=r.hi
       have hlr:=yg (l:=(ovr c0 4 (fun i=>wd key (4*i)) 8).set 12 n) (a:=13) (i:=r.i) (by omega) (fun i=>wd nonce (4*i))
       by_cases h5:r.i<3
       ·have hp3:0≤4*(r.i:Int)∧4*(r.i:Int)+4≤(nonce.length:Int)∧nonce.length≤9223372036854775807:=⟨by omega,by omega,by omega⟩
        refine za ?_
        refine ⟨⟨r.i+1,h5⟩,[0],by show (3)-(r.i+1)<(3)-r.i;omega,?_⟩
        repeat ((conv=>whnf);refine zb ?_)
        conv=>whnf
        refine zv (congrArg (fun x=>SV.agg [SV.arr32 16 x]) (z9 (by omega) ?hv ?hkk)) ?_
        case hkk=>show ((13:Int)+(r.i:Int)).toNat=13+r.i;omega
        case hv=>
          show wd nonce (4*(r.i:Int)).toNat=_
          rw [show (4*(r.i:Int)).toNat=4*r.i by omega]
        exact zn
       ·have e5:r.i=3:=by omega
        rw [e5,z57]
        have hx:=zm2 key nonce n
        have hB:zph (beg key nonce n)=blk key nonce n:=by unfold blk;rfl
        rw [←hB] at h
        generalize beg key nonce n=x at*
        clear hlr hri h5 e5 hl2 hlo hI hi h4 e4 hl0 r q
        refine za ?_
        refine zt (Ix (10)) (fun q=>⟨[(0,.str key),(1,.u32 n),(2,.str nonce),(7,.ptr 0 0 0 []),(10,.ptr 1 0 0 []),(11,.int q.i)],[.mk 164 [.arr32 16 x],.mk 164 [.arr32 16 (zia x q.i)]]⟩) (fun q=>(10)-q.i) ⟨0,Nat.zero_le _⟩ [0,1] ?_ ?_
        ·exact zn
        ·intro q
         have hi:=q.hi
         have hX:=zql x q.i
         by_cases h4:q.i<10
         ·refine za ?_
          generalize hXe:zia x q.i=X at*
          refine zt (Ix (4)) (fun r=>⟨[(0,.str key),(1,.u32 n),(2,.str nonce),(7,.ptr 0 0 0 []),(10,.ptr 1 0 0 []),(11,.int q.i),(12,.int r.i)],[.mk 164 [.arr32 16 x],.mk 164 [.arr32 16 (zil X r.i)]]⟩) (fun r=>(4)-r.i) ⟨0,Nat.zero_le _⟩ [0,1] ?_ ?_
          ·exact zn
          ·intro r
           have hri:=r.hi
           have hc:=zhj X r.i
           by_cases h5:r.i<4
           ·have e0:((r.i:Int)).toNat=r.i:=Int.toNat_natCast _
            have e1:((4:Int)+(r.i:Int)).toNat=4+r.i:=by omega
            have e2:((8:Int)+(r.i:Int)).toNat=8+r.i:=by omega
            have e3:((12:Int)+(r.i:Int)).toNat=12+r.i:=by omega
            have hp5:(zil X r.i).length=16∧(0≤(r.i:Int)∧(r.i:Int)<16)∧(0≤(4:Int)+(r.i:Int)∧(4:Int)+(r.i:Int)<16)∧(0≤(8:Int)+(r.i:Int)∧(8:Int)+(r.i:Int)<16)∧(0≤(12:Int)+(r.i:Int)∧(12:Int)+(r.i:Int)<16):=⟨by omega,by omega,by omega,by omega,by omega⟩
            refine za ?_
            rw [e0,e1,e2,e3]
            conv=>whnf
            refine ⟨⟨r.i+1,h5⟩,[0,1],by show (4)-(r.i+1)<(4)-r.i;omega,?_⟩
            exact zn
           ·have e5:r.i=4:=by omega
            rw [e5] at hc
            rw [e5]
            generalize hYe:zil X 4=Y at*
            refine za ?_
            refine zt (Ix (4)) (fun u=>⟨[(0,.str key),(1,.u32 n),(2,.str nonce),(7,.ptr 0 0 0 []),(10,.ptr 1 0 0 []),(11,.int q.i),(13,.int u.i)],[.mk 164 [.arr32 16 x],.mk 164 [.arr32 16 (zie Y u.i)]]⟩) (fun u=>(4)-u.i) ⟨0,Nat.zero_le _⟩ [0,1] ?_ ?_
            ·exact zn
            ·intro u
             have hui:=u.hi
             have hd:=zhm Y u.i
             by_cases h6:u.i<4
             ·have e0:((u.i:Int)).toNat=u.i:=Int.toNat_natCast _
              have e1:((4:Int)+((u.i:Int)+1).tmod 4).toNat=4+(u.i+1)%4:=by rw [Int.tmod_eq_emod_of_nonneg (by omega)];omega
              have e2:((8:Int)+((u.i:Int)+2).tmod 4).toNat=8+(u.i+2)%4:=by rw [Int.tmod_eq_emod_of_nonneg (by omega)];omega
              have e3:((12:Int)+((u.i:Int)+3).tmod 4).toNat=12+(u.i+3)%4:=by rw [Int.tmod_eq_emod_of_nonneg (by omega)];omega
              have n1:=Int.tmod_nonneg (a:=(u.i:Int)+1) 4 (by omega)
              have n2:=Int.tmod_nonneg (a:=(u.i:Int)+2) 4 (by omega)
              have n3:=Int.tmod_nonneg (a:=(u.i:Int)+3) 4 (by omega)
              have hp5:(zie Y u.i).length=16∧(0≤(u.i:Int)∧(u.i:Int)<16)∧(0≤(4:Int)+((u.i:Int)+1).tmod 4∧(4:Int)+((u.i:Int)+1).tmod 4<16)∧(0≤(8:Int)+((u.i:Int)+2).tmod 4∧(8:Int)+((u.i:Int)+2).tmod 4<16)∧(0≤(12:Int)+((u.i:Int)+3).tmod 4∧(12:Int)+((u.i:Int)+3).tmod 4<16):=⟨by omega,by omega,by omega,by omega,by omega⟩
              refine za ?_
              rw [e0,e1,e2,e3]
              conv=>whnf
              refine ⟨⟨u.i+1,h6⟩,[0,1],by show (4)-(u.i+1)<(4)-u.i;omega,?_⟩
              exact zn
             ·have e6:u.i=4:=by omega
              rw [e6,show zie Y 4=zia x (q.i+1) by rw [←hYe,←hXe];rfl]
              refine za ?_
              refine ⟨⟨q.i+1,h4⟩,[0,1],by show (10)-(q.i+1)<(10)-q.i;omega,?_⟩
              exact zn
         ·have e4:q.i=10:=by omega
          rw [e4] at hX
          rw [e4]
          refine za ?_
          refine zt (Ix (16)) (fun u=>⟨[(0,.str key),(1,.u32 n),(2,.str nonce),(7,.ptr 0 0 0 []),(10,.ptr 1 0 0 []),(14,.sl 2 0 0 [] 64 64),(15,.int u.i)],[.mk 164 [.arr32 16 x],.mk 164 [.arr32 16 (zia x 10)],.mk 5 [.arr8 64 (ovr (List.replicate 64 0) 0 (outG x) (4*u.i))]]⟩) (fun u=>(16)-u.i) ⟨0,Nat.zero_le _⟩ [0,1,2] ?_ ?_
          ·exact zn
          ·intro u
           have hui:=u.hi
           have hU:((u.i:Int)).toNat=u.i:=Int.toNat_natCast _
           by_cases h6:u.i<16
           ·refine za ?_
            refine zt (Ix (4)) (fun v=>⟨[(0,.str key),(1,.u32 n),(2,.str nonce),(7,.ptr 0 0 0 []),(10,.ptr 1 0 0 []),(14,.sl 2 0 0 [] 64 64),(15,.int u.i),(16,.u32 (g32 x u.i+g32 (zia x 10) u.i)),(17,.int v.i)],[.mk 164 [.arr32 16 x],.mk 164 [.arr32 16 (zia x 10)],.mk 5 [.arr8 64 (ovr (List.replicate 64 0) 0 (outG x) (4*u.i+v.i))]]⟩) (fun v=>(4)-v.i) ⟨0,Nat.zero_le _⟩ [0,1,2] ?_ ?_
            ·exact zn
            ·intro v
             have hvi:=v.hi
             have hlo:=yg (l:=List.replicate 64 (0:UInt8)) (a:=0) (i:=4*u.i+v.i) (by rw [List.length_replicate];omega) (outG x)
             rw [List.length_replicate] at hlo
             by_cases h7:v.i<4
             ·refine za ?_
              refine ⟨⟨v.i+1,h7⟩,[0,1,2],by show (4)-(v.i+1)<(4)-v.i;omega,?_⟩
              repeat ((conv=>whnf);refine zb ?_)
              conv=>whnf
              refine zv (congrArg (fun x=>SV.agg [SV.arr8 64 x]) (z9 (by rw [List.length_replicate];omega) ?hv ?hkk)) ?_
              case hkk=>show (4*(u.i:Int)+(v.i:Int)).toNat=0+(4*u.i+v.i);omega
              case hv=>
                show ((g32 x u.i+g32 (zia x 10) u.i)>>>UInt32.ofNat (8*(v.i:Int)).toNat&&&UInt32.ofNat 255).toUInt8=outG x (4*u.i+v.i)
                unfold outG
                rw [ymq,show (4*u.i+v.i)/ 4=u.i by omega,show (4*u.i+v.i)%4=v.i by omega,show (8*(v.i:Int)).toNat=8*v.i by omega]
              exact zn
             ·have e7:v.i=4:=by omega
              rw [e7]
              refine za ?_
              refine ⟨⟨u.i+1,h6⟩,[0,1,2],by show (16)-(u.i+1)<(16)-u.i;omega,?_⟩
              exact zn
           ·have e6:u.i=16:=by omega
            have hB2:List.take 64 (List.drop (off []) (zph x))=zph x:=List.take_of_length_le (Nat.le_of_eq (zg6 _))
            have hBl:=zg6 x
            rw [e6,y4 (List.length_replicate),show (List.range 64).map (outG x)=zph x by unfold zph;rfl]
            refine za ?_
            rw [hB2]
            conv=>whnf
            exact zf [] h
   ·exact h.elim
def zqj:Spec:=fun args hp K=>match args,hp with
  | [.str key,.u32 n,.str nonce,.str s],[]=>Pre (key.length=32∧nonce.length=12∧s.length≤140737488355328) (K (.str (xt key nonce n s)) [])
  |_,_=>False
theorem zr7:zp prog 74 zqj:=by
  refine zm za0 (zd zsg zi) rfl func74 rfl call74 (D:=ymy) ?_ ?_
  ·intro args hp K h
   unfold zqj at h
   split at h
   ·exact Nat.le_of_ble_eq_true rfl
   ·exact h.elim
  ·intro args hp K h
   unfold zqj at h
   split at h
   ·rename_i key n nonce s
    obtain ⟨⟨hk,hn,hs⟩,h⟩:=zq h
    have hkn:key.length=32∧nonce.length=12:=⟨hk,hn⟩
    have hS:(s.length:Int).toNat=s.length:=Int.toNat_natCast _
    refine za ?_
    refine zt (Ix (s.length)) (fun q=>⟨[(0,.str key),(1,.u32 n),(2,.str nonce),(3,.str s),(9,.sl 0 0 0 [] s.length s.length),(10,.int (64*(q.i:Int)))],[.mk 5 [.arr8 s.length (ovr (List.replicate s.length 0) 0 (ze2 key nonce n s) (min s.length (64*q.i)))]]⟩) (fun q=>(s.length)-q.i) ⟨0,Nat.zero_le _⟩ [0] ?_ ?_
    ·repeat ((conv=>whnf);refine zb ?_)
     conv=>whnf
     exact zo (zqx (by omega) (by rw [hS];show _=ovr _ 0 _ (min s.length (64*0));rw [Nat.mul_zero,Nat.min_zero,zaj]))
    ·intro q
     have hi:=q.hi
     have hlr:=List.length_replicate (n:=s.length) (a:=(0:UInt8))
     by_cases h4:64*q.i<s.length
     ·have hpd:(64:Int)≠0∧ya ((64*(q.i:Int)).tdiv 64):=⟨by decide,by rw [Int.tdiv_eq_ediv_of_nonneg (by omega)];unfold ya;omega⟩
      have hq:(64*(q.i:Int)).tdiv 64=(q.i:Int):=by rw [Int.tdiv_eq_ediv_of_nonneg (by omega)];omega
      have hu:UInt32.ofInt ((64*(q.i:Int)).tdiv 64)=UInt32.ofNat q.i:=by rw [hq];exact yau _
      have hbl:=zfq key nonce (n+UInt32.ofNat q.i)
      refine za ?_
      rw [hu]
      refine zt (Ix ((min 64 (s.length-64*q.i)))) (fun r=>⟨[(0,.str key),(1,.u32 n),(2,.str nonce),(3,.str s),(9,.sl 0 0 0 [] s.length s.length),(10,.int (64*(q.i:Int))),(11,.str (blk key nonce (n+UInt32.ofNat q.i))),(12,.int r.i)],[.mk 5 [.arr8 s.length (ovr (List.replicate s.length 0) 0 (ze2 key nonce n s) (64*q.i+r.i))]]⟩) (fun r=>((min 64 (s.length-64*q.i)))-r.i) ⟨0,Nat.zero_le _⟩ [0] ?_ ?_
      ·repeat ((conv=>whnf);refine zb ?_)
       conv=>whnf
       exact zo (congrArg (fun k=>SV.agg [SV.arr8 s.length (ovr (List.replicate s.length 0) 0 (ze2 key nonce n s) k)]) (by show min s.length (64*q.i)=64*q.i+0;omega))
      ·intro r
       have hri:=r.hi
       have hlo:=yg (l:=List.replicate s.length (0:UInt8)) (a:=0) (i:=64*q.i+r.i) (by omega) (ze2 key nonce n s)
       rw [hlr] at hlo
       by_cases h5:r.i<64
       ·by_cases h6:64*q.i+r.i<s.length
        ·have h7:r.i<min 64 (s.length-64*q.i):=by omega
         refine za ?_
         refine ⟨⟨r.i+1,h7⟩,[0],by show ((min 64 (s.length-64*q.i)))-(r.i+1)<((min 64 (s.length-64*q.i)))-r.i;omega,?_⟩
         repeat ((conv=>whnf);refine zb ?_)
         conv=>whnf
         refine zv (congrArg (fun x=>SV.agg [SV.arr8 s.length x]) (z9 (by omega) ?hv ?hkk)) ?_
         case hkk=>show (64*(q.i:Int)+(r.i:Int)).toNat=0+(64*q.i+r.i);omega
         case hv=>
           show s.getD (64*(q.i:Int)+(r.i:Int)).toNat 0^^^(blk key nonce (n+UInt32.ofNat q.i)).getD ((r.i:Int)).toNat 0=ze2 key nonce n s (64*q.i+r.i)
           unfold ze2
           rw [show (64*(q.i:Int)+(r.i:Int)).toNat=64*q.i+r.i by omega,Int.toNat_natCast,show (64*q.i+r.i)/ 64=q.i by omega,show (64*q.i+r.i)%64=r.i by omega]
         exact zn
        ·have e5:64*q.i+r.i=s.length:=by omega
         refine za ?_
         have hq1:q.i<s.length:=by omega
         conv=>whnf
         refine ⟨⟨q.i+1,hq1⟩,[0],by show (s.length)-(q.i+1)<(s.length)-q.i;omega,?_⟩
         repeat ((conv=>whnf);refine zb ?_)
         conv=>whnf
         exact zo (congrArg (fun k=>SV.agg [SV.arr8 s.length (ovr (List.replicate s.length 0) 0 (ze2 key nonce n s) k)]) (by show 64*q.i+r.i=min s.length (64*(q.i+1));omega))
       ·refine za ?_
        have hq1:q.i<s.length:=by omega
        conv=>whnf
        refine ⟨⟨q.i+1,hq1⟩,[0],by show (s.length)-(q.i+1)<(s.length)-q.i;omega,?_⟩
        repeat ((conv=>whnf);refine zb ?_)
        conv=>whnf
        exact zo (congrArg (fun k=>SV.agg [SV.arr8 s.length (ovr (List.replicate s.length 0) 0 (ze2 key nonce n s) k)]) (by show 64*q.i+r.i=min s.length (64*(q.i+1));omega))
     ·have hlo:=yg (l:=List.replicate s.length (0:UInt8)) (a:=0) (i:=s.length) (by omega) (ze2 key nonce n s)
      rw [hlr] at hlo
      have e5:min s.length (64*q.i)=s.length:=by omega
      have e6:List.take s.length (List.drop (off []) (ovr (List.replicate s.length 0) 0 (ze2 key nonce n s) s.length))=xt key nonce n s:=by
        rw [y4 hlr]
        exact List.take_of_length_le (Nat.le_of_eq (zz _ _))
      rw [e5]
      refine za ?_
      rw [e6]
      conv=>whnf
      exact zf [] h
   ·exact h.elim
end Go.Sym.Z

namespace Go.Sym.Pol
open Go.Sym.Lp
def zc0 (x:List UInt64):Nat→List UInt64×UInt64
  |0=>(x,0)
  |i+1=>
   ((((zc0 x i).1.set i (g64 (zc0 x i).1 i+(zc0 x i).2)).set i (g64 ((zc0 x i).1.set i (g64 (zc0 x i).1 i+(zc0 x i).2)) i&&&M26)),
     g64 ((zc0 x i).1.set i (g64 (zc0 x i).1 i+(zc0 x i).2)) i>>>(26:UInt64))
theorem zfa (x:List UInt64): ∀i,(zc0 x i).1.length=x.length
  |0=>rfl
  |i+1=>by simp only [zc0,List.length_set];exact zfa x i
def rcd (x:List UInt64):List UInt64:=(zc0 x 5).1.set 0 (g64 (zc0 x 5).1 0+5*(zc0 x 5).2)
theorem zf1 (x:List UInt64):(rcd x).length=x.length:=by unfold rcd;rw [List.length_set,zfa]
def zcj (x r:List UInt64):List UInt64:=rcd (rcd (xu x r 25))
theorem zxk (x r:List UInt64):(zcj x r).length=5:=by unfold zcj;rw [zf1,zf1,zb0]
theorem z8p (a b c d e:UInt64):rcd [a,b,c,d,e]=
    (let a0:=a+0;let c0:=a0>>>(26:UInt64);let b1:=b+c0;let c1:=b1>>>(26:UInt64);let c':=c+c1;let c2:=c'>>>(26:UInt64);let d':=d+c2;let c3:=d'>>>(26:UInt64);let e':=e+c3;let c4:=e'>>>(26:UInt64)
     [(a0&&&M26)+5*c4,b1&&&M26,c'&&&M26,d'&&&M26,e'&&&M26]):=rfl
end Go.Sym.Pol
namespace Go.Sym.Pol
open Go.Sym.Lp
def zgo (X:List UInt64) (j:Nat):Nat:=(g64 X (j/ 26)).toNat/ 2^(j%26)%2
def rbv (X:List UInt64) (i:Nat):Nat→Nat
  |0=>0
  |k+1=>rbv X i k+zgo X (8*i+k)*2^k
theorem zlz (X:List UInt64) (i:Nat): ∀k,rbv X i k<2^k
  |0=>Nat.one_pos
  |k+1=>by
   have h:=zlz X i k
   have hb:zgo X (8*i+k)≤1:=by unfold zgo;omega
   have hm:zgo X (8*i+k)*2^k≤1*2^k:=Nat.mul_le_mul hb (Nat.le_refl _)
   rw [rbv,Nat.pow_succ]
   omega
def rts (X:List UInt64) (s:List UInt8):Nat→List UInt8×Nat
  |0=>(List.replicate 16 0,0)
  |i+1=>((rts X s i).1.set i (UInt8.ofNat ((rts X s i).2+rbv X i 8+(s.getD i 0).toNat)),((rts X s i).2+rbv X i 8+(s.getD i 0).toNat)/ 256)
theorem zhw (X:List UInt64) (s:List UInt8): ∀i,(rts X s i).1.length=16
  |0=>rfl
  |i+1=>by simp only [rts,List.length_set];exact zhw X s i
theorem ztr (X:List UInt64) (s:List UInt8): ∀i,(rts X s i).2≤1
  |0=>Nat.zero_le _
  |i+1=>by
   have h1:=ztr X s i
   have h2:rbv X i 8<256:=zlz X i 8
   have h3:(s.getD i 0).toNat<256:=(s.getD i 0).toNat_lt
   simp only [rts]
   omega
def zgv (x:List UInt64):List UInt64:=
  if UInt64.ofNat 0<(zc0 ((rcd (rcd x)).set 0 (g64 (rcd (rcd x)) 0+5)) 5).2 then (zc0 ((rcd (rcd x)).set 0 (g64 (rcd (rcd x)) 0+5)) 5).1 else rcd (rcd x)
def zqt (x:List UInt64) (s:List UInt8):List UInt8:=(rts (zgv x) s 16).1
end Go.Sym.Pol
namespace Go.Sym.Pol
theorem ydn (a:UInt64) {k:Nat} (h:k<64):(a>>>UInt64.ofNat k&&&UInt64.ofNat 1).toNat=a.toNat/ 2^k%2:=by
  rw [UInt64.toNat_and,UInt64.toNat_shiftRight,UInt64.toNat_ofNat',Nat.mod_eq_of_lt (a:=k) (by omega),Nat.mod_eq_of_lt h]
  show a.toNat>>>k&&&(2^1-1)=_
  rw [Nat.and_two_pow_sub_one_eq_mod,Nat.shiftRight_eq_div_pow]
end Go.Sym.Pol

namespace Go.Sym.Z
open Go Go.Proofs.Tryz Go.Sym.Lp Go.Sym.Pol Go.Sym.Cha
set_option maxRecDepth 100000
attribute [local irreducible] yx xt blk xu rcd
def yh5:List (Nat×List PStep):= []
def yg6:List (Nat×List PStep):= []
def yhs:List (Nat×List PStep):= []
def yjt:List (Nat×List PStep):= [(8,[⟨0,[]⟩,⟨1,[]⟩,⟨2,[]⟩,⟨3,[0,1,2]⟩,⟨4,[0,1,2]⟩,⟨5,[0,1,2]⟩,⟨6,[]⟩,⟨7,[]⟩])]
def znv:Spec:=fun args hp K=>match args,hp with
  | [.str s],[]=>Pre (s.length<9223372036854775000) (K (.str (s++fillB s.length)) [])
  |_,_=>False
theorem zry:zp prog 104 znv:=by
  refine zm xe zi rfl func104 rfl call104 (D:=yh5) ?_ ?_
  ·intro args hp K h
   unfold znv at h
   split at h
   ·exact Nat.le_of_ble_eq_true rfl
   ·exact h.elim
  ·intro args hp K h
   unfold znv at h
   split at h
   ·rename_i s
    obtain ⟨hs,h⟩:=zq h
    have hm:(s.length:Int).tmod 16=((s.length%16:Nat):Int):=by rw [Int.tmod_eq_emod_of_nonneg (by omega)];omega
    have hm2:((16:Int)-(s.length:Int).tmod 16).tmod 16=(((16-s.length%16)%16:Nat):Int):=by
      rw [hm,Int.tmod_eq_emod_of_nonneg (by omega)];omega
    refine za ?_
    conv=>whnf
    refine yu (hp':= []) [] h ?_
    repeat ((conv=>whnf);refine zb ?_)
    conv=>whnf
    exact zo (congrArg SV.str (by rw [hm2,Int.toNat_natCast];unfold fillB;show s++List.take _ (List.drop 0 _)=_;rw [List.drop_zero,List.take_of_length_le (by rw [List.length_replicate];exact Nat.le_refl _)]))
   ·exact h.elim
def zlm:Spec:=fun args hp K=>match args,hp with
  | [.arr64 5 x],[]=>Pre (x.length=5) (K (.arr64 5 (rcd x)) [])
  |_,_=>False
theorem zor:zp prog 155 zlm:=by
  refine zm xe zi rfl func155 rfl call155 (D:=yhs) ?_ ?_
  ·intro args hp K h
   unfold zlm at h
   split at h
   ·exact Nat.le_of_ble_eq_true rfl
   ·exact h.elim
  ·intro args hp K h
   unfold zlm at h
   split at h
   ·rename_i x
    obtain ⟨hx,h⟩:=zq h
    unfold rcd at h
    refine za ?_
    refine zt (Ix (5)) (fun q=>⟨[(1,.ptr 0 0 0 []),(2,.ptr 1 0 0 []),(3,.u64 (zc0 x q.i).2),(4,.int q.i)],[.mk 167 [.arr64 5 (zc0 x q.i).1],.mk 167 [.arr64 5 [0,0,0,0,0]]]⟩) (fun q=>(5)-q.i) ⟨0,Nat.zero_le _⟩ [0,1] ?_ ?_
    ·exact zn
    ·intro q
     have hi:=q.hi
     have hl:=zfa x q.i
     have hI:((q.i:Int)).toNat=q.i:=Int.toNat_natCast _
     by_cases h4:q.i<5
     ·refine za ?_
      refine ⟨⟨q.i+1,h4⟩,[0,1],by show (5)-(q.i+1)<(5)-q.i;omega,?_⟩
      exact zn
     ·have e4:q.i=5:=by omega
      have hl5:=zfa x 5
      rw [e4]
      refine za ?_
      exact zf [] h
   ·exact h.elim
def zla:Spec:=fun args hp K=>match args,hp with
  | [.arr64 5 x,.arr64 5 r],[]=>Pre (x.length=5∧r.length=5) (K (.arr64 5 (zcj x r)) [])
  |_,_=>False
theorem zxv:zp prog 126 zla:=by
  refine zm xe (zd zor zi) rfl func126 rfl call126 (D:=yjt) ?_ ?_
  ·intro args hp K h
   unfold zla at h
   split at h
   ·exact Nat.le_of_ble_eq_true rfl
   ·exact h.elim
  ·intro args hp K h
   unfold zla at h
   split at h
   ·rename_i x r
    obtain ⟨⟨hx,hr⟩,h⟩:=zq h
    refine za ?_
    refine zt (Ix (5)) (fun q=>⟨[(2,.ptr 0 0 0 []),(3,.ptr 1 0 0 []),(4,.ptr 2 0 0 []),(5,.ptr 3 0 0 []),(6,.int q.i)],[.mk 167 [.arr64 5 x],.mk 167 [.arr64 5 r],.mk 167 [.arr64 5 [0,0,0,0,0]],.mk 167 [.arr64 5 (xu x r (5*q.i))]]⟩) (fun q=>(5)-q.i) ⟨0,Nat.zero_le _⟩ [0,1,2,3] ?_ ?_
    ·repeat ((conv=>whnf);refine zb ?_)
     conv=>whnf
     exact zo (congrArg (fun x=>SV.agg [SV.arr64 5 x]) (show [0,0,0,0,0]=xu x r 0 by unfold xu;rfl))
    ·intro q
     have hi:=q.hi
     have hl:=zb0 x r (5*q.i)
     by_cases h4:q.i<5
     ·refine za ?_
      refine zt (Ix (5)) (fun p=>⟨[(2,.ptr 0 0 0 []),(3,.ptr 1 0 0 []),(4,.ptr 2 0 0 []),(5,.ptr 3 0 0 []),(6,.int q.i),(7,.int p.i)],[.mk 167 [.arr64 5 x],.mk 167 [.arr64 5 r],.mk 167 [.arr64 5 [0,0,0,0,0]],.mk 167 [.arr64 5 (xu x r (5*q.i+p.i))]]⟩) (fun p=>(5)-p.i) ⟨0,Nat.zero_le _⟩ [0,1,2,3] ?_ ?_
      ·exact zn
      ·intro p
       have hip:=p.hi
       have hlp:=zb0 x r (5*q.i+p.i)
       have hm:((q.i:Int)+(p.i:Int)).tmod 5=(((q.i+p.i)%5:Nat):Int):=by rw [Int.tmod_eq_emod_of_nonneg (by omega)];omega
       have hI:(((q.i:Int)+(p.i:Int)).tmod 5).toNat=(q.i+p.i)%5:=by omega
       by_cases h5:p.i<5
       ·have hps:=zz6 x r (i:=q.i) (k:=p.i) h5
        by_cases h6:4<q.i+p.i
        ·have hmu:ztz x r q.i p.i=UInt64.ofNat 5*(g64 x q.i*g64 r p.i):=by unfold ztz;rw [if_pos (by omega),UInt64.mul_comm];rfl
         rw [hmu] at hps
         refine za ?_
         rw [hI]
         conv=>whnf
         refine ⟨⟨p.i+1,h5⟩,[0,1,2,3],by show (5)-(p.i+1)<(5)-p.i;omega,?_⟩
         repeat ((conv=>whnf);refine zb ?_)
         conv=>whnf
         exact zo (congrArg (fun x=>SV.agg [SV.arr64 5 x]) hps.symm)
        ·have hmu:ztz x r q.i p.i=g64 x q.i*g64 r p.i:=by unfold ztz;rw [if_neg (by omega)]
         rw [hmu] at hps
         refine za ?_
         rw [hI]
         conv=>whnf
         refine ⟨⟨p.i+1,h5⟩,[0,1,2,3],by show (5)-(p.i+1)<(5)-p.i;omega,?_⟩
         repeat ((conv=>whnf);refine zb ?_)
         conv=>whnf
         exact zo (congrArg (fun x=>SV.agg [SV.arr64 5 x]) hps.symm)
       ·have e5:p.i=5:=by omega
        rw [e5]
        refine za ?_
        refine ⟨⟨q.i+1,h4⟩,[0,1,2,3],by show (5)-(q.i+1)<(5)-q.i;omega,?_⟩
        exact zn
     ·have e4:q.i=5:=by omega
      have hp1:(xu x r (5*5)).length=5:=zb0 x r _
      have hp2:(rcd (xu x r (5*5))).length=5:=by rw [zf1];exact hp1
      unfold zcj at h
      rw [e4]
      refine za ?_
      exact zf [] h
   ·exact h.elim
def lit (n:Int) (i:Nat):UInt8:=UInt8.ofInt (zae BinOp.and (n/ 2^(8*(i:Int)).toNat) 255)
theorem z5x {n:Int} (h0:0≤n) (h1:n≤2147483647):(List.range 8).map (lit n)=zcn n.toNat:=by
  have hL: ∀i,lit n i=UInt8.ofInt (n/ 2^(8*i)):=fun i=>by
    unfold lit
    have e:(8*(i:Int)).toNat=8*i:=by omega
    rw [e]
    exact Go.Sym.Ib.u8_255 (Int.ediv_nonneg h0 (Int.le_of_lt (Int.pow_pos (by decide))))
  have e:((n.toNat:Nat):Int)=n:=Int.toNat_of_nonneg h0
  have l0:lit n 0=UInt8.ofInt n:=by rw [hL];show UInt8.ofInt (n/ 1)=_;rw [Int.ediv_one]
  have z4:lit n 4=0:=by rw [hL,show n/ 2^(8*4)=0 by show n/ 4294967296=0;omega];rfl
  have z5:lit n 5=0:=by rw [hL,show n/ 2^(8*5)=0 by show n/ 1099511627776=0;omega];rfl
  have z6:lit n 6=0:=by rw [hL,show n/ 2^(8*6)=0 by show n/ 281474976710656=0;omega];rfl
  have z7:lit n 7=0:=by rw [hL,show n/ 2^(8*7)=0 by show n/ 72057594037927936=0;omega];rfl
  unfold zcn
  rw [e]
  show [lit n 0,lit n 1,lit n 2,lit n 3,lit n 4,lit n 5,lit n 6,lit n 7]=_
  rw [l0,hL 1,hL 2,hL 3,z4,z5,z6,z7]
def zoy:Spec:=fun args hp K=>match args,hp with
  | [.int n],[]=>Pre (0≤n∧n≤2147483647) (K (.str (zcn n.toNat)) [])
  |_,_=>False
theorem z3d:zp prog 105 zoy:=by
  refine zm xe zi rfl func105 rfl call105 (D:=yg6) ?_ ?_
  ·intro args hp K h
   unfold zoy at h
   split at h
   ·exact Nat.le_of_ble_eq_true rfl
   ·exact h.elim
  ·intro args hp K h
   unfold zoy at h
   split at h
   ·rename_i n
    obtain ⟨⟨hn0,hn⟩,h⟩:=zq h
    refine za ?_
    refine zt (Ix (8)) (fun q=>⟨[(0,.int n),(3,.sl 0 0 0 [] 8 8),(4,.int q.i)],[.mk 5 [.arr8 8 (ovr (List.replicate 8 0) 0 (lit n) q.i)]]⟩) (fun q=>(8)-q.i) ⟨0,Nat.zero_le _⟩ [0] ?_ ?_
    ·exact zn
    ·intro q
     have hi:=q.hi
     have hlo:=yg (l:=List.replicate 8 (0:UInt8)) (a:=0) (i:=q.i) (by rw [List.length_replicate];omega) (lit n)
     rw [List.length_replicate] at hlo
     by_cases h4:q.i<8
     ·refine za ?_
      conv=>whnf
      refine ⟨⟨q.i+1,h4⟩,[0],by show (8)-(q.i+1)<(8)-q.i;omega,?_⟩
      repeat ((conv=>whnf);refine zb ?_)
      conv=>whnf
      refine zv (congrArg (fun x=>SV.agg [SV.arr8 8 x]) (z9 (by rw [List.length_replicate];omega) rfl ?hkk)) ?_
      case hkk=>show ((q.i:Int)).toNat=0+q.i;omega
      exact zn
     ·have e4:q.i=8:=by omega
      have hF:List.take 8 (List.drop (off []) (ovr (List.replicate 8 0) 0 (lit n) 8))=zcn n.toNat:=by
        rw [y4 (List.length_replicate)]
        show List.take 8 (List.drop 0 _)=_
        rw [List.drop_zero,List.take_of_length_le (Nat.le_of_eq (zz _ _))]
        exact z5x hn0 hn
      rw [e4]
      refine za ?_
      conv=>whnf
      refine yu (hp':= []) [] h ?_
      repeat ((conv=>whnf);refine zb ?_)
      conv=>whnf
      exact zo (congrArg SV.str hF)
   ·exact h.elim
end Go.Sym.Z

namespace Go.Sym.Gcm
open Go.Sym Go.Sym.Lp Go.Sym.Aes
theorem zq5 {W t x:List UInt8} {r:Nat} (h:16*r+16≤W.length):zqy (W++t) r x=zqy W r x:=by
  unfold zqy
  refine yo fun j hj=>?_
  congr 1
  rw [List.getD_eq_getElem?_getD,List.getElem?_append_left (by omega),←List.getD_eq_getElem?_getD]
theorem zns {W t x:List UInt8} {R:Nat} (h:W.length=16*R): ∀r,r<R→zb1 (W++t) R x r=zb1 W R x r
  |0,hr=>zq5 (by omega)
  |r+1,hr=>by
   simp only [zb1,rnd]
   rw [zns h r (by omega),zq5 (by omega)]
theorem zva {W t x:List UInt8} {R:Nat} (h:W.length=16*R) (h1:1≤R):enc (W++t) R x=enc W R x:=zns h (R-1) (by omega)
theorem zqm {W t s nonce:List UInt8} {R:Nat} {n:UInt32} (h:W.length=16*R) (h1:1≤R):gst (W++t) R nonce n s=gst W R nonce n s:=by
  unfold gst
  refine yo fun j hj=>?_
  unfold stG kb
  rw [zva h h1]
theorem ybf {W t:List UInt8} {R:Nat} (h:W.length=16*R) (h1:1≤R):gH (W++t) R=gH W R:=by
  unfold gH
  rw [zva h h1]
theorem z73 {aad b:List UInt8} (ha:aad.length≤65536) (hb:b.length≤70000):
    aad++Go.Sym.Pol.fillB aad.length++(b++Go.Sym.Pol.fillB b.length)++(beB (8*(aad.length:Int)) 8++beB (8*(b.length:Int)) 8)=zqs aad b:=by
  unfold zqs
  rw [show (8*(aad.length:Int))=((8*aad.length:Nat):Int) by omega,show (8*(b.length:Int))=((8*b.length:Nat):Int) by omega,yii (by omega) (by omega)]
  rfl
theorem z5e (aad b:List UInt8):(zqs aad b).length/ 16=gN aad b:=by
  rw [z97];omega
end Go.Sym.Gcm

namespace Go.Sym.Z
open Go Go.Proofs.Tryz Go.Sym.Lp Go.Sym.Gcm Go.Sym.Aes Go.Sym.Pol
set_option maxRecDepth 100000
attribute [local irreducible] Go.Sym.Gcm.ld yl hf4 zgm enc ks box zpv wr gst zha fillB beB
def ykq:List (Nat×List PStep):= []
def ylh:List (Nat×List PStep):= []
def z64:Spec:=fun args hp K=>match args,hp with
  | [.sl 0 0 0 [] n c,.str nonce,.str aad,.str b],[.mk t [.arr8 N W]]=> ∃R,(n=4*R∧1≤R∧R≤100∧16*R≤W.length∧nonce.length=12∧aad.length≤65536∧b.length≤70000)∧K (.str (gtg W R (gH W R) nonce aad b)) [.mk t [.arr8 N W]]
  |_,_=>False
theorem z9n:zp prog 79 z64:=by
  refine zm y5 (zd zvg (zd zrl (zd zi0 (zd ya6 (zd zry zi))))) rfl func79 rfl call79 (D:=ykq) ?_ ?_
  ·intro args hp K h
   unfold z64 at h
   split at h
   ·exact Nat.le_of_ble_eq_true rfl
   ·exact h.elim
  ·intro args hp K h
   unfold z64 at h
   split at h
   ·rename_i n c nonce aad b t N W
    obtain ⟨R,⟨rfl,hR1,hR2,hW,hn,ha,hb⟩,h⟩:=h
    have hfa:=zcc aad.length
    have hfb:=zcc b.length
    refine za ?_
    refine ⟨R,⟨rfl,hR1,hR2,rfl,hW⟩,?_⟩
    have hbl:(beB (8*(aad.length:Int)) (Int.toNat 8)).length+(beB (8*(b.length:Int)) (Int.toNat 8)).length<9223372036854775808:=by rw [zam,zam];decide
    have hbe:(beB (8*(aad.length:Int)) (Int.toNat 8)++beB (8*(b.length:Int)) (Int.toNat 8)).length=16:=by rw [List.length_append,zam,zam];rfl
    have hal:(aad++fillB aad.length).length≤70000:=by rw [List.length_append];omega
    have hcl:(b++fillB b.length).length≤80000:=by rw [List.length_append];omega
    have hac:((aad++fillB aad.length)++(b++fillB b.length)).length≤150000:=by rw [List.length_append];omega
    have hel:=zh4 W R (List.take (Int.toNat 16) (List.drop (off []) (List.replicate (Int.toNat 16) 0)))
    have hgp:(enc W R (List.take (Int.toNat 16) (List.drop (off []) (List.replicate (Int.toNat 16) 0)))).length=16∧((aad++fillB aad.length)++(b++fillB b.length)++(beB (8*(aad.length:Int)) (Int.toNat 8)++beB (8*(b.length:Int)) (Int.toNat 8))).length≤4611686018427387904:=⟨hel,by rw [List.length_append,hbe];omega⟩
    refine za ?_
    refine ⟨R,⟨rfl,hR1,hR2,hW,hn,by decide,by decide,by rw [zi1];decide⟩,?_⟩
    refine za ?_
    conv=>whnf
    refine yu (hp':= [.mk t [.arr8 N W]]) [0] h ?_
    repeat ((conv=>whnf);refine zb ?_)
    conv=>whnf
    exact zo (congrArg SV.str (by rw [show Int.toNat 8=8 from rfl,z73 ha hb,z5e];unfold gtg gH;rfl))
   ·exact h.elim
def zux:Spec:=fun args hp K=>match args,hp with
  | [.str key,.str nonce,.str aad,.str s,.int m],[]=>Pre (0≤m∧m≤1000) (K (.bool (decide ((key.length=16∨key.length=32)∧nonce.length=12∧aad.length≤65536∧(s.length:Int)≤65536+m))) [])
  |_,_=>False
theorem zwr:zp prog 76 zux:=by
  refine zm y5 zi rfl func76 rfl call76 (D:=ylh) ?_ ?_
  ·intro args hp K h
   unfold zux at h
   split at h
   ·exact Nat.le_of_ble_eq_true rfl
   ·exact h.elim
  ·intro args hp K h
   unfold zux at h
   split at h
   ·rename_i key nonce aad s m
    obtain ⟨⟨hm0,hm1⟩,h⟩:=zq h
    by_cases h1:key.length=16∨key.length=32
    ·by_cases h2:nonce.length=12
     ·by_cases h3:aad.length≤65536
      ·by_cases h4:(s.length:Int)≤65536+m
       ·rw [decide_eq_true ⟨h1,h2,h3,h4⟩] at h
        have d4:decide ((s.length:Int)≤65536+m)=true:=decide_eq_true h4
        by_cases h5:key.length=16
        ·refine za ?_
         rw [d4]
         conv=>whnf
         exact zf [] h
        ·have h6:key.length=32:=h1.resolve_left h5
         refine za ?_
         rw [d4]
         conv=>whnf
         exact zf [] h
       ·rw [decide_eq_false fun hh=>h4 hh.2.2.2] at h
        have d4:decide ((s.length:Int)≤65536+m)=false:=decide_eq_false h4
        by_cases h5:key.length=16
        ·refine za ?_
         rw [d4]
         conv=>whnf
         exact zf [] h
        ·have h6:key.length=32:=h1.resolve_left h5
         refine za ?_
         rw [d4]
         conv=>whnf
         exact zf [] h
      ·rw [decide_eq_false fun hh=>h3 hh.2.2.1] at h
       by_cases h5:key.length=16
       ·refine za ?_
        exact zf [] h
       ·have h6:key.length=32:=h1.resolve_left h5
        refine za ?_
        exact zf [] h
     ·rw [decide_eq_false fun hh=>h2 hh.2.1] at h
      by_cases h5:key.length=16
      ·refine za ?_
       exact zf [] h
      ·have h6:key.length=32:=h1.resolve_left h5
       refine za ?_
       exact zf [] h
    ·rw [decide_eq_false fun hh=>h1 hh.1] at h
     refine za ?_
     exact zf [] h
   ·exact h.elim
end Go.Sym.Z

namespace Go.Sym.Z
open Go Go.Proofs.Tryz Go.Sym.Lp Go.Sym.Gcm Go.Sym.Aes
set_option maxRecDepth 100000
attribute [local irreducible] gst gtg gH enc ks box
def ym1:List (Nat×List PStep):= []
def yku:List (Nat×List PStep):= [(7,[⟨0,[]⟩,⟨1,[0]⟩,⟨2,[0,1]⟩,⟨3,[0,1,2]⟩,⟨4,[0,1,2,3]⟩,⟨5,[0,1,2]⟩,⟨7,[0,1,2,3,4,5]⟩,⟨8,[0,1,2,3,4,5,7]⟩,⟨9,[0,1,2,3,4,5]⟩,⟨6,[7,8,9]⟩,⟨10,[]⟩])]
theorem ydp {key:List UInt8} (h:key.length=16∨key.length=32):ks key (key.length/ 4) (key.length+28)=gW key:=by
  unfold gW
  rw [show 4*(key.length/ 4+7)=key.length+28 by omega]
theorem z0g {key:List UInt8} (h:key.length=16∨key.length=32):key.length+28=4*gR key:=by unfold gR;omega
theorem zv7 {W t nonce aad b:List UInt8} {R:Nat} (h:W.length=16*R) (h1:1≤R):gtg (W++t) R (gH (W++t) R) nonce aad b=gtg W R (gH W R) nonce aad b:=by
  unfold gtg
  rw [zqm h h1,ybf h h1]
theorem z59:zp prog 56 zpu:=by
  refine zm y5 (zd zwr (zd zve (zd zi0 (zd z9n zi)))) rfl func56 rfl call56 (D:=ym1) ?_ ?_
  ·intro args hp K h
   unfold zpu at h
   split at h
   ·exact Nat.le_of_ble_eq_true rfl
   ·exact h.elim
  ·intro args hp K h
   unfold zpu at h
   split at h
   ·rename_i key nonce aad s
    by_cases h0:(key.length=16∨key.length=32)∧nonce.length=12∧aad.length≤65536∧(s.length:Int)≤65536+0
    ·rw [if_pos (by rw [Int.add_zero] at h0;exact h0)] at h
     have hd:=decide_eq_true h0
     obtain ⟨hk,hn,ha,hs⟩:=h0
     have hWl:=zpg hk
     have hR:=z0g hk
     have hR7:gR key=key.length/ 4+7:=rfl
     have hwk:=ydp hk
     repeat ((conv=>whnf);first|refine zu ?_|refine zg ?_|refine zh ?_|refine zb ?_|refine zr (by first|exact hd|(rw [hd];rfl)) ?_|refine zj (by first|exact hd|(rw [hd];rfl)) ?_|refine zk (by first|exact hd|(rw [hd];rfl)) ?_)
     conv=>whnf
     refine yi fun tl=>?_
     have hWt:16*gR key≤(ks key (key.length/ 4) (key.length+28)++tl.l).length:=by rw [hwk,List.length_append];omega
     have hst:=zhu (ks key (key.length/ 4) (key.length+28)++tl.l) (gR key) nonce (UInt32.ofNat (Int.toNat 2)) s
     refine za ?_
     refine ⟨gR key,⟨hR,by omega,by omega,hWt,hn,by decide,by decide,by omega⟩,?_⟩
     refine za ?_
     refine ⟨gR key,⟨hR,by omega,by omega,hWt,hn,ha,by omega⟩,?_⟩
     refine za ?_
     have hTl:(gtg (ks key (key.length/ 4) (key.length+28)++tl.l) (gR key) (gH (ks key (key.length/ 4) (key.length+28)++tl.l) (gR key)) nonce aad (gst (ks key (key.length/ 4) (key.length+28)++tl.l) (gR key) nonce (UInt32.ofNat (Int.toNat 2)) s)).length=16:=by unfold gtg;rw [zhu,zi1]
     have hp4:(gst (ks key (key.length/ 4) (key.length+28)++tl.l) (gR key) nonce (UInt32.ofNat (Int.toNat 2)) s).length+(gtg (ks key (key.length/ 4) (key.length+28)++tl.l) (gR key) (gH (ks key (key.length/ 4) (key.length+28)++tl.l) (gR key)) nonce aad (gst (ks key (key.length/ 4) (key.length+28)++tl.l) (gR key) nonce (UInt32.ofNat (Int.toNat 2)) s)).length<9223372036854775808:=by omega
     have hE1:(gst (ks key (key.length/ 4) (key.length+28)++tl.l) (gR key) nonce (UInt32.ofNat (Int.toNat 2)) s)=zft key nonce s:=by
       rw [hwk,zqm hWl (by omega)];rfl
     have hE2:(gtg (ks key (key.length/ 4) (key.length+28)++tl.l) (gR key) (gH (ks key (key.length/ 4) (key.length+28)++tl.l) (gR key)) nonce aad (gst (ks key (key.length/ 4) (key.length+28)++tl.l) (gR key) nonce (UInt32.ofNat (Int.toNat 2)) s))=zew key nonce aad (zft key nonce s):=by
       rw [hE1,hwk]
       exact zv7 hWl (by omega)
     refine za ?_
     refine yu (hp':= []) [] h ?_
     repeat ((conv=>whnf);refine zb ?_)
     conv=>whnf
     exact zo (congrArg (fun y=>SV.tup [SV.str y,SV.int 0]) (by rw [hE1] at hE2 ⊢;rw [hE2];rfl))
    ·rw [if_neg (by rw [Int.add_zero] at h0;exact h0)] at h
     have hd:=decide_eq_false h0
     repeat ((conv=>whnf);first|refine zu ?_|refine zg ?_|refine zh ?_|refine zb ?_|refine zr (by first|exact hd|(rw [hd];rfl)) ?_|refine zj (by first|exact hd|(rw [hd];rfl)) ?_|refine zk (by first|exact hd|(rw [hd];rfl)) ?_)
     conv=>whnf
     exact zf [] h
   ·exact h.elim
theorem z7n:zp prog 99 zpz:=by
  refine zm y5 (zd zwr (zd zve (zd zi0 (zd z9n zi)))) rfl func99 rfl call99 (D:=yku) ?_ ?_
  ·intro args hp K h
   unfold zpz at h
   split at h
   ·exact Nat.le_of_ble_eq_true rfl
   ·exact h.elim
  ·intro args hp K h
   unfold zpz at h
   split at h
   ·rename_i key nonce aad s
    by_cases h0:(key.length=16∨key.length=32)∧nonce.length=12∧aad.length≤65536∧(s.length:Int)≤65536+16
    ·rw [if_pos ⟨h0.1,h0.2.1,h0.2.2.1,by omega⟩] at h
     have hd:=decide_eq_true h0
     obtain ⟨hk,hn,ha,hs⟩:=h0
     have hWl:=zpg hk
     have hR:=z0g hk
     have hR7:gR key=key.length/ 4+7:=rfl
     have hwk:=ydp hk
     by_cases h1:16≤s.length
     ·have hnn:((s.length:Int)-16).toNat=s.length-16:=by omega
      repeat ((conv=>whnf);first|refine zu ?_|refine zg ?_|refine zh ?_|refine zb ?_|refine zr (by first|exact hd|(rw [hd];rfl)) ?_|refine zj (by first|exact hd|(rw [hd];rfl)) ?_|refine zk (by first|exact hd|(rw [hd];rfl)) ?_)
      conv=>whnf
      refine yi fun tl=>?_
      have hWt:16*gR key≤(ks key (key.length/ 4) (key.length+28)++tl.l).length:=by rw [hwk,List.length_append];omega
      refine za ?_
      refine ⟨gR key,⟨hR,by omega,by omega,hWt,hn,ha,by rw [hnn,List.length_take];omega⟩,?_⟩
      refine za ?_
      have hE2:gtg (ks key (key.length/ 4) (key.length+28)++tl.l) (gR key) (gH (ks key (key.length/ 4) (key.length+28)++tl.l) (gR key)) nonce aad (List.take ((s.length:Int)-16).toNat s)=zew key nonce aad (s.take (s.length-16)):=by
        rw [hnn,hwk]
        exact zv7 hWl (by omega)
      by_cases hq:zew key nonce aad (s.take (s.length-16))=s.drop (s.length-16)
      ·rw [if_pos ⟨h1,hq⟩] at h
       have hdq:decide (gtg (ks key (key.length/ 4) (key.length+28)++tl.l) (gR key) (gH (ks key (key.length/ 4) (key.length+28)++tl.l) (gR key)) nonce aad (List.take ((s.length:Int)-16).toNat s)=List.drop ((s.length:Int)-16).toNat s)=true:=decide_eq_true (by rw [hE2,hnn];exact hq)
       repeat ((conv=>whnf);first|refine zu ?_|refine zg ?_|refine zh ?_|refine zb ?_|refine zr (by first|exact hdq|(rw [hdq];rfl)) ?_|refine zj (by first|exact hdq|(rw [hdq];rfl)) ?_|refine zk (by first|exact hdq|(rw [hdq];rfl)) ?_)
       conv=>whnf
       refine ⟨gR key,⟨hR,by omega,by omega,hWt,hn,by decide,by decide,by rw [hnn,List.length_take];omega⟩,?_⟩
       refine za ?_
       refine yu (hp':= []) [] h ?_
       repeat ((conv=>whnf);refine zb ?_)
       conv=>whnf
       exact zo (congrArg (fun y=>SV.tup [SV.str y,SV.int 0]) (by rw [hwk,hnn,zqm hWl (by omega)];rfl))
      ·rw [if_neg fun hh=>hq hh.2] at h
       have hdq:decide (gtg (ks key (key.length/ 4) (key.length+28)++tl.l) (gR key) (gH (ks key (key.length/ 4) (key.length+28)++tl.l) (gR key)) nonce aad (List.take ((s.length:Int)-16).toNat s)=List.drop ((s.length:Int)-16).toNat s)=false:=decide_eq_false (by rw [hE2,hnn];exact hq)
       repeat ((conv=>whnf);first|refine zu ?_|refine zg ?_|refine zh ?_|refine zb ?_|refine zr (by first|exact hdq|(rw [hdq];rfl)) ?_|refine zj (by first|exact hdq|(rw [hdq];rfl)) ?_|refine zk (by first|exact hdq|(rw [hdq];rfl)) ?_)
       conv=>whnf
       exact zf [] h
     ·rw [if_neg fun hh=>h1 hh.1] at h
      repeat ((conv=>whnf);first|refine zu ?_|refine zg ?_|refine zh ?_|refine zb ?_|refine zr (by first|exact hd|(rw [hd];rfl)) ?_|refine zj (by first|exact hd|(rw [hd];rfl)) ?_|refine zk (by first|exact hd|(rw [hd];rfl)) ?_)
      conv=>whnf
      exact zf [] h
    ·rw [if_neg fun hh=>h0 ⟨hh.1,hh.2.1,hh.2.2.1,by omega⟩] at h
     have hd:=decide_eq_false h0
     repeat ((conv=>whnf);first|refine zu ?_|refine zg ?_|refine zh ?_|refine zb ?_|refine zr (by first|exact hd|(rw [hd];rfl)) ?_|refine zj (by first|exact hd|(rw [hd];rfl)) ?_|refine zk (by first|exact hd|(rw [hd];rfl)) ?_)
     conv=>whnf
     exact zf [] h
   ·exact h.elim
end Go.Sym.Z
