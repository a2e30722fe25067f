/-
  Contracts of functions of the program, each said of symbolic values, and plain laws; no condition beyond each statement's own.
-/
import Derived.Test.YtmmpgjcpielefaaGreatG20
import Derived.Test.YtmmpgjcpielefaaGreatG21
import Derived.Test.YtmmpgjcpielefaaGreatG3
set_option linter.unusedSimpArgs false
set_option linter.unusedVariables false
namespace Go.Sym.Z
open Go Go.Proofs.Tryz Go.Sym.Lp Go.Sym.Gcm Go.Sym.Aes
set_option maxRecDepth 100000
attribute [local irreducible] ldE ld yj hf4 zga zhi zbd enc ks box ctr
def ydu:List (Nat×List PStep):= []
def yfm:List (Nat×List PStep):= [(3,[⟨0,[]⟩,⟨1,[]⟩,⟨2,[]⟩,⟨3,[]⟩,⟨4,[0,1,2,3]⟩,⟨5,[0,1,2,3,4]⟩,⟨8,[0,1,2,3,4,5]⟩,⟨6,[0,1,2,3,8]⟩,⟨7,[8]⟩,⟨9,[]⟩]),(8,[⟨0,[]⟩,⟨1,[0]⟩,⟨2,[]⟩,⟨3,[]⟩,⟨4,[0,1,2,3]⟩,⟨5,[0,1,2,3]⟩,⟨6,[0,1,2,3]⟩,⟨7,[]⟩,⟨8,[]⟩,⟨9,[]⟩])]
abbrev gkey (t0 t1 t2:Nat) (h1 h2:UInt64) (R c N:Nat) (W:List UInt8):List Blk:= [.mk t0 [.ptr 1 0 0 [],.u64 h1,.u64 h2],.mk t1 [.arr8 256 box,.sl 2 0 0 [] R c],.mk t2 [.arr8 N W]]
def zsd:Spec:=fun args hp K=>match args,hp with
  | [.str key],[]=>zx (decide (key.length=16∨key.length=32))
      (K (.tup [.ptr 0 0 0 [],.bool true]) [.mk 186 [.ptr 1 0 0 [],.u64 (gH (gW key) (gR key)).1,.u64 (gH (gW key) (gR key)).2],.mk 216 [.arr8 256 box,.sl 2 0 0 [] (gR key) (gR key)],.mk 168 [.arr8 (16*gR key) (gW key)]])
      (K (.tup [.nilptr,.bool false]) [])
  |_,_=>False
theorem zvo:zm prog 115 zsd:=by
  refine zk yz (zc z4m (zc zli (zc zyw zg))) rfl func115 rfl call115 (D:=ydu) ?_ ?_
  ·intro args hp K h
   unfold zsd at h
   split at h
   ·exact Nat.le_of_ble_eq_true rfl
   ·exact h.elim
  ·intro args hp K h
   unfold zsd at h
   split at h
   ·rename_i key
    obtain ⟨ht,hn⟩:=zy h
    by_cases hk:key.length=16∨key.length=32
    ·have h:=ht (decide_eq_true hk)
     have hd:=decide_eq_true hk
     have hWl:=zss hk
     have hR:gR key=key.length/ 4+7:=rfl
     have hp5:box=box∧(List.replicate 16 (0:UInt8)).length=16∧1≤gR key∧gR key≤100∧16*gR key≤(gW key).length:=⟨rfl,List.length_replicate,by omega,by omega,by omega⟩
     have hel:=zib (gW key) (gR key) (List.replicate 16 0)
     have htk:List.take 16 (List.drop (off []) (enc (gW key) (gR key) (List.replicate 16 0)))=enc (gW key) (gR key) (List.replicate 16 0):=List.take_of_length_le (Nat.le_of_eq hel)
     have hw:ks key (key.length/ 4) (4*gR key)=gW key:=by unfold gW gR;rfl
     repeat ((conv=>whnf);first|refine zu ?_|refine zi ?_|refine zj ?_|refine zb ?_|refine zw (by first|exact hd) ?_|refine zo (by first|exact hd) ?_|refine zn (by first|exact hd) ?_)
     conv=>whnf
     rw [←hR,hw]
     refine za ?_
     rw [htk,show ld (enc (gW key) (gR key) (List.replicate 16 0))=gH (gW key) (gR key) by unfold gH;rfl]
     conv=>whnf
     exact ze [3,0,1] h
    ·have h:=hn (decide_eq_false hk)
     have hd:=decide_eq_false hk
     repeat ((conv=>whnf);first|refine zu ?_|refine zi ?_|refine zj ?_|refine zb ?_|refine zw (by first|exact hd) ?_|refine zo (by first|exact hd) ?_|refine zn (by first|exact hd) ?_)
     conv=>whnf
     exact ze [] h
   ·exact h.elim
structure Xg (n:Nat) where
  t:Nat
  x:Nat
  k:Nat
  c:Nat
  hn:k+16*t=n∨(k=0∧n≤16*t)
  hx:0<k→x=16*t
  hc:k≤c
def z2j:Spec:=fun args hp K=>match args,hp with
  | [.ptr 0 0 0 [],.str nonce,.sl 3 0 0 [] n cap],[.mk t0 [.ptr 1 0 0 [],.u64 h1,.u64 h2],.mk t1 [.arr8 256 bx,.sl 2 0 0 [] R c],.mk t2 [.arr8 N W],.mk t [.arr8 m l]]=>
      Pre (bx=box∧nonce.length=12∧1≤R∧R≤100∧16*R≤W.length∧n≤l.length∧n≤cap∧n≤9223372036854775807)
      (K (.tup []) [.mk t0 [.ptr 1 0 0 [],.u64 h1,.u64 h2],.mk t1 [.arr8 256 bx,.sl 2 0 0 [] R c],.mk t2 [.arr8 N W],.mk t [.arr8 m (gst W R nonce 2 (l.take n)++l.drop n)]])
  |_,_=>False
set_option maxHeartbeats 4000000 in
theorem z5b:zm prog 117 z2j:=by
  refine zk yz (zc zol (zc zli zg)) rfl func117 rfl call117 (D:=yfm) ?_ ?_
  ·intro args hp K h
   unfold z2j at h
   split at h
   ·exact Nat.le_of_ble_eq_true rfl
   ·exact h.elim
  ·intro args hp K h
   unfold z2j at h
   split at h
   ·rename_i nonce n cap t0 h1 h2 t1 bx R c t2 N W t m l
    obtain ⟨⟨rfl,hnon,hR1,hR2,hW,hl,hcap,hmax⟩,h⟩:=zl h
    rw [←z22 hl] at h
    refine za ?_
    refine zp (Option (Xg n)) (fun q=>match q with
      |none=>⟨[(0,.ptr 0 0 0 []),(1,.str nonce),(2,.sl 3 0 0 [] n cap),(6,.u32 2)],gkey t0 t1 t2 h1 h2 R c N W++ [.mk t [.arr8 m l]]⟩
      |some s=>⟨[(0,.ptr 0 0 0 []),(1,.str nonce),(2,.sl 3 0 0 [(s.x,1)] s.k s.c),(6,.u32 (2+UInt32.ofNat s.t))],gkey t0 t1 t2 h1 h2 R c N W++ [.mk t [.arr8 m (zi1 W R nonce 2 l (n-s.k))]]⟩)
      (fun q=>match q with|none=>n+1|some s=>s.k) none [0,1,2,3] ?_ ?_
    ·exact zt
    ·intro q
     cases q with
     |none=>
      by_cases h4:0<n
      ·skip
       skip
       have hmn:(min (n:Int) 16).toNat=min n 16:=by omega
       have hcl:=zmn hnon (2:UInt32)
       have hp5:box=box∧(ctr nonce (2:UInt32)).length=16∧1≤R∧R≤100∧16*R≤W.length:=⟨rfl,hcl,hR1,hR2,hW⟩
       have hkl:=zib W R (ctr nonce (2:UInt32))
       refine za ?_
       refine zp (Ix ((min n 16))) (fun r=>⟨[(0,.ptr 0 0 0 []),(1,.str nonce),(2,.sl 3 0 0 [] n cap),(6,.u32 (2:UInt32)),(7,.ptr 4 0 0 []),(8,.int (min (n:Int) 16)),(26,.int (min (n:Int) 16)),(27,.int r.i)],[.mk t0 [.ptr 1 0 0 [],.u64 h1,.u64 h2],.mk t1 [.arr8 256 box,.sl 2 0 0 [] R c],.mk t2 [.arr8 N W],.mk t [.arr8 m (zi1 W R nonce 2 l (0+r.i))],.mk 168 [.arr8 16 (enc W R (ctr nonce (2:UInt32)))]]⟩) (fun r=>((min n 16))-r.i) ⟨0,Nat.zero_le _⟩ [0,1,2,3,4] ?_ ?_
       ·exact zt
       ·intro r
        have hri:=r.hi
        have hlr:(zi1 W R nonce 2 l (0+r.i)).length=l.length:=zom (by omega)
        have hR:((r.i:Int)).toNat=r.i:=Int.toNat_natCast _
        by_cases h5:r.i<min n 16
        ·refine za ?_
         refine ⟨⟨r.i+1,h5⟩,[0,1,2,3,4],by show ((min n 16))-(r.i+1)<((min n 16))-r.i;omega,?_⟩
         repeat ((conv=>whnf);refine zb ?_)
         conv=>whnf
         refine zq (congrArg (fun x=>SV.agg [SV.arr8 m x]) (z8 (by omega) ?hv ?hkk)) ?_
         case hkk=>show r.i=0+(0+r.i);omega
         case hv=>
           show List.getD (ovr l 0 (stG W R nonce 2 l) (0+r.i)) (r.i) 0^^^List.getD (enc W R (ctr nonce (2:UInt32))) r.i 0=_
           rw [yp (by omega) _ (by omega)]
           unfold stG kb
           rw [show (0+r.i)/ 16=0 by omega,show (0+r.i)%16=r.i by omega,show (2:UInt32)+UInt32.ofNat 0=2 from rfl,Nat.zero_add]
         exact zt
        ·have e5:r.i=min n 16:=by omega
         rw [e5]
         refine za ?_
         rw [hmn]
         refine ⟨some ⟨0+1,slO cap (min n 16),n-min n 16,cap-min n 16,by omega,fun h0=>by
           have hne:cap≠min n 16:=by omega
           rw [xt hne];omega,by omega⟩,[0,1,2,3],by show n-min n 16<n+1;omega,?_⟩
         repeat ((conv=>whnf);refine zb ?_)
         conv=>whnf
         refine zq (congrArg (fun k=>SV.agg [SV.arr8 m (zi1 W R nonce 2 l k)]) (by show 0+min n 16=n-(n-min n 16);omega)) ?_
         repeat ((conv=>whnf);refine zb ?_)
         skip
         exact trivial
      ·have e4:n=0:=by omega
       refine za ?_
       refine yv (hp':= [.mk t0 [.ptr 1 0 0 [],.u64 h1,.u64 h2],.mk t1 [.arr8 256 box,.sl 2 0 0 [] R c],.mk t2 [.arr8 N W],.mk t [.arr8 m (zi1 W R nonce 2 l n)]]) [0,1,2,3] h ?_
       repeat ((conv=>whnf);refine zb ?_)
       conv=>whnf
       exact zh (congrArg (fun x=>SV.agg [SV.arr8 m x]) (by rw [e4];unfold zi1;exact (zab _ _ _).symm))
     |some s=>
      have hsn:=s.hn
      have hsx:=s.hx
      have hsc:=s.hc
      have hls:(zi1 W R nonce 2 l (n-s.k)).length=l.length:=zom (by omega)
      by_cases h4:0<s.k
      ·have hX:=hsx h4
       have hD:n-s.k=16*s.t:=by omega
       have hmn:(min (s.k:Int) 16).toNat=min s.k 16:=by omega
       have hcl:=zmn hnon (2+UInt32.ofNat s.t)
       have hp5:box=box∧(ctr nonce (2+UInt32.ofNat s.t)).length=16∧1≤R∧R≤100∧16*R≤W.length:=⟨rfl,hcl,hR1,hR2,hW⟩
       have hkl:=zib W R (ctr nonce (2+UInt32.ofNat s.t))
       refine za ?_
       refine zp (Ix ((min s.k 16))) (fun r=>⟨[(0,.ptr 0 0 0 []),(1,.str nonce),(2,.sl 3 0 0 [(s.x,1)] s.k s.c),(6,.u32 (2+UInt32.ofNat s.t)),(7,.ptr 4 0 0 []),(8,.int (min (s.k:Int) 16)),(26,.int (min (s.k:Int) 16)),(27,.int r.i)],[.mk t0 [.ptr 1 0 0 [],.u64 h1,.u64 h2],.mk t1 [.arr8 256 box,.sl 2 0 0 [] R c],.mk t2 [.arr8 N W],.mk t [.arr8 m (zi1 W R nonce 2 l ((n-s.k)+r.i))],.mk 168 [.arr8 16 (enc W R (ctr nonce (2+UInt32.ofNat s.t)))]]⟩) (fun r=>((min s.k 16))-r.i) ⟨0,Nat.zero_le _⟩ [0,1,2,3,4] ?_ ?_
       ·exact zt
       ·intro r
        have hri:=r.hi
        have hlr:(zi1 W R nonce 2 l ((n-s.k)+r.i)).length=l.length:=zom (by omega)
        have hR:((r.i:Int)).toNat=r.i:=Int.toNat_natCast _
        by_cases h5:r.i<min s.k 16
        ·refine za ?_
         refine ⟨⟨r.i+1,h5⟩,[0,1,2,3,4],by show ((min s.k 16))-(r.i+1)<((min s.k 16))-r.i;omega,?_⟩
         repeat ((conv=>whnf);refine zb ?_)
         conv=>whnf
         refine zq (congrArg (fun x=>SV.agg [SV.arr8 m x]) (z8 (by omega) ?hv ?hkk)) ?_
         case hkk=>show s.x+r.i=0+((n-s.k)+r.i);omega
         case hv=>
           show List.getD (ovr l 0 (stG W R nonce 2 l) ((n-s.k)+r.i)) (s.x+r.i) 0^^^List.getD (enc W R (ctr nonce (2+UInt32.ofNat s.t))) r.i 0=_
           rw [yp (by omega) _ (by omega)]
           unfold stG kb
           rw [show ((n-s.k)+r.i)/ 16=s.t by omega,show ((n-s.k)+r.i)%16=r.i by omega,show s.x+r.i=n-s.k+r.i by omega]
         exact zt
        ·have e5:r.i=min s.k 16:=by omega
         rw [e5]
         refine za ?_
         rw [hmn]
         refine ⟨some ⟨s.t+1,s.x+slO s.c (min s.k 16),s.k-min s.k 16,s.c-min s.k 16,by omega,fun h0=>by
           have hne:s.c≠min s.k 16:=by omega
           rw [xt hne];omega,by omega⟩,[0,1,2,3],by show s.k-min s.k 16<s.k;omega,?_⟩
         repeat ((conv=>whnf);refine zb ?_)
         conv=>whnf
         refine zq (congrArg (fun k=>SV.agg [SV.arr8 m (zi1 W R nonce 2 l k)]) (by show (n-s.k)+min s.k 16=n-(s.k-min s.k 16);omega)) ?_
         repeat ((conv=>whnf);refine zb ?_)
         conv=>whnf
         exact zh (congrArg SV.u32 (by show (2+UInt32.ofNat s.t)+UInt32.ofNat 1=2+UInt32.ofNat (s.t+1);exact Go.Sym.Gcm.u32_add _ _))
      ·have e4:s.k=0:=by omega
       refine za ?_
       refine yv (hp':= [.mk t0 [.ptr 1 0 0 [],.u64 h1,.u64 h2],.mk t1 [.arr8 256 box,.sl 2 0 0 [] R c],.mk t2 [.arr8 N W],.mk t [.arr8 m (zi1 W R nonce 2 l n)]]) [0,1,2,3] h ?_
       repeat ((conv=>whnf);refine zb ?_)
       conv=>whnf
       exact zh (congrArg (fun k=>SV.agg [SV.arr8 m (zi1 W R nonce 2 l k)]) (by show n-s.k=n;omega))
   ·exact h.elim
end Go.Sym.Z

namespace Go.Sym.Z
open Go Go.Proofs.Tryz Go.Sym.Lp Go.Sym.Gcm Go.Sym.Aes
set_option maxRecDepth 100000
attribute [local irreducible] ldE ld yj hf4 zga zhi zbd enc ks box ctr tb fl gaB wr zgk
def yfx:List (Nat×List PStep):= [(8,[⟨0,[]⟩,⟨1,[]⟩,⟨2,[]⟩,⟨3,[]⟩,⟨4,[0,1,2,3]⟩,⟨7,[0,1,2,3,4]⟩,⟨5,[0,1,2,3,7]⟩,⟨6,[7]⟩,⟨8,[]⟩]),(12,[⟨0,[]⟩,⟨1,[]⟩,⟨2,[]⟩,⟨3,[0,1,2]⟩,⟨4,[0,1,2]⟩,⟨5,[0,1,2]⟩,⟨6,[]⟩,⟨7,[]⟩,⟨8,[]⟩])]
def yec:List (Nat×List PStep):= []
def gtg (W:List UInt8) (R:Nat) (h:El) (nonce aad b:List UInt8):List UInt8:=
  gst W R nonce 1 (wr (zgk h (zpc aad b) (gN aad b)))
def z4y:Spec:=fun args hp K=>match args,hp with
  | [.ptr 0 0 0 [],.str nonce,.str aad,.sl 3 0 0 [] n c],[.mk t0 [.ptr 1 0 0 [],.u64 h1,.u64 h2],.mk t1 [.arr8 256 bx,.sl 2 0 0 [] R cR],.mk t2 [.arr8 N W],.mk t [.arr8 m l]]=>
      Pre (bx=box∧nonce.length=12∧1≤R∧R≤100∧16*R≤W.length∧n≤l.length∧n≤c∧aad.length≤65536∧n≤70000)
      (K (.str (gtg W R (h1,h2) nonce aad (l.take n))) [.mk t0 [.ptr 1 0 0 [],.u64 h1,.u64 h2],.mk t1 [.arr8 256 bx,.sl 2 0 0 [] R cR],.mk t2 [.arr8 N W],.mk t [.arr8 m l]])
  |_,_=>False
set_option maxHeartbeats 4000000 in
theorem z3v:zm prog 119 z4y:=by
  refine zk yz (zc ybq (zc ycu (zc z3h (zc z4l (zc zol (zc zli zg)))))) rfl func119 rfl call119 (D:=yfx) ?_ ?_
  ·intro args hp K h
   unfold z4y at h
   split at h
   ·exact Nat.le_of_ble_eq_true rfl
   ·exact h.elim
  ·intro args hp K h
   unfold z4y at h
   split at h
   ·rename_i nonce aad n c t0 h1 h2 t1 bx R cR t2 N W t m l
    obtain ⟨⟨rfl,hnon,hR1,hR2,hW,hl,hc,ha,hn⟩,h⟩:=zl h
    have hT:=yaw (h1,h2)
    have hF:fl.length=16:=by unfold fl;simp
    refine za ?_
    refine y0 fun tl=>?_
    have hw16:=ziv (UInt64.ofInt (aad.length:Int)*UInt64.ofNat 8,UInt64.ofInt (n:Int)*UInt64.ofNat 8)
    have hpa:(tb (h1,h2)).length=32∧fl.length=16∧16≤16∧off []+16≤(wr (UInt64.ofInt (aad.length:Int)*UInt64.ofNat 8,UInt64.ofInt (n:Int)*UInt64.ofNat 8)).length:=⟨hT,hF,by decide,by rw [hw16];decide⟩
    have hcl:=zmn hnon 1
    have hpe:box=box∧(ctr nonce 1).length=16∧1≤R∧R≤100∧16*R≤W.length:=⟨rfl,hcl,hR1,hR2,hW⟩
    obtain ⟨O,hO⟩: ∃O,O=wr (zgk (h1,h2) (zpc aad (l.take n)) (gN aad (l.take n))):=⟨_,rfl⟩
    have hOl:O.length=16:=by rw [hO];exact ziv _
    have hbl:(l.take n).length=n:=by rw [List.length_take];omega
    have hlen: ∀k:Nat,UInt64.ofInt (k:Int)*UInt64.ofNat 8=UInt64.ofNat (8*k):=fun k=>by
      rw [zzp,UInt64.ofNat_mul,UInt64.mul_comm]
    have hraw:wr (zhi (tb (h1,h2)) fl (xr (ld (List.take 16 (List.drop (off []) (wr (UInt64.ofInt (aad.length:Int)*UInt64.ofNat 8,UInt64.ofInt (n:Int)*UInt64.ofNat 8))))) (gaB (tb (h1,h2)) fl (gaB (tb (h1,h2)) fl (0,0) (List.take aad.length (aad++tl))) (List.take n l))))=O:=by
      have e1:List.take aad.length (aad++tl)=aad:=List.take_left' rfl
      have e2:List.take 16 (List.drop (off []) (wr (UInt64.ofInt (aad.length:Int)*UInt64.ofNat 8,UInt64.ofInt (n:Int)*UInt64.ofNat 8)))=wr (UInt64.ofInt (aad.length:Int)*UInt64.ofNat 8,UInt64.ofInt (n:Int)*UInt64.ofNat 8):=List.take_of_length_le (Nat.le_of_eq hw16)
      have e3:=ydc (h1,h2) aad (l.take n)
      rw [hbl] at e3
      rw [e1,e2,hlen,hlen,hO,←e3]
      rfl
    have hG:gtg W R (h1,h2) nonce aad (l.take n)=gst W R nonce 1 O:=by unfold gtg;rw [hO]
    rw [hG] at h
    have hkl:=zib W R (ctr nonce 1)
    refine za ?_
    refine zp (Ix (16)) (fun q=>⟨[(12,.ptr 4 0 0 []),(13,.ptr 5 0 0 []),(53,.int q.i)],[.mk t0 [.ptr 1 0 0 [],.u64 h1,.u64 h2],.mk t1 [.arr8 256 box,.sl 2 0 0 [] R cR],.mk t2 [.arr8 N W],.mk t [.arr8 m l],.mk 168 [.arr8 16 (ovr O 0 (stG W R nonce 1 O) q.i)],.mk 168 [.arr8 16 (enc W R (ctr nonce 1))]]⟩) (fun q=>(16)-q.i) ⟨0,Nat.zero_le _⟩ [0,1,2,3,8,9] ?_ ?_
    ·repeat ((conv=>whnf);refine zb ?_)
     conv=>whnf
     exact zh (congrArg (fun x=>SV.agg [SV.arr8 16 x]) (hraw.trans (zab _ _ _).symm))
    ·intro q
     have hi:=q.hi
     have hlo:=yc (l:=O) (a:=0) (i:=q.i) (by omega) (stG W R nonce 1 O)
     have hI:((q.i:Int)).toNat=q.i:=Int.toNat_natCast _
     by_cases h4:q.i<16
     ·refine za ?_
      refine ⟨⟨q.i+1,h4⟩,[0,1,2,3,4,5],by show (16)-(q.i+1)<(16)-q.i;omega,?_⟩
      repeat ((conv=>whnf);refine zb ?_)
      conv=>whnf
      refine zq (congrArg (fun x=>SV.agg [SV.arr8 16 x]) (z8 (by omega) ?hv ?hkk)) ?_
      case hkk=>show q.i=0+q.i;omega
      case hv=>
        show List.getD (ovr O 0 (stG W R nonce 1 O) q.i) q.i 0^^^List.getD (enc W R (ctr nonce 1)) q.i 0=_
        rw [yp (by omega) _ (by omega)]
        unfold stG kb
        rw [show q.i/ 16=0 by omega,show q.i%16=q.i by omega,show (1:UInt32)+UInt32.ofNat 0=1 from rfl]
      exact zt
     ·have e4:q.i=16:=by omega
      have hfin:List.take 16 (List.drop (off []) (ovr O 0 (stG W R nonce 1 O) 16))=gst W R nonce 1 O:=by
        rw [yy hOl]
        unfold gst
        rw [hOl]
        exact List.take_of_length_le (by simp)
      rw [e4] at hlo
      rw [e4]
      refine za ?_
      rw [hfin]
      conv=>whnf
      exact ze [0,1,2,3] h
   ·exact h.elim
def z3p:Spec:=fun args hp K=>match args,hp with
  | [.str nonce,.str aad,.int most,.int long],[]=>K (.bool (decide (nonce.length=12∧aad.length≤65536∧long≤most))) []
  |_,_=>False
theorem ybf:zm prog 168 z3p:=by
  refine zk yz zg rfl func168 rfl call168 (D:=yec) ?_ ?_
  ·intro args hp K h
   unfold z3p at h
   split at h
   ·exact Nat.le_of_ble_eq_true rfl
   ·exact h.elim
  ·intro args hp K h
   unfold z3p at h
   split at h
   ·rename_i nonce aad most long
    by_cases h1:nonce.length=12
    ·by_cases h2:aad.length≤65536
     ·by_cases h3:long≤most
      ·rw [decide_eq_true ⟨h1,h2,h3⟩] at h
       have d4:decide (long≤most)=true:=decide_eq_true h3
       refine za ?_
       rw [d4]
       conv=>whnf
       exact ze [] h
      ·rw [decide_eq_false fun hh=>h3 hh.2.2] at h
       have d4:decide (long≤most)=false:=decide_eq_false h3
       refine za ?_
       rw [d4]
       conv=>whnf
       exact ze [] h
     ·rw [decide_eq_false fun hh=>h2 hh.2.1] at h
      refine za ?_
      exact ze [] h
    ·rw [decide_eq_false fun hh=>h1 hh.1] at h
     refine za ?_
     exact ze [] h
   ·exact h.elim
end Go.Sym.Z

namespace Go.Sym.Z
open Go Go.Proofs.Tryz Go.Sym.Lp Go.Sym.Gcm Go.Sym.Aes
set_option maxRecDepth 100000
attribute [local irreducible] gst gtg gH gW enc ks box
def ygo:List (Nat×List PStep):= [(8,[⟨0,[]⟩,⟨1,[0]⟩,⟨2,[0,1]⟩,⟨3,[0,1,2]⟩,⟨5,[0,1,2,3]⟩,⟨6,[0,1,2,3,5]⟩,⟨7,[0,1,2,3]⟩,⟨4,[5,6,7]⟩,⟨8,[]⟩])]
def kl (key:List UInt8):Prop:=key.length=16∨key.length=32
instance (key:List UInt8):Decidable (kl key):=by unfold kl;exact inferInstance
def zg5 (key nonce aad b:List UInt8):List UInt8:=gtg (gW key) (gR key) (gH (gW key) (gR key)) nonce aad b
theorem z44 (key nonce aad b:List UInt8):(zg5 key nonce aad b).length=16:=by
  unfold zg5 gtg;rw [zj4,ziv]
def ze1 (key nonce s:List UInt8):List UInt8:=gst (gW key) (gR key) nonce 2 s
theorem znu (key nonce s:List UInt8):(ze1 key nonce s).length=s.length:=zj4 _ _ _ _ _
def zg4 (key nonce aad s:List UInt8):List UInt8:=ze1 key nonce s++zg5 key nonce aad (ze1 key nonce s)
def zm8:Spec:=fun args hp K=>match args,hp with
  | [.str key,.str nonce,.str aad,.str s],[]=>
      if (key.length=16∨key.length=32)∧nonce.length=12∧aad.length≤65536∧(s.length:Int)≤65536 then
       K (.tup [.str (zg4 key nonce aad s),.int 0]) []
      else K (.tup [.str [],.int 500]) []
  |_,_=>False
def znw:Spec:=fun args hp K=>match args,hp with
  | [.str key,.str nonce,.str aad,.str s],[]=>
      if (key.length=16∨key.length=32)∧nonce.length=12∧aad.length≤65536∧(s.length:Int)≤65552 then
       (if 16≤s.length∧zg5 key nonce aad (s.take (s.length-16))=s.drop (s.length-16) then K (.tup [.str (ze1 key nonce (s.take (s.length-16))),.int 0]) []
       else K (.tup [.str [],.int 501]) [])
      else K (.tup [.str [],.int 500]) []
  |_,_=>False
theorem z9l:zm prog 151 znw:=by
  refine zk yz (zc zvo (zc ybf (zc z5b (zc z3v zg)))) rfl func151 rfl call151 (D:=ygo) ?_ ?_
  ·intro args hp K h
   unfold znw at h
   split at h
   ·exact Nat.le_of_ble_eq_true rfl
   ·exact h.elim
  ·intro args hp K h
   unfold znw at h
   split at h
   ·rename_i key nonce aad s
    by_cases hk:key.length=16∨key.length=32
    ·have hdk:=decide_eq_true hk
     have hWl:=zss hk
     have hR:gR key=key.length/ 4+7:=rfl
     by_cases h0:nonce.length=12∧aad.length≤65536∧(s.length:Int)≤65552
     ·rw [if_pos ⟨hk,h0⟩] at h
      have hd:=decide_eq_true h0
      by_cases h1:16≤s.length
      ·have hn:((s.length:Int)-16).toNat=s.length-16:=by omega
       have d1:decide ((s.length:Int)-16<0)=false:=decide_eq_false (by omega)
       repeat ((conv=>whnf);first|refine zu ?_|refine zi ?_|refine zj ?_|refine zb ?_|refine zw (by first|exact hdk|exact hd|(rw [hd];rfl)) ?_|refine zo (by first|exact hdk|exact hd|(rw [hd];rfl)) ?_|refine zn (by first|exact hdk|exact hd|(rw [hd];rfl)) ?_)
       conv=>whnf
       refine y0 fun t1=>?_
       repeat ((conv=>whnf);first|refine zu ?_|refine zi ?_|refine zj ?_|refine zb ?_|refine zw (by first|exact hdk|exact hd|(rw [hd];rfl)) ?_|refine zo (by first|exact hdk|exact hd|(rw [hd];rfl)) ?_|refine zn (by first|exact hdk|exact hd|(rw [hd];rfl)) ?_)
       conv=>whnf
       have hTl:(List.take ((s.length:Int)-16).toNat s).length=s.length-16:=by rw [hn,List.length_take];omega
       have hTk:(List.take (List.take ((s.length:Int)-16).toNat s).length ((List.take ((s.length:Int)-16).toNat s)++t1))=s.take (s.length-16):=by rw [List.take_left' rfl,hn]
       by_cases hq:zg5 key nonce aad (s.take (s.length-16))=s.drop (s.length-16)
       ·rw [if_pos ⟨h1,hq⟩] at h
        have hdq:decide (gtg (gW key) (gR key) ((gH (gW key) (gR key)).1,(gH (gW key) (gR key)).2) nonce aad (List.take (List.take ((s.length:Int)-16).toNat s).length ((List.take ((s.length:Int)-16).toNat s)++t1))=List.drop ((s.length:Int)-16).toNat s)=true:=decide_eq_true (by rw [hTk,hn];exact hq)
        repeat ((conv=>whnf);first|refine zu ?_|refine zi ?_|refine zj ?_|refine zb ?_|refine zw (by first|exact hdq|(rw [hdq];rfl)) ?_|refine zo (by first|exact hdq|(rw [hdq];rfl)) ?_|refine zn (by first|exact hdq|(rw [hdq];rfl)) ?_)
        conv=>whnf
        have hX:(gst (gW key) (gR key) nonce 2 (List.take (List.take ((s.length:Int)-16).toNat s).length ((List.take ((s.length:Int)-16).toNat s)++t1))++List.drop (List.take ((s.length:Int)-16).toNat s).length ((List.take ((s.length:Int)-16).toNat s)++t1))=ze1 key nonce (s.take (s.length-16))++t1:=by rw [hTk,List.drop_left' rfl];rfl
        have hp3:off []+(List.take ((s.length:Int)-16).toNat s).length≤(gst (gW key) (gR key) nonce 2 (List.take (List.take ((s.length:Int)-16).toNat s).length ((List.take ((s.length:Int)-16).toNat s)++t1))++List.drop (List.take ((s.length:Int)-16).toNat s).length ((List.take ((s.length:Int)-16).toNat s)++t1)).length:=by rw [hX,List.length_append,znu,hTl,List.length_take];show 0+_≤_;omega
        have hF:List.take (List.take ((s.length:Int)-16).toNat s).length (List.drop (off []) (gst (gW key) (gR key) nonce 2 (List.take (List.take ((s.length:Int)-16).toNat s).length ((List.take ((s.length:Int)-16).toNat s)++t1))++List.drop (List.take ((s.length:Int)-16).toNat s).length ((List.take ((s.length:Int)-16).toNat s)++t1)))=ze1 key nonce (s.take (s.length-16)):=by
          rw [hX,hTl];show List.take _ (List.drop 0 _)=_;rw [List.drop_zero];exact List.take_left' (by rw [znu,List.length_take];omega)
        refine za ?_
        conv=>whnf
        refine yv (hp':= []) [] h ?_
        repeat ((conv=>whnf);refine zb ?_)
        conv=>whnf
        exact zh (congrArg (fun y=>SV.tup [SV.str y,SV.int 0]) hF)
       ·rw [if_neg fun hh=>hq hh.2] at h
        have hdq:decide (gtg (gW key) (gR key) ((gH (gW key) (gR key)).1,(gH (gW key) (gR key)).2) nonce aad (List.take (List.take ((s.length:Int)-16).toNat s).length ((List.take ((s.length:Int)-16).toNat s)++t1))=List.drop ((s.length:Int)-16).toNat s)=false:=decide_eq_false (by rw [hTk,hn];exact hq)
        repeat ((conv=>whnf);first|refine zu ?_|refine zi ?_|refine zj ?_|refine zb ?_|refine zw (by first|exact hdq|(rw [hdq];rfl)) ?_|refine zo (by first|exact hdq|(rw [hdq];rfl)) ?_|refine zn (by first|exact hdq|(rw [hdq];rfl)) ?_)
        conv=>whnf
        exact ze [] h
      ·rw [if_neg fun hh=>h1 hh.1] at h
       repeat ((conv=>whnf);first|refine zu ?_|refine zi ?_|refine zj ?_|refine zb ?_|refine zw (by first|exact hdk|exact hd|(rw [hd];rfl)) ?_|refine zo (by first|exact hdk|exact hd|(rw [hd];rfl)) ?_|refine zn (by first|exact hdk|exact hd|(rw [hd];rfl)) ?_)
       conv=>whnf
       exact ze [] h
     ·rw [if_neg fun hh=>h0 hh.2] at h
      have hd:=decide_eq_false h0
      repeat ((conv=>whnf);first|refine zu ?_|refine zi ?_|refine zj ?_|refine zb ?_|refine zw (by first|exact hdk|exact hd|(rw [hd];rfl)) ?_|refine zo (by first|exact hdk|exact hd|(rw [hd];rfl)) ?_|refine zn (by first|exact hdk|exact hd|(rw [hd];rfl)) ?_)
      conv=>whnf
      exact ze [] h
    ·rw [if_neg fun hh=>hk hh.1] at h
     have hdk:=decide_eq_false hk
     repeat ((conv=>whnf);first|refine zu ?_|refine zi ?_|refine zj ?_|refine zb ?_|refine zw (by first|exact hdk|(rw [hdk];rfl)) ?_|refine zo (by first|exact hdk|(rw [hdk];rfl)) ?_|refine zn (by first|exact hdk|(rw [hdk];rfl)) ?_)
     conv=>whnf
     exact ze [] h
   ·exact h.elim
end Go.Sym.Z

namespace Go.Sym.Ib
open Go Go.Sym
theorem ibits_and {a m:Int} (h0:0≤m) (h1:m<9223372036854775808):0≤zal .and a m∧zal .and a m≤m:=by
  unfold zal
  dsimp only
  have hle:(BitVec.ofInt 64 a&&&BitVec.ofInt 64 m).toNat≤(BitVec.ofInt 64 m).toNat:=by
    rw [BitVec.toNat_and];exact Nat.and_le_right
  have hm:((BitVec.ofInt 64 m).toNat:Int)=m:=by
    rw [BitVec.toNat_ofInt]
    have:(2^64:Nat)=18446744073709551616:=by decide
    rw [this]
    omega
  rw [zaf _ (by unfold yb;omega)]
  omega
theorem zz8 {a:Int} (h:0≤a):zal .and a 255=a%256:=by
  have hb:=ibits_and (a:=a) (m:=255) (by decide) (by decide)
  unfold zal at hb ⊢
  dsimp only at hb ⊢
  have hle:(BitVec.ofInt 64 a&&&BitVec.ofInt 64 255).toNat=(BitVec.ofInt 64 a).toNat%256:=by
    rw [BitVec.toNat_and];exact Nat.and_two_pow_sub_one_eq_mod _ 8
  rw [hle,zaf _ (by unfold yb;omega),BitVec.toNat_ofInt]
  have:(2^64:Nat)=18446744073709551616:=by decide
  rw [this]
  omega
theorem u8_255 {a:Int} (h:0≤a):UInt8.ofInt (zal .and a 255)=UInt8.ofInt a:=by
  rw [zz8 h]
  apply UInt8.toNat_inj.1
  have h1:=zb4 (a%256)
  have h2:=zb4 a
  omega
theorem ibits_or {a b:Nat} (ha:a<9223372036854775808) (hb:b<9223372036854775808) (h:a|||b<9223372036854775808):zal .or (a:Int) (b:Int)=((a|||b:Nat):Int):=by
  unfold zal
  dsimp only
  have e:(2^64:Nat)=18446744073709551616:=by decide
  have e1:(BitVec.ofInt 64 (a:Int)).toNat=a:=by rw [BitVec.toNat_ofInt,e];omega
  have e2:(BitVec.ofInt 64 (b:Int)).toNat=b:=by rw [BitVec.toNat_ofInt,e];omega
  rw [BitVec.toNat_or,e1,e2,zaf _ (by unfold yb;omega)]
theorem ibits_or_bit {a c k:Nat} (h:a<2^k) (hc:c≤1) (hk:k<8):zal .or (a:Int) ((c:Int)*2^k)=((a+c*2^k:Nat):Int):=by
  have hp:2^k≤2^7:=Nat.pow_le_pow_right (by decide) (by omega)
  have hcm:c*2^k≤1*2^7:=Nat.mul_le_mul hc hp
  have e:2^k*c|||a=2^k*c+a:=(Nat.two_pow_add_eq_or_of_lt h c).symm
  have eo:a|||c*2^k=a+c*2^k:=by rw [Nat.or_comm,Nat.mul_comm c,e,Nat.add_comm]
  have ec:((c:Int)*2^k)=((c*2^k:Nat):Int):=by rw [Int.natCast_mul,Int.natCast_pow];rfl
  rw [ec,ibits_or (by omega) (by omega) (by rw [eo];omega),eo]
end Go.Sym.Ib
