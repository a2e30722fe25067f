/-
  Contracts of functions of the program, each said of symbolic values, and plain laws; no condition beyond each statement's own.
-/
import Derived.Test.YtmmpgjcpielefaaGreatGLStreamTwins19
import Derived.Test.YtmmpgjcpielefaaGreatGLStreamTwins20
import Derived.Test.YtmmpgjcpielefaaGreatGLStreamTwins3
import Derived.Test.YtmmpgjcpielefaaGreatGLStreamTwins17
set_option linter.unusedSimpArgs false
set_option linter.unusedVariables false
namespace Go.Sym.Gcm
open Go.Sym Go.Sym.Lp Go.Sym.Aes
def gW (key:List UInt8):List UInt8:=ks key (key.length/ 4) (4*(key.length/ 4+7))
def gR (key:List UInt8):Nat:=key.length/ 4+7
theorem zq5 {key:List UInt8} (h:key.length=16∨key.length=32):(gW key).length=16*gR key:=by
  unfold gW gR
  rw [zcv (by omega)]
  omega
def gH (W:List UInt8) (R:Nat):El:=ld (enc W R (List.replicate 16 0))
def kb (W:List UInt8) (R:Nat) (nonce:List UInt8) (n:UInt32):List UInt8:=enc W R (ctr nonce n)
def stG (W:List UInt8) (R:Nat) (nonce:List UInt8) (n:UInt32) (s:List UInt8) (i:Nat):UInt8:=s.getD i 0^^^(kb W R nonce (n+UInt32.ofNat (i/ 16))).getD (i%16) 0
def gst (W:List UInt8) (R:Nat) (nonce:List UInt8) (n:UInt32) (s:List UInt8):List UInt8:=(List.range s.length).map (stG W R nonce n s)
theorem zkf (W:List UInt8) (R:Nat) (nonce:List UInt8) (n:UInt32) (s:List UInt8):(gst W R nonce n s).length=s.length:=z7 _ _
def zg9 (W:List UInt8) (R:Nat) (nonce:List UInt8) (n:UInt32) (l:List UInt8) (k:Nat):List UInt8:=ovr l 0 (stG W R nonce n l) k
theorem zl5 {W:List UInt8} {R:Nat} {nonce:List UInt8} {n:UInt32} {l:List UInt8} {k:Nat} (h:k≤l.length):(zg9 W R nonce n l k).length=l.length:=yr (by omega) _
theorem z0w {W:List UInt8} {R:Nat} {nonce:List UInt8} {n:UInt32} {l:List UInt8} {k:Nat} (h:k≤l.length):zg9 W R nonce n l k=gst W R nonce n (l.take k)++l.drop k:=by
  unfold zg9 gst ovr
  rw [List.take_zero,List.nil_append,Nat.zero_add,List.length_take,Nat.min_eq_left h]
  congr 1
  apply xy
  intro i hi
  unfold stG
  congr 1
  rw [List.getD_eq_getElem?_getD,List.getD_eq_getElem?_getD,List.getElem?_take_of_lt hi]
theorem u32_add (c:UInt32) (t:Nat):c+UInt32.ofNat t+1=c+UInt32.ofNat (t+1):=by
  rw [UInt32.add_assoc]
  congr 1
  apply UInt32.toNat_inj.1
  rw [UInt32.toNat_add,UInt32.toNat_ofNat',UInt32.toNat_ofNat']
  show (t%4294967296+1)%4294967296=(t+1)%4294967296
  omega
end Go.Sym.Gcm

namespace Go.Sym.Z
open Go Go.Proofs.Tryz Go.Sym.Lp Go.Sym.Gcm Go.Sym.Aes
set_option maxRecDepth 100000
attribute [local irreducible] ldE ld y8 hf4 ze3 zgd za0 enc ks box ctr
def ybb:List (Nat×List PStep):= []
def ya6:List (Nat×List PStep):= [(3,[⟨0,[]⟩,⟨1,[]⟩,⟨2,[]⟩,⟨3,[]⟩,⟨4,[0,1,2,3]⟩,⟨5,[0,1,2,3,4]⟩,⟨8,[0,1,2,3,4,5]⟩,⟨6,[0,1,2,3,8]⟩,⟨7,[8]⟩,⟨9,[]⟩]),(8,[⟨0,[]⟩,⟨1,[0]⟩,⟨2,[]⟩,⟨3,[]⟩,⟨4,[0,1,2,3]⟩,⟨5,[0,1,2,3]⟩,⟨6,[0,1,2,3]⟩,⟨7,[]⟩,⟨8,[]⟩,⟨9,[]⟩])]
abbrev gkey (t0 t1 t2:Nat) (h1 h2:UInt64) (R c N:Nat) (W:List UInt8):List Blk:= [.mk t0 [.ptr 1 0 0 [],.u64 h1,.u64 h2],.mk t1 [.arr8 256 box,.sl 2 0 0 [] R c],.mk t2 [.arr8 N W]]
def zpw:Spec:=fun args hp K=>match args,hp with
  | [.str key],[]=>zv (decide (key.length=16∨key.length=32))
      (K (.tup [.ptr 0 0 0 [],.bool true]) [.mk 186 [.ptr 1 0 0 [],.u64 (gH (gW key) (gR key)).1,.u64 (gH (gW key) (gR key)).2],.mk 216 [.arr8 256 box,.sl 2 0 0 [] (gR key) (gR key)],.mk 168 [.arr8 (16*gR key) (gW key)]])
      (K (.tup [.nilptr,.bool false]) [])
  |_,_=>False
theorem zst:zp prog 115 zpw:=by
  refine zn xn (zd zzd (zd zj0 (zd zu7 zl))) rfl func115 rfl call115 (D:=ybb) ?_ ?_
  ·intro args hp K h
   unfold zpw at h
   split at h
   ·exact Nat.le_of_ble_eq_true rfl
   ·exact h.elim
  ·intro args hp K h
   unfold zpw at h
   split at h
   ·rename_i key
    obtain ⟨ht,hn⟩:=zt h
    by_cases hk:key.length=16∨key.length=32
    ·have h:=ht (decide_eq_true hk)
     have hd:=decide_eq_true hk
     have hWl:=zq5 hk
     have hR:gR key=key.length/ 4+7:=rfl
     have hp5:box=box∧(List.replicate 16 (0:UInt8)).length=16∧1≤gR key∧gR key≤100∧16*gR key≤(gW key).length:=⟨rfl,List.length_replicate,by omega,by omega,by omega⟩
     have hel:=zko (gW key) (gR key) (List.replicate 16 0)
     have htk:List.take 16 (List.drop (off []) (enc (gW key) (gR key) (List.replicate 16 0)))=enc (gW key) (gR key) (List.replicate 16 0):=List.take_of_length_le (Nat.le_of_eq hel)
     have hw:ks key (key.length/ 4) (4*gR key)=gW key:=by unfold gW gR;rfl
     repeat ((conv=>whnf);first|refine zo ?_|refine zf ?_|refine zg ?_|refine zb ?_|refine zr (by first|exact hd) ?_|refine zi (by first|exact hd) ?_|refine zj (by first|exact hd) ?_)
     conv=>whnf
     rw [←hR,hw]
     refine za ?_
     rw [htk,show ld (enc (gW key) (gR key) (List.replicate 16 0))=gH (gW key) (gR key) by unfold gH;rfl]
     conv=>whnf
     exact zh [3,0,1] h
    ·have h:=hn (decide_eq_false hk)
     have hd:=decide_eq_false hk
     repeat ((conv=>whnf);first|refine zo ?_|refine zf ?_|refine zg ?_|refine zb ?_|refine zr (by first|exact hd) ?_|refine zi (by first|exact hd) ?_|refine zj (by first|exact hd) ?_)
     conv=>whnf
     exact zh [] h
   ·exact h.elim
structure Xg (n:Nat) where
  t:Nat
  x:Nat
  k:Nat
  c:Nat
  hn:k+16*t=n∨(k=0∧n≤16*t)
  hx:0<k→x=16*t
  hc:k≤c
def z1b:Spec:=fun args hp K=>match args,hp with
  | [.ptr 0 0 0 [],.str nonce,.sl 3 0 0 [] n cap],[.mk t0 [.ptr 1 0 0 [],.u64 h1,.u64 h2],.mk t1 [.arr8 256 bx,.sl 2 0 0 [] R c],.mk t2 [.arr8 N W],.mk t [.arr8 m l]]=>
      Pre (bx=box∧nonce.length=12∧1≤R∧R≤100∧16*R≤W.length∧n≤l.length∧n≤cap∧n≤9223372036854775807)
      (K (.tup []) [.mk t0 [.ptr 1 0 0 [],.u64 h1,.u64 h2],.mk t1 [.arr8 256 bx,.sl 2 0 0 [] R c],.mk t2 [.arr8 N W],.mk t [.arr8 m (gst W R nonce 2 (l.take n)++l.drop n)]])
  |_,_=>False
set_option maxHeartbeats 4000000 in
theorem z04:zp prog 117 z1b:=by
  refine zn xn (zd zmz (zd zj0 zl)) rfl func117 rfl call117 (D:=ya6) ?_ ?_
  ·intro args hp K h
   unfold z1b at h
   split at h
   ·exact Nat.le_of_ble_eq_true rfl
   ·exact h.elim
  ·intro args hp K h
   unfold z1b at h
   split at h
   ·rename_i nonce n cap t0 h1 h2 t1 bx R c t2 N W t m l
    obtain ⟨⟨rfl,hnon,hR1,hR2,hW,hl,hcap,hmax⟩,h⟩:=zm h
    rw [←z0w hl] at h
    refine za ?_
    refine zz (Option (Xg n)) (fun q=>match q with
      |none=>⟨[(0,.ptr 0 0 0 []),(1,.str nonce),(2,.sl 3 0 0 [] n cap),(6,.u32 2)],gkey t0 t1 t2 h1 h2 R c N W++ [.mk t [.arr8 m l]]⟩
      |some s=>⟨[(0,.ptr 0 0 0 []),(1,.str nonce),(2,.sl 3 0 0 [(s.x,1)] s.k s.c),(6,.u32 (2+UInt32.ofNat s.t))],gkey t0 t1 t2 h1 h2 R c N W++ [.mk t [.arr8 m (zg9 W R nonce 2 l (n-s.k))]]⟩)
      (fun q=>match q with|none=>n+1|some s=>s.k) none [0,1,2,3] ?_ ?_
    ·exact zu
    ·intro q
     cases q with
     |none=>
      by_cases h4:0<n
      ·skip
       skip
       have hmn:(min (n:Int) 16).toNat=min n 16:=by omega
       have hcl:=zqk hnon (2:UInt32)
       have hp5:box=box∧(ctr nonce (2:UInt32)).length=16∧1≤R∧R≤100∧16*R≤W.length:=⟨rfl,hcl,hR1,hR2,hW⟩
       have hkl:=zko W R (ctr nonce (2:UInt32))
       refine za ?_
       refine zz (Ix ((min n 16))) (fun r=>⟨[(0,.ptr 0 0 0 []),(1,.str nonce),(2,.sl 3 0 0 [] n cap),(6,.u32 (2:UInt32)),(7,.ptr 4 0 0 []),(8,.int (min (n:Int) 16)),(26,.int (min (n:Int) 16)),(27,.int r.i)],[.mk t0 [.ptr 1 0 0 [],.u64 h1,.u64 h2],.mk t1 [.arr8 256 box,.sl 2 0 0 [] R c],.mk t2 [.arr8 N W],.mk t [.arr8 m (zg9 W R nonce 2 l (0+r.i))],.mk 168 [.arr8 16 (enc W R (ctr nonce (2:UInt32)))]]⟩) (fun r=>((min n 16))-r.i) ⟨0,Nat.zero_le _⟩ [0,1,2,3,4] ?_ ?_
       ·exact zu
       ·intro r
        have hri:=r.hi
        have hlr:(zg9 W R nonce 2 l (0+r.i)).length=l.length:=zl5 (by omega)
        have hR:((r.i:Int)).toNat=r.i:=Int.toNat_natCast _
        by_cases h5:r.i<min n 16
        ·refine za ?_
         refine ⟨⟨r.i+1,h5⟩,[0,1,2,3,4],by show ((min n 16))-(r.i+1)<((min n 16))-r.i;omega,?_⟩
         repeat ((conv=>whnf);refine zb ?_)
         conv=>whnf
         refine yc (congrArg (fun x=>SV.agg [SV.arr8 m x]) (ye (by omega) ?hv ?hkk)) ?_
         case hkk=>show r.i=0+(0+r.i);omega
         case hv=>
           show List.getD (ovr l 0 (stG W R nonce 2 l) (0+r.i)) (r.i) 0^^^List.getD (enc W R (ctr nonce (2:UInt32))) r.i 0=_
           rw [yz (by omega) _ (by omega)]
           unfold stG kb
           rw [show (0+r.i)/ 16=0 by omega,show (0+r.i)%16=r.i by omega,show (2:UInt32)+UInt32.ofNat 0=2 from rfl,Nat.zero_add]
         exact zu
        ·have e5:r.i=min n 16:=by omega
         rw [e5]
         refine za ?_
         rw [hmn]
         refine ⟨some ⟨0+1,slO cap (min n 16),n-min n 16,cap-min n 16,by omega,fun h0=>by
           have hne:cap≠min n 16:=by omega
           rw [yy hne];omega,by omega⟩,[0,1,2,3],by show n-min n 16<n+1;omega,?_⟩
         repeat ((conv=>whnf);refine zb ?_)
         conv=>whnf
         refine yc (congrArg (fun k=>SV.agg [SV.arr8 m (zg9 W R nonce 2 l k)]) (by show 0+min n 16=n-(n-min n 16);omega)) ?_
         repeat ((conv=>whnf);refine zb ?_)
         skip
         exact trivial
      ·have e4:n=0:=by omega
       refine za ?_
       refine yv (hp':= [.mk t0 [.ptr 1 0 0 [],.u64 h1,.u64 h2],.mk t1 [.arr8 256 box,.sl 2 0 0 [] R c],.mk t2 [.arr8 N W],.mk t [.arr8 m (zg9 W R nonce 2 l n)]]) [0,1,2,3] h ?_
       repeat ((conv=>whnf);refine zb ?_)
       conv=>whnf
       exact zx (congrArg (fun x=>SV.agg [SV.arr8 m x]) (by rw [e4];unfold zg9;exact (zcc _ _ _).symm))
     |some s=>
      have hsn:=s.hn
      have hsx:=s.hx
      have hsc:=s.hc
      have hls:(zg9 W R nonce 2 l (n-s.k)).length=l.length:=zl5 (by omega)
      by_cases h4:0<s.k
      ·have hX:=hsx h4
       have hD:n-s.k=16*s.t:=by omega
       have hmn:(min (s.k:Int) 16).toNat=min s.k 16:=by omega
       have hcl:=zqk hnon (2+UInt32.ofNat s.t)
       have hp5:box=box∧(ctr nonce (2+UInt32.ofNat s.t)).length=16∧1≤R∧R≤100∧16*R≤W.length:=⟨rfl,hcl,hR1,hR2,hW⟩
       have hkl:=zko W R (ctr nonce (2+UInt32.ofNat s.t))
       refine za ?_
       refine zz (Ix ((min s.k 16))) (fun r=>⟨[(0,.ptr 0 0 0 []),(1,.str nonce),(2,.sl 3 0 0 [(s.x,1)] s.k s.c),(6,.u32 (2+UInt32.ofNat s.t)),(7,.ptr 4 0 0 []),(8,.int (min (s.k:Int) 16)),(26,.int (min (s.k:Int) 16)),(27,.int r.i)],[.mk t0 [.ptr 1 0 0 [],.u64 h1,.u64 h2],.mk t1 [.arr8 256 box,.sl 2 0 0 [] R c],.mk t2 [.arr8 N W],.mk t [.arr8 m (zg9 W R nonce 2 l ((n-s.k)+r.i))],.mk 168 [.arr8 16 (enc W R (ctr nonce (2+UInt32.ofNat s.t)))]]⟩) (fun r=>((min s.k 16))-r.i) ⟨0,Nat.zero_le _⟩ [0,1,2,3,4] ?_ ?_
       ·exact zu
       ·intro r
        have hri:=r.hi
        have hlr:(zg9 W R nonce 2 l ((n-s.k)+r.i)).length=l.length:=zl5 (by omega)
        have hR:((r.i:Int)).toNat=r.i:=Int.toNat_natCast _
        by_cases h5:r.i<min s.k 16
        ·refine za ?_
         refine ⟨⟨r.i+1,h5⟩,[0,1,2,3,4],by show ((min s.k 16))-(r.i+1)<((min s.k 16))-r.i;omega,?_⟩
         repeat ((conv=>whnf);refine zb ?_)
         conv=>whnf
         refine yc (congrArg (fun x=>SV.agg [SV.arr8 m x]) (ye (by omega) ?hv ?hkk)) ?_
         case hkk=>show s.x+r.i=0+((n-s.k)+r.i);omega
         case hv=>
           show List.getD (ovr l 0 (stG W R nonce 2 l) ((n-s.k)+r.i)) (s.x+r.i) 0^^^List.getD (enc W R (ctr nonce (2+UInt32.ofNat s.t))) r.i 0=_
           rw [yz (by omega) _ (by omega)]
           unfold stG kb
           rw [show ((n-s.k)+r.i)/ 16=s.t by omega,show ((n-s.k)+r.i)%16=r.i by omega,show s.x+r.i=n-s.k+r.i by omega]
         exact zu
        ·have e5:r.i=min s.k 16:=by omega
         rw [e5]
         refine za ?_
         rw [hmn]
         refine ⟨some ⟨s.t+1,s.x+slO s.c (min s.k 16),s.k-min s.k 16,s.c-min s.k 16,by omega,fun h0=>by
           have hne:s.c≠min s.k 16:=by omega
           rw [yy hne];omega,by omega⟩,[0,1,2,3],by show s.k-min s.k 16<s.k;omega,?_⟩
         repeat ((conv=>whnf);refine zb ?_)
         conv=>whnf
         refine yc (congrArg (fun k=>SV.agg [SV.arr8 m (zg9 W R nonce 2 l k)]) (by show (n-s.k)+min s.k 16=n-(s.k-min s.k 16);omega)) ?_
         repeat ((conv=>whnf);refine zb ?_)
         conv=>whnf
         exact zx (congrArg SV.u32 (by show (2+UInt32.ofNat s.t)+UInt32.ofNat 1=2+UInt32.ofNat (s.t+1);exact Go.Sym.Gcm.u32_add _ _))
      ·have e4:s.k=0:=by omega
       refine za ?_
       refine yv (hp':= [.mk t0 [.ptr 1 0 0 [],.u64 h1,.u64 h2],.mk t1 [.arr8 256 box,.sl 2 0 0 [] R c],.mk t2 [.arr8 N W],.mk t [.arr8 m (zg9 W R nonce 2 l n)]]) [0,1,2,3] h ?_
       repeat ((conv=>whnf);refine zb ?_)
       conv=>whnf
       exact zx (congrArg (fun k=>SV.agg [SV.arr8 m (zg9 W R nonce 2 l k)]) (by show n-s.k=n;omega))
   ·exact h.elim
end Go.Sym.Z

namespace Go.Sym.Z
open Go Go.Proofs.Tryz Go.Sym.Lp Go.Sym.Gcm Go.Sym.Aes
set_option maxRecDepth 100000
attribute [local irreducible] ldE ld y8 hf4 ze3 zgd za0 enc ks box ctr tb fl gaB wr zne
def yba:List (Nat×List PStep):= [(8,[⟨0,[]⟩,⟨1,[]⟩,⟨2,[]⟩,⟨3,[]⟩,⟨4,[0,1,2,3]⟩,⟨7,[0,1,2,3,4]⟩,⟨5,[0,1,2,3,7]⟩,⟨6,[7]⟩,⟨8,[]⟩]),(12,[⟨0,[]⟩,⟨1,[]⟩,⟨2,[]⟩,⟨3,[0,1,2]⟩,⟨4,[0,1,2]⟩,⟨5,[0,1,2]⟩,⟨6,[]⟩,⟨7,[]⟩,⟨8,[]⟩])]
def yay:List (Nat×List PStep):= []
def gtg (W:List UInt8) (R:Nat) (h:El) (nonce aad b:List UInt8):List UInt8:=
  gst W R nonce 1 (wr (zne h (z15 aad b) (gN aad b)))
def zy4:Spec:=fun args hp K=>match args,hp with
  | [.ptr 0 0 0 [],.str nonce,.str aad,.sl 3 0 0 [] n c],[.mk t0 [.ptr 1 0 0 [],.u64 h1,.u64 h2],.mk t1 [.arr8 256 bx,.sl 2 0 0 [] R cR],.mk t2 [.arr8 N W],.mk t [.arr8 m l]]=>
      Pre (bx=box∧nonce.length=12∧1≤R∧R≤100∧16*R≤W.length∧n≤l.length∧n≤c∧aad.length≤65536∧n≤70000)
      (K (.str (gtg W R (h1,h2) nonce aad (l.take n))) [.mk t0 [.ptr 1 0 0 [],.u64 h1,.u64 h2],.mk t1 [.arr8 256 bx,.sl 2 0 0 [] R cR],.mk t2 [.arr8 N W],.mk t [.arr8 m l]])
  |_,_=>False
set_option maxHeartbeats 4000000 in
theorem z2g:zp prog 119 zy4:=by
  refine zn xn (zd z60 (zd z7c (zd z0b (zd z22 (zd zmz (zd zj0 zl)))))) rfl func119 rfl call119 (D:=yba) ?_ ?_
  ·intro args hp K h
   unfold zy4 at h
   split at h
   ·exact Nat.le_of_ble_eq_true rfl
   ·exact h.elim
  ·intro args hp K h
   unfold zy4 at h
   split at h
   ·rename_i nonce aad n c t0 h1 h2 t1 bx R cR t2 N W t m l
    obtain ⟨⟨rfl,hnon,hR1,hR2,hW,hl,hc,ha,hn⟩,h⟩:=zm h
    have hT:=z8v (h1,h2)
    have hF:fl.length=16:=by unfold fl;simp
    refine za ?_
    refine yh fun tl=>?_
    have hw16:=zq2 (UInt64.ofInt (aad.length:Int)*UInt64.ofNat 8,UInt64.ofInt (n:Int)*UInt64.ofNat 8)
    have hpa:(tb (h1,h2)).length=32∧fl.length=16∧16≤16∧off []+16≤(wr (UInt64.ofInt (aad.length:Int)*UInt64.ofNat 8,UInt64.ofInt (n:Int)*UInt64.ofNat 8)).length:=⟨hT,hF,by decide,by rw [hw16];decide⟩
    have hcl:=zqk hnon 1
    have hpe:box=box∧(ctr nonce 1).length=16∧1≤R∧R≤100∧16*R≤W.length:=⟨rfl,hcl,hR1,hR2,hW⟩
    obtain ⟨O,hO⟩: ∃O,O=wr (zne (h1,h2) (z15 aad (l.take n)) (gN aad (l.take n))):=⟨_,rfl⟩
    have hOl:O.length=16:=by rw [hO];exact zq2 _
    have hbl:(l.take n).length=n:=by rw [List.length_take];omega
    have hlen: ∀k:Nat,UInt64.ofInt (k:Int)*UInt64.ofNat 8=UInt64.ofNat (8*k):=fun k=>by
      rw [zwe,UInt64.ofNat_mul,UInt64.mul_comm]
    have hraw:wr (zgd (tb (h1,h2)) fl (xr (ld (List.take 16 (List.drop (off []) (wr (UInt64.ofInt (aad.length:Int)*UInt64.ofNat 8,UInt64.ofInt (n:Int)*UInt64.ofNat 8))))) (gaB (tb (h1,h2)) fl (gaB (tb (h1,h2)) fl (0,0) (List.take aad.length (aad++tl))) (List.take n l))))=O:=by
      have e1:List.take aad.length (aad++tl)=aad:=List.take_left' rfl
      have e2:List.take 16 (List.drop (off []) (wr (UInt64.ofInt (aad.length:Int)*UInt64.ofNat 8,UInt64.ofInt (n:Int)*UInt64.ofNat 8)))=wr (UInt64.ofInt (aad.length:Int)*UInt64.ofNat 8,UInt64.ofInt (n:Int)*UInt64.ofNat 8):=List.take_of_length_le (Nat.le_of_eq hw16)
      have e3:=z7o (h1,h2) aad (l.take n)
      rw [hbl] at e3
      rw [e1,e2,hlen,hlen,hO,←e3]
      rfl
    have hG:gtg W R (h1,h2) nonce aad (l.take n)=gst W R nonce 1 O:=by unfold gtg;rw [hO]
    rw [hG] at h
    have hkl:=zko W R (ctr nonce 1)
    refine za ?_
    refine zz (Ix (16)) (fun q=>⟨[(12,.ptr 4 0 0 []),(13,.ptr 5 0 0 []),(53,.int q.i)],[.mk t0 [.ptr 1 0 0 [],.u64 h1,.u64 h2],.mk t1 [.arr8 256 box,.sl 2 0 0 [] R cR],.mk t2 [.arr8 N W],.mk t [.arr8 m l],.mk 168 [.arr8 16 (ovr O 0 (stG W R nonce 1 O) q.i)],.mk 168 [.arr8 16 (enc W R (ctr nonce 1))]]⟩) (fun q=>(16)-q.i) ⟨0,Nat.zero_le _⟩ [0,1,2,3,8,9] ?_ ?_
    ·repeat ((conv=>whnf);refine zb ?_)
     conv=>whnf
     exact zx (congrArg (fun x=>SV.agg [SV.arr8 16 x]) (hraw.trans (zcc _ _ _).symm))
    ·intro q
     have hi:=q.hi
     have hlo:=yr (l:=O) (a:=0) (i:=q.i) (by omega) (stG W R nonce 1 O)
     have hI:((q.i:Int)).toNat=q.i:=Int.toNat_natCast _
     by_cases h4:q.i<16
     ·refine za ?_
      refine ⟨⟨q.i+1,h4⟩,[0,1,2,3,4,5],by show (16)-(q.i+1)<(16)-q.i;omega,?_⟩
      repeat ((conv=>whnf);refine zb ?_)
      conv=>whnf
      refine yc (congrArg (fun x=>SV.agg [SV.arr8 16 x]) (ye (by omega) ?hv ?hkk)) ?_
      case hkk=>show q.i=0+q.i;omega
      case hv=>
        show List.getD (ovr O 0 (stG W R nonce 1 O) q.i) q.i 0^^^List.getD (enc W R (ctr nonce 1)) q.i 0=_
        rw [yz (by omega) _ (by omega)]
        unfold stG kb
        rw [show q.i/ 16=0 by omega,show q.i%16=q.i by omega,show (1:UInt32)+UInt32.ofNat 0=1 from rfl]
      exact zu
     ·have e4:q.i=16:=by omega
      have hfin:List.take 16 (List.drop (off []) (ovr O 0 (stG W R nonce 1 O) 16))=gst W R nonce 1 O:=by
        rw [x2 hOl]
        unfold gst
        rw [hOl]
        exact List.take_of_length_le (by simp)
      rw [e4] at hlo
      rw [e4]
      refine za ?_
      rw [hfin]
      conv=>whnf
      exact zh [0,1,2,3] h
   ·exact h.elim
def zyv:Spec:=fun args hp K=>match args,hp with
  | [.str nonce,.str aad,.int most,.int long],[]=>K (.bool (decide (nonce.length=12∧aad.length≤65536∧long≤most))) []
  |_,_=>False
theorem z7j:zp prog 168 zyv:=by
  refine zn xn zl rfl func168 rfl call168 (D:=yay) ?_ ?_
  ·intro args hp K h
   unfold zyv at h
   split at h
   ·exact Nat.le_of_ble_eq_true rfl
   ·exact h.elim
  ·intro args hp K h
   unfold zyv at h
   split at h
   ·rename_i nonce aad most long
    by_cases h1:nonce.length=12
    ·by_cases h2:aad.length≤65536
     ·by_cases h3:long≤most
      ·rw [decide_eq_true ⟨h1,h2,h3⟩] at h
       have d4:decide (long≤most)=true:=decide_eq_true h3
       refine za ?_
       rw [d4]
       conv=>whnf
       exact zh [] h
      ·rw [decide_eq_false fun hh=>h3 hh.2.2] at h
       have d4:decide (long≤most)=false:=decide_eq_false h3
       refine za ?_
       rw [d4]
       conv=>whnf
       exact zh [] h
     ·rw [decide_eq_false fun hh=>h2 hh.2.1] at h
      refine za ?_
      exact zh [] h
    ·rw [decide_eq_false fun hh=>h1 hh.1] at h
     refine za ?_
     exact zh [] h
   ·exact h.elim
end Go.Sym.Z

namespace Go.Sym.Z
open Go Go.Proofs.Tryz Go.Sym.Lp Go.Sym.Gcm Go.Sym.Aes
set_option maxRecDepth 100000
attribute [local irreducible] gst gtg gH gW enc ks box
def z9i:List (Nat×List PStep):= [(8,[⟨0,[]⟩,⟨1,[0]⟩,⟨2,[0,1]⟩,⟨3,[0,1,2]⟩,⟨5,[0,1,2,3]⟩,⟨6,[0,1,2,3,5]⟩,⟨7,[0,1,2,3]⟩,⟨4,[5,6,7]⟩,⟨8,[]⟩])]
def kl (key:List UInt8):Prop:=key.length=16∨key.length=32
instance (key:List UInt8):Decidable (kl key):=by unfold kl;exact inferInstance
def ze2 (key nonce aad b:List UInt8):List UInt8:=gtg (gW key) (gR key) (gH (gW key) (gR key)) nonce aad b
theorem z1k (key nonce aad b:List UInt8):(ze2 key nonce aad b).length=16:=by
  unfold ze2 gtg;rw [zkf,zq2]
def zeb (key nonce s:List UInt8):List UInt8:=gst (gW key) (gR key) nonce 2 s
theorem zmj (key nonce s:List UInt8):(zeb key nonce s).length=s.length:=zkf _ _ _ _ _
def zg5 (key nonce aad s:List UInt8):List UInt8:=zeb key nonce s++ze2 key nonce aad (zeb key nonce s)
def zlc:Spec:=fun args hp K=>match args,hp with
  | [.str key,.str nonce,.str aad,.str s],[]=>
      if (key.length=16∨key.length=32)∧nonce.length=12∧aad.length≤65536∧(s.length:Int)≤65552 then
       (if 16≤s.length∧ze2 key nonce aad (s.take (s.length-16))=s.drop (s.length-16) then K (.tup [.str (zeb key nonce (s.take (s.length-16))),.int 0]) []
       else K (.tup [.str [],.int 501]) [])
      else K (.tup [.str [],.int 500]) []
  |_,_=>False
theorem z35:zp prog 151 zlc:=by
  refine zn xn (zd zst (zd z7j (zd z04 (zd z2g zl)))) rfl func151 rfl call151 (D:=z9i) ?_ ?_
  ·intro args hp K h
   unfold zlc at h
   split at h
   ·exact Nat.le_of_ble_eq_true rfl
   ·exact h.elim
  ·intro args hp K h
   unfold zlc at h
   split at h
   ·rename_i key nonce aad s
    by_cases hk:key.length=16∨key.length=32
    ·have hdk:=decide_eq_true hk
     have hWl:=zq5 hk
     have hR:gR key=key.length/ 4+7:=rfl
     by_cases h0:nonce.length=12∧aad.length≤65536∧(s.length:Int)≤65552
     ·rw [if_pos ⟨hk,h0⟩] at h
      have hd:=decide_eq_true h0
      by_cases h1:16≤s.length
      ·have hn:((s.length:Int)-16).toNat=s.length-16:=by omega
       have d1:decide ((s.length:Int)-16<0)=false:=decide_eq_false (by omega)
       repeat ((conv=>whnf);first|refine zo ?_|refine zf ?_|refine zg ?_|refine zb ?_|refine zr (by first|exact hdk|exact hd|(rw [hd];rfl)) ?_|refine zi (by first|exact hdk|exact hd|(rw [hd];rfl)) ?_|refine zj (by first|exact hdk|exact hd|(rw [hd];rfl)) ?_)
       conv=>whnf
       refine yh fun t1=>?_
       repeat ((conv=>whnf);first|refine zo ?_|refine zf ?_|refine zg ?_|refine zb ?_|refine zr (by first|exact hdk|exact hd|(rw [hd];rfl)) ?_|refine zi (by first|exact hdk|exact hd|(rw [hd];rfl)) ?_|refine zj (by first|exact hdk|exact hd|(rw [hd];rfl)) ?_)
       conv=>whnf
       have hTl:(List.take ((s.length:Int)-16).toNat s).length=s.length-16:=by rw [hn,List.length_take];omega
       have hTk:(List.take (List.take ((s.length:Int)-16).toNat s).length ((List.take ((s.length:Int)-16).toNat s)++t1))=s.take (s.length-16):=by rw [List.take_left' rfl,hn]
       by_cases hq:ze2 key nonce aad (s.take (s.length-16))=s.drop (s.length-16)
       ·rw [if_pos ⟨h1,hq⟩] at h
        have hdq:decide (gtg (gW key) (gR key) ((gH (gW key) (gR key)).1,(gH (gW key) (gR key)).2) nonce aad (List.take (List.take ((s.length:Int)-16).toNat s).length ((List.take ((s.length:Int)-16).toNat s)++t1))=List.drop ((s.length:Int)-16).toNat s)=true:=decide_eq_true (by rw [hTk,hn];exact hq)
        repeat ((conv=>whnf);first|refine zo ?_|refine zf ?_|refine zg ?_|refine zb ?_|refine zr (by first|exact hdq|(rw [hdq];rfl)) ?_|refine zi (by first|exact hdq|(rw [hdq];rfl)) ?_|refine zj (by first|exact hdq|(rw [hdq];rfl)) ?_)
        conv=>whnf
        have hX:(gst (gW key) (gR key) nonce 2 (List.take (List.take ((s.length:Int)-16).toNat s).length ((List.take ((s.length:Int)-16).toNat s)++t1))++List.drop (List.take ((s.length:Int)-16).toNat s).length ((List.take ((s.length:Int)-16).toNat s)++t1))=zeb key nonce (s.take (s.length-16))++t1:=by rw [hTk,List.drop_left' rfl];rfl
        have hp3:off []+(List.take ((s.length:Int)-16).toNat s).length≤(gst (gW key) (gR key) nonce 2 (List.take (List.take ((s.length:Int)-16).toNat s).length ((List.take ((s.length:Int)-16).toNat s)++t1))++List.drop (List.take ((s.length:Int)-16).toNat s).length ((List.take ((s.length:Int)-16).toNat s)++t1)).length:=by rw [hX,List.length_append,zmj,hTl,List.length_take];show 0+_≤_;omega
        have hF:List.take (List.take ((s.length:Int)-16).toNat s).length (List.drop (off []) (gst (gW key) (gR key) nonce 2 (List.take (List.take ((s.length:Int)-16).toNat s).length ((List.take ((s.length:Int)-16).toNat s)++t1))++List.drop (List.take ((s.length:Int)-16).toNat s).length ((List.take ((s.length:Int)-16).toNat s)++t1)))=zeb key nonce (s.take (s.length-16)):=by
          rw [hX,hTl];show List.take _ (List.drop 0 _)=_;rw [List.drop_zero];exact List.take_left' (by rw [zmj,List.length_take];omega)
        refine za ?_
        conv=>whnf
        refine yv (hp':= []) [] h ?_
        repeat ((conv=>whnf);refine zb ?_)
        conv=>whnf
        exact zx (congrArg (fun y=>SV.tup [SV.str y,SV.int 0]) hF)
       ·rw [if_neg fun hh=>hq hh.2] at h
        have hdq:decide (gtg (gW key) (gR key) ((gH (gW key) (gR key)).1,(gH (gW key) (gR key)).2) nonce aad (List.take (List.take ((s.length:Int)-16).toNat s).length ((List.take ((s.length:Int)-16).toNat s)++t1))=List.drop ((s.length:Int)-16).toNat s)=false:=decide_eq_false (by rw [hTk,hn];exact hq)
        repeat ((conv=>whnf);first|refine zo ?_|refine zf ?_|refine zg ?_|refine zb ?_|refine zr (by first|exact hdq|(rw [hdq];rfl)) ?_|refine zi (by first|exact hdq|(rw [hdq];rfl)) ?_|refine zj (by first|exact hdq|(rw [hdq];rfl)) ?_)
        conv=>whnf
        exact zh [] h
      ·rw [if_neg fun hh=>h1 hh.1] at h
       repeat ((conv=>whnf);first|refine zo ?_|refine zf ?_|refine zg ?_|refine zb ?_|refine zr (by first|exact hdk|exact hd|(rw [hd];rfl)) ?_|refine zi (by first|exact hdk|exact hd|(rw [hd];rfl)) ?_|refine zj (by first|exact hdk|exact hd|(rw [hd];rfl)) ?_)
       conv=>whnf
       exact zh [] h
     ·rw [if_neg fun hh=>h0 hh.2] at h
      have hd:=decide_eq_false h0
      repeat ((conv=>whnf);first|refine zo ?_|refine zf ?_|refine zg ?_|refine zb ?_|refine zr (by first|exact hdk|exact hd|(rw [hd];rfl)) ?_|refine zi (by first|exact hdk|exact hd|(rw [hd];rfl)) ?_|refine zj (by first|exact hdk|exact hd|(rw [hd];rfl)) ?_)
      conv=>whnf
      exact zh [] h
    ·rw [if_neg fun hh=>hk hh.1] at h
     have hdk:=decide_eq_false hk
     repeat ((conv=>whnf);first|refine zo ?_|refine zf ?_|refine zg ?_|refine zb ?_|refine zr (by first|exact hdk|(rw [hdk];rfl)) ?_|refine zi (by first|exact hdk|(rw [hdk];rfl)) ?_|refine zj (by first|exact hdk|(rw [hdk];rfl)) ?_)
     conv=>whnf
     exact zh [] h
   ·exact h.elim
end Go.Sym.Z

namespace Go.Sym.Ib
open Go Go.Sym
theorem ibits_and {a m:Int} (h0:0≤m) (h1:m<9223372036854775808):0≤zbg .and a m∧zbg .and a m≤m:=by
  unfold zbg
  dsimp only
  have hle:(BitVec.ofInt 64 a&&&BitVec.ofInt 64 m).toNat≤(BitVec.ofInt 64 m).toNat:=by
    rw [BitVec.toNat_and];exact Nat.and_le_right
  have hm:((BitVec.ofInt 64 m).toNat:Int)=m:=by
    rw [BitVec.toNat_ofInt]
    have:(2^64:Nat)=18446744073709551616:=by decide
    rw [this]
    omega
  rw [x8 _ (by unfold yn;omega)]
  omega
theorem ibits_or {a b:Nat} (ha:a<9223372036854775808) (hb:b<9223372036854775808) (h:a|||b<9223372036854775808):zbg .or (a:Int) (b:Int)=((a|||b:Nat):Int):=by
  unfold zbg
  dsimp only
  have e:(2^64:Nat)=18446744073709551616:=by decide
  have e1:(BitVec.ofInt 64 (a:Int)).toNat=a:=by rw [BitVec.toNat_ofInt,e];omega
  have e2:(BitVec.ofInt 64 (b:Int)).toNat=b:=by rw [BitVec.toNat_ofInt,e];omega
  rw [BitVec.toNat_or,e1,e2,x8 _ (by unfold yn;omega)]
end Go.Sym.Ib

namespace Go.Sym.Z
open Go Go.Proofs.Tryz Go.Sym.Lp Go.Sym.Gcm Go.Sym.Aes
set_option maxRecDepth 100000
attribute [local irreducible] ldE y8 hf4 ze3 enc ks box
end Go.Sym.Z

namespace Go.Sym.Cha
open Go.Sym.Lp
def zir (x:UInt32) (n:Nat):UInt32:=x<<<UInt32.ofNat n|||x>>>UInt32.ofNat (32-n)
def g32 (x:List UInt32) (i:Nat):UInt32:=x.getD i 0
def qs (x:List UInt32) (a b d n:Nat):List UInt32:=
  let y:=x.set a (g32 x a+g32 x b)
  y.set d (zir (g32 y d^^^g32 y a) n)
def qr (x:List UInt32) (a b c d:Nat):List UInt32:=qs (qs (qs (qs x a b d 16) c d b 12) a b d 8) c d b 7
theorem z6x (x:List UInt32) (a b d n:Nat):(qs x a b d n).length=x.length:=by unfold qs;simp
theorem z3m (x:List UInt32) (a b c d:Nat):(qr x a b c d).length=x.length:=by unfold qr;simp [z6x]
def zme (x:List UInt32):Nat→List UInt32
  |0=>x
  |i+1=>qr (zme x i) i (4+i) (8+i) (12+i)
def zls (x:List UInt32):Nat→List UInt32
  |0=>x
  |i+1=>qr (zls x i) i (4+(i+1)%4) (8+(i+2)%4) (12+(i+3)%4)
def zqz (x:List UInt32):Nat→List UInt32
  |0=>x
  |r+1=>zls (zme (zqz x r) 4) 4
theorem zjl (x:List UInt32): ∀i,(zme x i).length=x.length
  |0=>rfl
  |i+1=>by simp only [zme,z3m];exact zjl x i
theorem zjn (x:List UInt32): ∀i,(zls x i).length=x.length
  |0=>rfl
  |i+1=>by simp only [zls,z3m];exact zjn x i
theorem zru (x:List UInt32): ∀r,(zqz x r).length=x.length
  |0=>rfl
  |r+1=>by simp only [zqz,zjn,zjl];exact zru x r
def outG (x:List UInt32) (i:Nat):UInt8:=((g32 x (i/ 4)+g32 (zqz x 10) (i/ 4))>>>UInt32.ofNat (8*(i%4))).toUInt8
def zx9 (x:List UInt32):List UInt8:=(List.range 64).map (outG x)
theorem zlp (x:List UInt32):(zx9 x).length=64:=z7 _ _
def wd (s:List UInt8) (a:Nat):UInt32:=(s.getD a 0).toUInt32|||(s.getD (a+1) 0).toUInt32<<<8|||(s.getD (a+2) 0).toUInt32<<<16|||(s.getD (a+3) 0).toUInt32<<<24
def z9h (key nonce:List UInt8) (n:UInt32) (i:Nat):UInt32:=
  if i=0 then 1634760805 else if i=1 then 857760878 else if i=2 then 2036477234 else if i=3 then 1797285236 else if i<12 then wd key (4*(i-4)) else if i=12 then n else wd nonce (4*(i-13))
def beg (key nonce:List UInt8) (n:UInt32):List UInt32:=(List.range 16).map (z9h key nonce n)
theorem zqi (key nonce:List UInt8) (n:UInt32):(beg key nonce n).length=16:=z7 _ _
def blk (key nonce:List UInt8) (n:UInt32):List UInt8:=zx9 (beg key nonce n)
theorem zkj (key nonce:List UInt8) (n:UInt32):(blk key nonce n).length=64:=zlp _
def znc (key nonce:List UInt8) (n:UInt32) (s:List UInt8) (i:Nat):UInt8:=s.getD i 0^^^(blk key nonce (n+UInt32.ofNat (i/ 64))).getD (i%64) 0
def xl (key nonce:List UInt8) (n:UInt32) (s:List UInt8):List UInt8:=(List.range s.length).map (znc key nonce n s)
theorem zfa (key nonce:List UInt8) (n:UInt32) (s:List UInt8):(xl key nonce n s).length=s.length:=z7 _ _
theorem zyz {key nonce:List UInt8} {n:UInt32} {x:List UInt32} (h:x.length=16) (h0:x.getD 0 0=1634760805) (h1:x.getD 1 0=857760878) (h2:x.getD 2 0=2036477234) (h3:x.getD 3 0=1797285236):
    ovr ((ovr x 4 (fun i=>wd key (4*i)) 8).set 12 n) 13 (fun i=>wd nonce (4*i)) 3=beg key nonce n:=by
  have l1:=yr (l:=x) (a:=4) (i:=8) (by omega) (fun i=>wd key (4*i))
  have l2:((ovr x 4 (fun i=>wd key (4*i)) 8).set 12 n).length=16:=by rw [List.length_set,l1,h]
  have l3:=yr (l:=(ovr x 4 (fun i=>wd key (4*i)) 8).set 12 n) (a:=13) (i:=3) (by omega) (fun i=>wd nonce (4*i))
  unfold beg
  apply List.ext_getElem?
  intro j
  by_cases hj:j<16
  ·rw [List.getElem?_map,List.getElem?_range hj,Option.map_some,zb3 (by omega),List.getElem?_set,zb3 (by omega)]
   have g: ∀k v,k<16→x.getD k 0=v→x[k]?=some v:=fun k v hk hv=>by
     rw [List.getD_eq_getElem?_getD,List.getElem?_eq_getElem (by omega)] at hv
     rw [List.getElem?_eq_getElem (by omega)]
     exact congrArg some hv
   unfold z9h
   by_cases a0:j=0
   ·subst a0;rw [if_neg (by omega),if_neg (by omega),if_neg (by omega),if_pos rfl];exact g 0 _ (by omega) h0
   by_cases a1:j=1
   ·subst a1;rw [if_neg (by omega),if_neg (by omega),if_neg (by omega),if_neg (by omega),if_pos rfl];exact g 1 _ (by omega) h1
   by_cases a2:j=2
   ·subst a2;rw [if_neg (by omega),if_neg (by omega),if_neg (by omega),if_neg (by omega),if_neg (by omega),if_pos rfl];exact g 2 _ (by omega) h2
   by_cases a3:j=3
   ·subst a3;rw [if_neg (by omega),if_neg (by omega),if_neg (by omega),if_neg (by omega),if_neg (by omega),if_neg (by omega),if_pos rfl];exact g 3 _ (by omega) h3
   rw [if_neg a0,if_neg a1,if_neg a2,if_neg a3]
   by_cases a4:j<12
   ·rw [if_neg (by omega),if_neg (by omega),if_pos (by omega),if_pos a4]
   by_cases a5:j=12
   ·subst a5;rw [if_neg (by omega),if_pos rfl,if_pos (by rw [l1];omega),if_neg (by omega),if_pos rfl]
   ·rw [if_pos (by omega),if_neg a4,if_neg a5]
  ·rw [List.getElem?_eq_none (by omega),List.getElem?_eq_none (by simp;omega)]
end Go.Sym.Cha
namespace Go.Sym.Cha
open Go.Sym.Lp
def c0:List UInt32:=1634760805 ::857760878 ::2036477234 ::1797285236 ::List.replicate 12 0
theorem z7r:c0.length=16:=rfl
theorem z62 (key nonce:List UInt8) (n:UInt32):ovr ((ovr c0 4 (fun i=>wd key (4*i)) 8).set 12 n) 13 (fun i=>wd nonce (4*i)) 3=beg key nonce n:=zyz rfl rfl rfl rfl rfl
theorem zwg (s:List UInt8) (a:Nat):wd (s.drop a) 0=wd s a:=by
  have g: ∀j,(s.drop a).getD j 0=s.getD (a+j) 0:=fun j=>by rw [List.getD_eq_getElem?_getD,List.getElem?_drop,List.getD_eq_getElem?_getD]
  unfold wd
  rw [g,g,g,g];rfl
end Go.Sym.Cha
namespace Go.Sym.Cha
open Go.Sym.Lp
def zjv (key nonce:List UInt8) (n:UInt32) (l:List UInt8) (k:Nat):List UInt8:=ovr l 0 (znc key nonce n l) k
theorem z2v {key nonce:List UInt8} {n:UInt32} {l:List UInt8} {k:Nat} (h:k≤l.length):zjv key nonce n l k=xl key nonce n (l.take k)++l.drop k:=by
  unfold zjv ovr xl
  rw [List.take_zero,List.nil_append,Nat.zero_add,List.length_take,Nat.min_eq_left h]
  congr 1
  refine xy fun i hi=>?_
  have e:(l.take k).getD i 0=l.getD i 0:=by rw [List.getD_eq_getElem?_getD,List.getElem?_take_of_lt hi,←List.getD_eq_getElem?_getD]
  unfold znc
  rw [e]
theorem u32_add (c:UInt32) (t:Nat):c+UInt32.ofNat t+1=c+UInt32.ofNat (t+1):=by
  rw [UInt32.add_assoc];congr 1
  rw [UInt32.ofNat_add];rfl
end Go.Sym.Cha
namespace Go.Sym.Cha
end Go.Sym.Cha

namespace Go.Sym.Sha
open Go.Sym.Lp Go.Sym.Cha
def zlw (x:UInt64) (n:Nat):UInt64:=x<<<UInt64.ofNat n|||x>>>UInt64.ofNat (64-n)
def g64 (x:List UInt64) (i:Nat):UInt64:=x.getD i 0
def zg6 (b:List UInt8):Nat→UInt64
  |0=>0
  |i+1=>zg6 b i<<<8|||(b.getD i 0).toUInt64
def num (b:List UInt8):UInt64:=zg6 b b.length
def s0 (x:UInt32):UInt32:=zir x 25^^^zir x 14^^^x>>>3
def s1 (y:UInt32):UInt32:=zir y 15^^^zir y 13^^^y>>>10
def zad (b:List UInt8):Nat→List UInt32
  |0=>List.replicate 64 0
  |i+1=>(zad b i).set i (if i<16 then (num ((b.drop (4*i)).take 4)).toUInt32 else
    g32 (zad b i) (i-16)+g32 (zad b i) (i-7)+s0 (g32 (zad b i) (i-15))+s1 (g32 (zad b i) (i-2)))
theorem zny (b:List UInt8): ∀i,(zad b i).length=64
  |0=>rfl
  |i+1=>by simp only [zad,List.length_set];exact zny b i
theorem z76 {b:List UInt8} {i:Nat} (h:i<16):zad b (i+1)=(zad b i).set i (num ((b.drop (4*i)).take 4)).toUInt32:=by simp only [zad];rw [if_pos h]
theorem z6u {b:List UInt8} {i:Nat} (h: ¬i<16):zad b (i+1)=(zad b i).set i (g32 (zad b i) (i-16)+g32 (zad b i) (i-7)+s0 (g32 (zad b i) (i-15))+s1 (g32 (zad b i) (i-2))):=by simp only [zad];rw [if_neg h]
def z9v (s:List UInt32) (k w:UInt32):List UInt32:=
  let e:=g32 s 4;let a:=g32 s 0
  let t:=g32 s 7+(zir e 26^^^zir e 21^^^zir e 7)+(e&&&g32 s 5^^^ ~~~e&&&g32 s 6)+k+w
  let u:=(zir a 30^^^zir a 19^^^zir a 10)+(a&&&g32 s 1^^^a&&&g32 s 2^^^g32 s 1&&&g32 s 2)
  [t+u,g32 s 0,g32 s 1,g32 s 2,g32 s 3+t,g32 s 4,g32 s 5,g32 s 6]
def zfy (k:List UInt64) (w s:List UInt32):Nat→List UInt32
  |0=>s
  |i+1=>z9v (zfy k w s i) (g64 k i>>>32).toUInt32 (g32 w i)
theorem zx3 {k:List UInt64} {w s:List UInt32} (h:s.length=8): ∀i,(zfy k w s i).length=8
  |0=>h
  |_+1=>rfl
def zmt (k h:List UInt64) (b:List UInt8):List UInt64:=
  (List.range 8).map fun i=>((g64 h i).toUInt32+g32 (zfy k (zad b 64) ((List.range 8).map fun i=>(g64 h i).toUInt32) 64) i).toUInt64
theorem zx7 (k h:List UInt64) (b:List UInt8):(zmt k h b).length=8:=z7 _ _
def z0 (x:UInt64):UInt64:=zlw x 63^^^zlw x 56^^^x>>>7
def z1 (y:UInt64):UInt64:=zlw y 45^^^zlw y 3^^^y>>>6
def zaf (b:List UInt8):Nat→List UInt64
  |0=>List.replicate 80 0
  |i+1=>(zaf b i).set i (if i<16 then num ((b.drop (8*i)).take 8) else
    g64 (zaf b i) (i-16)+g64 (zaf b i) (i-7)+z0 (g64 (zaf b i) (i-15))+z1 (g64 (zaf b i) (i-2)))
theorem zn4 (b:List UInt8): ∀i,(zaf b i).length=80
  |0=>rfl
  |i+1=>by simp only [zaf,List.length_set];exact zn4 b i
theorem z61 {b:List UInt8} {i:Nat} (h:i<16):zaf b (i+1)=(zaf b i).set i (num ((b.drop (8*i)).take 8)):=by simp only [zaf];rw [if_pos h]
theorem z6q {b:List UInt8} {i:Nat} (h: ¬i<16):zaf b (i+1)=(zaf b i).set i (g64 (zaf b i) (i-16)+g64 (zaf b i) (i-7)+z0 (g64 (zaf b i) (i-15))+z1 (g64 (zaf b i) (i-2))):=by simp only [zaf];rw [if_neg h]
def z8y (s:List UInt64) (k w:UInt64):List UInt64:=
  let e:=g64 s 4;let a:=g64 s 0
  let t:=g64 s 7+(zlw e 50^^^zlw e 46^^^zlw e 23)+(e&&&g64 s 5^^^ ~~~e&&&g64 s 6)+k+w
  let u:=(zlw a 36^^^zlw a 30^^^zlw a 25)+(a&&&g64 s 1^^^a&&&g64 s 2^^^g64 s 1&&&g64 s 2)
  [t+u,g64 s 0,g64 s 1,g64 s 2,g64 s 3+t,g64 s 4,g64 s 5,g64 s 6]
def zfh (k w s:List UInt64):Nat→List UInt64
  |0=>s
  |i+1=>z8y (zfh k w s i) (g64 k i) (g64 w i)
theorem zxf {k w s:List UInt64} (h:s.length=8): ∀i,(zfh k w s i).length=8
  |0=>h
  |_+1=>rfl
def zh8 (k h:List UInt64) (b:List UInt8):List UInt64:=
  (List.range 8).map fun i=>g64 h i+g64 (zfh k (zaf b 80) h 80) i
theorem zw8 (k h:List UInt64) (b:List UInt8):(zh8 k h b).length=8:=z7 _ _
def bk (n:Int):Nat:=if n=256 then 64 else 128
def zbd (n:Int) (k h:List UInt64) (b:List UInt8):List UInt64:=if n=256 then zmt k h b else zh8 k h b
theorem zw3 (n:Int) (k h:List UInt64) (b:List UInt8):(zbd n k h b).length=8:=by
  unfold zbd;split
  ·exact zx7 _ _ _
  ·exact zw8 _ _ _
def xx (n:Int) (k h:List UInt64) (B:List UInt8):Nat→List UInt64
  |0=>h
  |t+1=>zbd n k (xx n k h B t) ((B.drop (bk n*t)).take (bk n))
theorem zfq {n:Int} {k h:List UInt64} (hh:h.length=8) (B:List UInt8): ∀t,(xx n k h B t).length=8
  |0=>hh
  |_+1=>zw3 _ _ _ _
end Go.Sym.Sha
namespace Go.Sym.Sha
open Go.Sym.Lp Go.Sym.Cha
def wrH (n:Int) (k h:List UInt64) (R s:List UInt8):List UInt64:=xx n k h (R++s) ((R++s).length/ bk n)
def wrR (n:Int) (R s:List UInt8):List UInt8:=(R++s).drop (bk n*((R++s).length/ bk n))
theorem z2t (n:Int):0<bk n:=by unfold bk;split<;>decide
theorem zip (n:Int) (R s:List UInt8):(wrR n R s).length=(R.length+s.length)%bk n:=by
  unfold wrR
  rw [List.length_drop,List.length_append]
  have:=Nat.div_add_mod (R.length+s.length) (bk n)
  omega
theorem zpu (n:Int) (R s:List UInt8):(wrR n R s).length<bk n:=by rw [zip];exact Nat.mod_lt _ (z2t n)
theorem zau {n:Int} {k h:List UInt64} (hh:h.length=8) (R s:List UInt8):(wrH n k h R s).length=8:=zfq hh _ _
def zbt (n:Int) (r:Nat):Nat:=1+(2*bk n-1-bk n/ 8-r)%bk n+bk n/ 8
def zcf (L:Nat) (all:UInt64):Nat→List UInt8
  |0=>(List.replicate L 0).set 0 128
  |i+1=>(zcf L all i).set (L-1-i) ((all*8)>>>UInt64.ofNat (8*i)).toUInt8
theorem zdl (L:Nat) (all:UInt64): ∀i,(zcf L all i).length=L
  |0=>by simp [zcf]
  |i+1=>by simp only [zcf,List.length_set];exact zdl L all i
def zl6 (n:Int) (r:Nat) (all:UInt64):List UInt8:=zcf (zbt n r) all 8
theorem z1w (n:Int) (r:Nat) (all:UInt64):(zl6 n r all).length=zbt n r:=zdl _ _ _
theorem zgt {n:Int} {R:List UInt8} (h:R.length<bk n) (all:UInt64):(wrR n R (zl6 n R.length all)).length=0:=by
  rw [zip,z1w]
  unfold zbt
  have hb:bk n=64∨bk n=128:=by unfold bk;split<;>simp
  rcases hb with e|e<;>rw [e] at h ⊢ <;>omega
def outG (w:List UInt64) (size j:Nat):UInt8:=(g64 w (j/ size)>>>UInt64.ofNat (8*(size-1-j%size))).toUInt8
def zh0 (w:List UInt64) (size:Nat):List UInt8:=(List.range (8*size)).map (outG w size)
theorem zfw (w:List UInt64) (size:Nat):(zh0 w size).length=8*size:=z7 _ _
def dl (n:Int):Nat:=if n=256 then 32 else 48
def zdk (n:Int) (k h:List UInt64) (R:List UInt8) (all:UInt64):List UInt8:=
  (zh0 (wrH n k h R (zl6 n R.length all)) (bk n/ 16)).take (n/ 8).toNat
def KC:List UInt64:= [0x428a2f98d728ae22,0x7137449123ef65cd,0xb5c0fbcfec4d3b2f,0xe9b5dba58189dbbc,0x3956c25bf348b538,0x59f111f1b605d019,0x923f82a4af194f9b,0xab1c5ed5da6d8118,0xd807aa98a3030242,0x12835b0145706fbe,0x243185be4ee4b28c,0x550c7dc3d5ffb4e2,0x72be5d74f27b896f,0x80deb1fe3b1696b1,0x9bdc06a725c71235,0xc19bf174cf692694,0xe49b69c19ef14ad2,0xefbe4786384f25e3,0x0fc19dc68b8cd5b5,0x240ca1cc77ac9c65,0x2de92c6f592b0275,0x4a7484aa6ea6e483,0x5cb0a9dcbd41fbd4,0x76f988da831153b5,0x983e5152ee66dfab,0xa831c66d2db43210,0xb00327c898fb213f,0xbf597fc7beef0ee4,0xc6e00bf33da88fc2,0xd5a79147930aa725,0x06ca6351e003826f,0x142929670a0e6e70,0x27b70a8546d22ffc,0x2e1b21385c26c926,0x4d2c6dfc5ac42aed,0x53380d139d95b3df,0x650a73548baf63de,0x766a0abb3c77b2a8,0x81c2c92e47edaee6,0x92722c851482353b,0xa2bfe8a14cf10364,0xa81a664bbc423001,0xc24b8b70d0f89791,0xc76c51a30654be30,0xd192e819d6ef5218,0xd69906245565a910,0xf40e35855771202a,0x106aa07032bbd1b8,0x19a4c116b8d2d0c8,0x1e376c085141ab53,0x2748774cdf8eeb99,0x34b0bcb5e19b48a8,0x391c0cb3c5c95a63,0x4ed8aa4ae3418acb,0x5b9cca4f7763e373,0x682e6ff3d6b2b8a3,0x748f82ee5defb2fc,0x78a5636f43172f60,0x84c87814a1f0ab72,0x8cc702081a6439ec,0x90befffa23631e28,0xa4506cebde82bde9,0xbef9a3f7b2c67915,0xc67178f2e372532b,0xca273eceea26619c,0xd186b8c721c0c207,0xeada7dd6cde0eb1e,0xf57d4f7fee6ed178,0x06f067aa72176fba,0x0a637dc5a2c898a6,0x113f9804bef90dae,0x1b710b35131c471b,0x28db77f523047d84,0x32caab7b40c72493,0x3c9ebe0a15c9bebc,0x431d67c49c100d4c,0x4cc5d4becb3e42b6,0x597f299cfc657e2a,0x5fcb6fab3ad6faec,0x6c44198c4a475817]
theorem zo6:KC.length=80:=rfl
def HB (n:Int):List UInt64:=if n=256 then [0x6a09e667,0xbb67ae85,0x3c6ef372,0xa54ff53a,0x510e527f,0x9b05688c,0x1f83d9ab,0x5be0cd19] else [0xcbbb9d5dc1059ed8,0x629a292a367cd507,0x9159015a3070dd17,0x152fecd8f70e5939,0x67332667ffc00b31,0x8eb44a8768581511,0xdb0c2e0d64f98fa7,0x47b5481dbefa4fa4]
theorem zpk (n:Int):(HB n).length=8:=by unfold HB;split<;>rfl
def zgx (n:Int) (s:List UInt8):List UInt8:=zdk n KC (wrH n KC (HB n) [] s) (wrR n [] s) (UInt64.ofNat s.length)
theorem zih {n:Int} (hn:n=256∨n=384) (k h:List UInt64) (R:List UInt8) (all:UInt64):(zdk n k h R all).length=dl n:=by
  unfold zdk dl
  rw [List.length_take,zfw]
  rcases hn with rfl|rfl
  ·rfl
  ·rfl
theorem zr4 {n:Int} (hn:n=256∨n=384) (s:List UInt8):(zgx n s).length=dl n:=zih hn _ _ _ _
end Go.Sym.Sha

namespace Go.Sym.Hk
open Go.Sym.Lp Go.Sym.Sha
def kN (n:Int) (key:List UInt8):List UInt8:=if bk n<key.length then zgx n key else key
def pdX (n:Nat) (key:List UInt8) (b:UInt8):List UInt8:=(List.range n).map fun i=>key.getD i 0^^^b
theorem zbz (n:Nat) (key:List UInt8) (b:UInt8):(pdX n key b).length=n:=z7 _ _
def mP (n:Int) (key:List UInt8) (b:UInt8):List UInt64:=wrH n KC (HB n) [] (pdX (bk n) (kN n key) b)
theorem z0l (n:Int) (key:List UInt8) (b:UInt8):(mP n key b).length=8:=zau (zpk n) _ _
def dgF (n:Int) (H:List UInt64) (s:List UInt8):List UInt8:=zdk n KC (wrH n KC H [] s) (wrR n [] s) (UInt64.ofNat (bk n)+UInt64.ofNat s.length)
theorem zpn {n:Int} (hn:n=256∨n=384) (H:List UInt64) (s:List UInt8):(dgF n H s).length=dl n:=zih hn _ _ _ _
def zyd (n:Int) (key s:List UInt8):List UInt8:=dgF n (mP n key 92) (dgF n (mP n key 54) s)
theorem zz5 {n:Int} (hn:n=256∨n=384) (key s:List UInt8):(zyd n key s).length=dl n:=zpn hn _ _
def zaj (n:Int) (key info:List UInt8):Nat→List UInt8×List UInt8
  |0=>([],[])
  |i+1=>((zaj n key info i).1++zyd n key ((zaj n key info i).2++info++ [UInt8.ofInt ((i:Int)+1)]),zyd n key ((zaj n key info i).2++info++ [UInt8.ofInt ((i:Int)+1)]))
theorem zlk {n:Int} (hn:n=256∨n=384) (key info:List UInt8): ∀i,(zaj n key info i).1.length=dl n*i∧(zaj n key info i).2.length≤48
  |0=>⟨rfl,Nat.zero_le _⟩
  |i+1=>by
   have h:=zlk hn key info i
   have hm:=zz5 hn key ((zaj n key info i).2++info++ [UInt8.ofInt ((i:Int)+1)])
   simp only [zaj,List.length_append,Nat.mul_succ]
   refine ⟨by omega,?_⟩
   rw [hm];unfold dl;split<;>decide
theorem z8m (n:Int):0<dl n:=by unfold dl;split<;>decide
def exF (n:Int) (key info:List UInt8) (size:Nat):List UInt8:=(zaj n key info ((size+dl n-1)/ dl n)).1.take size
theorem z4v {n:Int} (hn:n=256∨n=384) (key info:List UInt8) (size:Nat):(exF n key info size).length=size:=by
  unfold exF
  rw [List.length_take,(zlk hn key info _).1]
  have hp:=z8m n
  have h1:=Nat.div_add_mod (size+dl n-1) (dl n)
  have h2:=Nat.mod_lt (size+dl n-1) hp
  omega
end Go.Sym.Hk

namespace Go.Sym.Sha
open Go.Sym.Lp Go.Sym.Cha Go.Sym.Gcm Go.Sym.Hk
end Go.Sym.Sha
namespace Go.Sym.Sha
open Go.Sym.Lp Go.Sym.Cha Go.Sym.Gcm Go.Sym.Hk
end Go.Sym.Sha

namespace Go.Sym.Z
open Go Go.Proofs.Tryz Go.Sym.Lp Go.Sym.Cha Go.Sym.Sha Go.Sym.Hk Go.Sym.Gcm
set_option maxRecDepth 100000
attribute [local irreducible] zg6 zad zaf zfy zfh KC
end Go.Sym.Z

namespace Go.Sym.Z
open Go Go.Proofs.Tryz Go.Sym.Lp Go.Sym.Cha Go.Sym.Sha Go.Sym.Hk Go.Sym.Gcm
set_option maxRecDepth 100000
attribute [local irreducible] KC HB zgx xx zh8 zyd pdX kN
end Go.Sym.Z

namespace Go.Sym.Z
open Go Go.Proofs.Tryz Go.Sym.Lp Go.Sym.Cha Go.Sym.Sha Go.Sym.Hk Go.Sym.Gcm
set_option maxRecDepth 100000
attribute [local irreducible] KC HB zgx xx zh8 zyd pdX kN
end Go.Sym.Z
