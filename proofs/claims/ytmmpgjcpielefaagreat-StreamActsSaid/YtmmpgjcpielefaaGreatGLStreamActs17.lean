/-
  Contracts of functions of the program, each said of symbolic values, and plain laws; no condition beyond each statement's own.
-/
import Derived.Test.YtmmpgjcpielefaaGreatGLStreamActs16
import Derived.Test.YtmmpgjcpielefaaGreatGLStreamActs13
import Derived.Test.YtmmpgjcpielefaaGreatGLStreamActs15
set_option linter.unusedSimpArgs false
set_option linter.unusedVariables false
namespace Go.Sym.Z
open Go Go.Proofs.Tryz Go.Sym.Lp Go.Sym.Gcm Go.Sym.Aes
set_option maxRecDepth 100000
attribute [local irreducible] ldE yl hf4 zgm enc ks box zmo tmX tmA
def yl9:List (Nat×List PStep):= []
def yin:List (Nat×List PStep):= []
def yhu:List (Nat×List PStep):= []
def yi0:List (Nat×List PStep):= []
def zpq (x:Int) (s k:Nat):List UInt8:=(List.range s).map fun j=>if s≤j+k then UInt8.ofInt (x/ 2^(8*(s-1-j))) else 0
theorem zvs (x:Int) (s k:Nat):(zpq x s k).length=s:=zz _ _
theorem yf2 {x:Int} {s k:Nat} (h:k<s) {v:UInt8} (hv:v=UInt8.ofInt (x/ 2^(8*k))) {j:Nat} (hj:j=s-1-k):(zpq x s k).set j v=zpq x s (k+1):=by
  subst hv hj
  unfold zpq
  apply List.ext_getElem?
  intro i
  rw [List.getElem?_set]
  by_cases hi:s-1-k=i
  ·rw [if_pos hi,if_pos (by simp;omega),List.getElem?_map,List.getElem?_range (by omega),Option.map_some,if_pos (by omega),show s-1-i=k by omega]
  ·rw [if_neg hi,List.getElem?_map,List.getElem?_map]
   by_cases h2:i<s
   ·rw [List.getElem?_range h2,Option.map_some,Option.map_some]
    by_cases h3:s≤i+k
    ·rw [if_pos h3,if_pos (by omega)]
    ·rw [if_neg h3,if_neg (by omega)]
   ·rw [List.getElem?_eq_none (show (List.range s).length≤i by simp;omega)];rfl
theorem yad (x:Int) (s:Nat):zpq x s 0=List.replicate s 0:=by
  unfold zpq
  apply List.ext_getElem?
  intro i
  rw [List.getElem?_map,List.getElem?_replicate]
  by_cases h:i<s
  ·rw [List.getElem?_range h,if_pos h,Option.map_some,if_neg (by omega)]
  ·rw [List.getElem?_eq_none (by simp;omega),if_neg h];rfl
theorem yee (x:Int) (s:Nat):zpq x s s=beB x s:=by
  unfold zpq beB
  exact yo fun j hj=>if_pos (by omega)
def beS:Spec:=fun args hp K=>match args,hp with
  | [.int x,.int s],[]=>Pre (0≤x∧x<9223372036854775808∧0≤s∧s≤64) (K (.str (beB x s.toNat)) [])
  |_,_=>False
theorem zvg:zp prog 68 beS:=by
  refine zm y5 zi rfl func68 rfl call68 (D:=yl9) ?_ ?_
  ·intro args hp K h
   unfold beS at h
   split at h
   ·exact Nat.le_of_ble_eq_true rfl
   ·exact h.elim
  ·intro args hp K h
   unfold beS at h
   split at h
   ·rename_i x s
    obtain ⟨⟨hx,hx2,hs,hs2⟩,h⟩:=zq h
    obtain ⟨n,rfl⟩:=Int.eq_ofNat_of_zero_le hs
    rw [Int.toNat_natCast] at h
    have hnn:((n:Int)).toNat=n:=Int.toNat_natCast _
    refine za ?_
    refine zt (Ix (n)) (fun q=>⟨[(0,.int (x/ 2^(8*q.i))),(5,.sl 0 0 0 [] n n),(6,.int ((n:Int)-1-q.i))],[.mk 5 [.arr8 n (zpq x n q.i)]]⟩) (fun q=>(n)-q.i) ⟨0,Nat.zero_le _⟩ [0] ?_ ?_
    ·repeat ((conv=>whnf);refine zb ?_)
     conv=>whnf
     refine zv (congrArg (fun x=>SV.agg [SV.arr8 n x]) (yad x n).symm) ?_
     repeat ((conv=>whnf);refine zb ?_)
     conv=>whnf
     refine zv (congrArg SV.int (show x=x/ 2^(8*0) by rw [Nat.mul_zero,Int.pow_zero,Int.ediv_one])) ?_
     repeat ((conv=>whnf);refine zb ?_)
     conv=>whnf
     exact zo (congrArg SV.int (show (n:Int)-1=(n:Int)-1-((0:Nat):Int) by omega))
    ·intro q
     have hi:=q.hi
     have hl:=zvs x n q.i
     have hq0:0≤x/ 2^(8*q.i):=Int.ediv_nonneg hx (Int.le_of_lt (Int.pow_pos (by decide)))
     have hq1:x/ 2^(8*q.i)≤x:=Int.ediv_le_self _ hx
     have hI:((n:Int)-1-(q.i:Int)).toNat=n-1-q.i:=by omega
     by_cases h4:q.i<n
     ·refine za ?_
      conv=>whnf
      refine ⟨⟨q.i+1,h4⟩,[0],by show (n)-(q.i+1)<(n)-q.i;omega,?_⟩
      repeat ((conv=>whnf);refine zb ?_)
      conv=>whnf
      refine zv (congrArg (fun x=>SV.agg [SV.arr8 n x]) (yf2 h4 ?hv ?hj)) ?_
      case hj=>show ((n:Int)-1-(q.i:Int)).toNat=n-1-q.i;omega
      case hv=>exact Go.Sym.Ib.u8_255 hq0
      repeat ((conv=>whnf);refine zb ?_)
      conv=>whnf
      refine zv (congrArg SV.int (show x/ 2^(8*q.i)/ 2^8=x/ 2^(8*(q.i+1)) by rw [Int.ediv_ediv_of_nonneg (Int.le_of_lt (Int.pow_pos (by decide))),←Int.pow_add];rfl)) ?_
      repeat ((conv=>whnf);refine zb ?_)
      conv=>whnf
      exact zo (congrArg SV.int (show (n:Int)-1-(q.i:Int)-1=(n:Int)-1-((q.i+1:Nat):Int) by omega))
     ·have e4:q.i=n:=by omega
      rw [e4]
      have hbl:=zvs x n n
      have hp1:off []+n≤(zpq x n n).length:=by rw [hbl];show 0+_≤_;omega
      have hT:List.take n (List.drop (off []) (zpq x n n))=beB x n:=by rw [yee];exact List.take_of_length_le (Nat.le_of_eq (zam x n))
      refine za ?_
      refine yu (hp':= []) [] h ?_
      repeat ((conv=>whnf);refine zb ?_)
      conv=>whnf
      exact zo (congrArg SV.str hT)
   ·exact h.elim
def zti:Spec:=fun args hp K=>match args,hp with
  | [.str s],[]=>Pre (s.length=16) (K (.tup [.u64 (ld s).1,.u64 (ld s).2]) [])
  |_,_=>False
theorem z8n:zp prog 128 zti:=by
  refine zm y5 zi rfl func128 rfl call128 (D:=yin) ?_ ?_
  ·intro args hp K h
   unfold zti at h
   split at h
   ·exact Nat.le_of_ble_eq_true rfl
   ·exact h.elim
  ·intro args hp K h
   unfold zti at h
   split at h
   ·rename_i s
    obtain ⟨hs,h⟩:=zq h
    refine za ?_
    refine zt (Ix (8)) (fun q=>⟨[(0,.str s),(4,.u64 (ldE s q.i).1),(5,.u64 (ldE s q.i).2),(6,.int q.i)],[]⟩) (fun q=>(8)-q.i) ⟨0,Nat.zero_le _⟩ [] ?_ ?_
    ·repeat ((conv=>whnf);refine zb ?_)
     conv=>whnf
     refine zv (congrArg (fun e:El=>SV.u64 e.1) (show z0=ldE _ 0 by unfold ldE;rfl)) ?_
     repeat ((conv=>whnf);refine zb ?_)
     conv=>whnf
     exact zo (congrArg (fun e:El=>SV.u64 e.2) (show z0=ldE _ 0 by unfold ldE;rfl))
    ·intro q
     have hi:=q.hi
     have hI:((q.i:Int)).toNat=q.i:=Int.toNat_natCast _
     have hJ:((8:Int)+(q.i:Int)).toNat=8+q.i:=by omega
     by_cases h4:q.i<8
     ·refine za ?_
      refine ⟨⟨q.i+1,h4⟩,[],by show (8)-(q.i+1)<(8)-q.i;omega,?_⟩
      repeat ((conv=>whnf);refine zb ?_)
      conv=>whnf
      refine zv (congrArg SV.u64 (show _=(ldE s (q.i+1)).1 by simp only [ldE];rw [←hI];rfl)) ?_
      repeat ((conv=>whnf);refine zb ?_)
      conv=>whnf
      exact zo (congrArg SV.u64 (show _=(ldE s (q.i+1)).2 by simp only [ldE];rw [←hJ];rfl))
     ·have e4:q.i=8:=by omega
      have hL:ldE s 8=ld s:=by unfold ld;rfl
      rw [e4,hL]
      refine za ?_
      exact zf [] h
   ·exact h.elim
def zt4:Spec:=fun args hp K=>match args,hp with
  | [.u64 a,.u64 b],[]=>K (.str (wr (a,b))) []
  |_,_=>False
theorem z6d:zp prog 130 zt4:=by
  refine zm y5 zi rfl func130 rfl call130 (D:=yhu) ?_ ?_
  ·intro args hp K h
   unfold zt4 at h
   split at h
   ·exact Nat.le_of_ble_eq_true rfl
   ·exact h.elim
  ·intro args hp K h
   unfold zt4 at h
   split at h
   ·rename_i a b
    refine za ?_
    refine zt (Ix (8)) (fun q=>⟨[(0,.u64 (sr8 a q.i)),(1,.u64 (sr8 b q.i)),(5,.sl 0 0 0 [] 16 16),(6,.int (7-(q.i:Int)))],[.mk 5 [.arr8 16 (zmo (a,b) q.i)]]⟩) (fun q=>(8)-q.i) ⟨0,Nat.zero_le _⟩ [0] ?_ ?_
    ·repeat ((conv=>whnf);refine zb ?_)
     conv=>whnf
     exact zo (congrArg (fun x=>SV.agg [SV.arr8 16 x]) (show _=zmo (a,b) 0 by unfold zmo;rfl))
    ·intro q
     have hi:=q.hi
     have hl:=zw5 (a,b) q.i
     have hA:((7:Int)-(q.i:Int)).toNat=7-q.i:=by omega
     have hB:((8:Int)+((7:Int)-(q.i:Int))).toNat=15-q.i:=by omega
     by_cases h4:q.i<8
     ·refine za ?_
      conv=>whnf
      refine ⟨⟨q.i+1,h4⟩,[0],by show (8)-(q.i+1)<(8)-q.i;omega,?_⟩
      repeat ((conv=>whnf);refine zb ?_)
      conv=>whnf
      refine zv (congrArg (fun x=>SV.agg [SV.arr8 16 x]) (show _=zmo (a,b) (q.i+1) by simp only [zmo];rw [←hA,←hB];rfl)) ?_
      repeat ((conv=>whnf);refine zb ?_)
      conv=>whnf
      exact zo (congrArg SV.int (show (7:Int)-(q.i:Int)-1=7-((q.i+1:Nat):Int) by omega))
     ·have e4:q.i=8:=by omega
      rw [e4] at hl
      rw [e4]
      refine za ?_
      have hT:List.take 16 (List.drop (off []) (zmo (a,b) 8))=wr (a,b):=by rw [←yjs];exact List.take_of_length_le (Nat.le_of_eq hl)
      conv=>whnf
      refine yu (hp':= []) [] h ?_
      repeat ((conv=>whnf);refine zb ?_)
      conv=>whnf
      exact zo (congrArg SV.str hT)
   ·exact h.elim
theorem zkc {c d:UInt64} (h:d&&&1=1):yl (c,d)=(c>>>1^^^R64,d>>>1|||c<<<63):=by
  unfold yl msk
  rw [h]
  rfl
theorem zjp {c d:UInt64} (h: ¬d&&&1=1):yl (c,d)=(c>>>1,d>>>1|||c<<<63):=by
  have h0:d&&&1=0:=(ygm d).resolve_right h
  unfold yl msk
  rw [h0]
  show (c>>>1^^^(R64&&&(0-0)),_)=_
  rw [show R64&&&(0-0)=0 by decide,UInt64.xor_zero]
theorem zmc (a:UInt64) (i:Nat):tmA a (i+1)=tmA a i<<<1:=by rw [tmA]
theorem ydj {a c:El} {i:Nat} (h:zgl a i=1):tmX a c (i+1)=xr (tmX a c i) (Nat.repeat yl i c):=by rw [tmX,if_pos h]
theorem ydk {a c:El} {i:Nat} (h: ¬zgl a i=1):tmX a c (i+1)=tmX a c i:=by rw [tmX,if_neg h]
def zuj:Spec:=fun args hp K=>match args,hp with
  | [.u64 a,.u64 b,.u64 c,.u64 d],[]=>K (.tup [.u64 (zpv (c,d) (a,b)).1,.u64 (zpv (c,d) (a,b)).2]) []
  |_,_=>False
set_option maxHeartbeats 4000000 in
theorem z69:zp prog 129 zuj:=by
  refine zm y5 zi rfl func129 rfl call129 (D:=yi0) ?_ ?_
  ·intro args hp K h
   unfold zuj at h
   split at h
   ·exact Nat.le_of_ble_eq_true rfl
   ·exact h.elim
  ·intro args hp K h
   unfold zuj at h
   split at h
   ·rename_i a b c d
    rw [←yd1] at h
    refine za ?_
    refine zt (Ix (128)) (fun q=>⟨[(0,.u64 (tmA a (min q.i 64))),(1,.u64 (tmA b (q.i-64))),(2,.u64 (Nat.repeat yl q.i (c,d)).1),(3,.u64 (Nat.repeat yl q.i (c,d)).2),(10,.u64 (tmX (a,b) (c,d) q.i).1),(11,.u64 (tmX (a,b) (c,d) q.i).2),(12,.int q.i)],[]⟩) (fun q=>(128)-q.i) ⟨0,Nat.zero_le _⟩ [] ?_ ?_
    ·repeat ((conv=>whnf);refine zb ?_)
     conv=>whnf
     refine zv (congrArg SV.u64 (show a=tmA a (min 0 64) by rw [Nat.zero_min];unfold tmA;rfl)) ?_
     repeat ((conv=>whnf);refine zb ?_)
     conv=>whnf
     refine zv (congrArg SV.u64 (show b=tmA b (0-64) by rw [Nat.zero_sub];unfold tmA;rfl)) ?_
     repeat ((conv=>whnf);refine zb ?_)
     conv=>whnf
     refine zv (congrArg (fun e:El=>SV.u64 e.1) (show z0=tmX (a,b) (c,d) 0 by unfold tmX;rfl)) ?_
     repeat ((conv=>whnf);refine zb ?_)
     conv=>whnf
     exact zo (congrArg (fun e:El=>SV.u64 e.2) (show z0=tmX (a,b) (c,d) 0 by unfold tmX;rfl))
    ·intro q
     have hi:=q.hi
     have hrep:Nat.repeat yl (q.i+1) (c,d)=yl ((Nat.repeat yl q.i (c,d)).1,(Nat.repeat yl q.i (c,d)).2):=rfl
     by_cases h4:q.i<128
     ·by_cases h63:63<q.i
      ·have hbt:zgl (a,b) q.i=tmA b (q.i-64)>>>UInt64.ofNat (UInt64.ofNat 63).toNat:=by unfold zgl;rw [if_pos h63];rfl
       by_cases hb:zgl (a,b) q.i=1
       ·have hdb:decide (tmA b (q.i-64)>>>UInt64.ofNat (UInt64.ofNat 63).toNat=UInt64.ofNat 1)=true:=decide_eq_true (by rw [←hbt];exact hb)
        have hX:=ydj (c:=(c,d)) hb
        by_cases hw:(Nat.repeat yl q.i (c,d)).2&&&1=1
        ·have hdl:decide ((Nat.repeat yl q.i (c,d)).2&&&UInt64.ofNat 1=UInt64.ofNat 1)=true:=decide_eq_true hw
         have hH:=zkc (c:=(Nat.repeat yl q.i (c,d)).1) hw
         rw [←hrep] at hH
         repeat ((conv=>whnf);first|refine zu ?_|refine zg ?_|refine zh ?_|refine zb ?_|refine zr (by first|exact hdb|exact hdl) ?_|refine zj (by first|exact hdb|exact hdl) ?_|refine zk (by first|exact hdb|exact hdl) ?_)
         conv=>whnf
         conv=>whnf
         refine ⟨⟨q.i+1,h4⟩,[],by show (128)-(q.i+1)<(128)-q.i;omega,?_⟩
         repeat ((conv=>whnf);refine zb ?_)
         conv=>whnf
         refine zv (congrArg SV.u64 (show tmA a (min q.i 64)=tmA a (min (q.i+1) 64) by rw [show min q.i 64=min (q.i+1) 64 by omega])) ?_
         repeat ((conv=>whnf);refine zb ?_)
         conv=>whnf
         refine zv (congrArg SV.u64 (show tmA b (q.i-64)<<<1=tmA b (q.i+1-64) by rw [show q.i+1-64=(q.i-64)+1 by omega];exact (zmc b _).symm)) ?_
         repeat ((conv=>whnf);refine zb ?_)
         conv=>whnf
         refine zv (congrArg SV.u64 (show _=(Nat.repeat yl (q.i+1) (c,d)).1 by rw [hH]<;>rfl)) ?_
         repeat ((conv=>whnf);refine zb ?_)
         conv=>whnf
         refine zv (congrArg SV.u64 (show _=(Nat.repeat yl (q.i+1) (c,d)).2 by rw [hH]<;>rfl)) ?_
         repeat ((conv=>whnf);refine zb ?_)
         conv=>whnf
         refine zv (congrArg SV.u64 (show _=(tmX (a,b) (c,d) (q.i+1)).1 by rw [hX]<;>rfl)) ?_
         repeat ((conv=>whnf);refine zb ?_)
         conv=>whnf
         exact zo (congrArg SV.u64 (show _=(tmX (a,b) (c,d) (q.i+1)).2 by rw [hX]<;>rfl))
        ·have hdl:decide ((Nat.repeat yl q.i (c,d)).2&&&UInt64.ofNat 1=UInt64.ofNat 1)=false:=decide_eq_false hw
         have hH:=zjp (c:=(Nat.repeat yl q.i (c,d)).1) hw
         rw [←hrep] at hH
         repeat ((conv=>whnf);first|refine zu ?_|refine zg ?_|refine zh ?_|refine zb ?_|refine zr (by first|exact hdb|exact hdl) ?_|refine zj (by first|exact hdb|exact hdl) ?_|refine zk (by first|exact hdb|exact hdl) ?_)
         conv=>whnf
         conv=>whnf
         refine ⟨⟨q.i+1,h4⟩,[],by show (128)-(q.i+1)<(128)-q.i;omega,?_⟩
         repeat ((conv=>whnf);refine zb ?_)
         conv=>whnf
         refine zv (congrArg SV.u64 (show tmA a (min q.i 64)=tmA a (min (q.i+1) 64) by rw [show min q.i 64=min (q.i+1) 64 by omega])) ?_
         repeat ((conv=>whnf);refine zb ?_)
         conv=>whnf
         refine zv (congrArg SV.u64 (show tmA b (q.i-64)<<<1=tmA b (q.i+1-64) by rw [show q.i+1-64=(q.i-64)+1 by omega];exact (zmc b _).symm)) ?_
         repeat ((conv=>whnf);refine zb ?_)
         conv=>whnf
         refine zv (congrArg SV.u64 (show _=(Nat.repeat yl (q.i+1) (c,d)).1 by rw [hH]<;>rfl)) ?_
         repeat ((conv=>whnf);refine zb ?_)
         conv=>whnf
         refine zv (congrArg SV.u64 (show _=(Nat.repeat yl (q.i+1) (c,d)).2 by rw [hH]<;>rfl)) ?_
         repeat ((conv=>whnf);refine zb ?_)
         conv=>whnf
         refine zv (congrArg SV.u64 (show _=(tmX (a,b) (c,d) (q.i+1)).1 by rw [hX]<;>rfl)) ?_
         repeat ((conv=>whnf);refine zb ?_)
         conv=>whnf
         exact zo (congrArg SV.u64 (show _=(tmX (a,b) (c,d) (q.i+1)).2 by rw [hX]<;>rfl))
       ·have hdb:decide (tmA b (q.i-64)>>>UInt64.ofNat (UInt64.ofNat 63).toNat=UInt64.ofNat 1)=false:=decide_eq_false (by rw [←hbt];exact hb)
        have hX:=ydk (c:=(c,d)) hb
        by_cases hw:(Nat.repeat yl q.i (c,d)).2&&&1=1
        ·have hdl:decide ((Nat.repeat yl q.i (c,d)).2&&&UInt64.ofNat 1=UInt64.ofNat 1)=true:=decide_eq_true hw
         have hH:=zkc (c:=(Nat.repeat yl q.i (c,d)).1) hw
         rw [←hrep] at hH
         repeat ((conv=>whnf);first|refine zu ?_|refine zg ?_|refine zh ?_|refine zb ?_|refine zr (by first|exact hdb|exact hdl) ?_|refine zj (by first|exact hdb|exact hdl) ?_|refine zk (by first|exact hdb|exact hdl) ?_)
         conv=>whnf
         conv=>whnf
         refine ⟨⟨q.i+1,h4⟩,[],by show (128)-(q.i+1)<(128)-q.i;omega,?_⟩
         repeat ((conv=>whnf);refine zb ?_)
         conv=>whnf
         refine zv (congrArg SV.u64 (show tmA a (min q.i 64)=tmA a (min (q.i+1) 64) by rw [show min q.i 64=min (q.i+1) 64 by omega])) ?_
         repeat ((conv=>whnf);refine zb ?_)
         conv=>whnf
         refine zv (congrArg SV.u64 (show tmA b (q.i-64)<<<1=tmA b (q.i+1-64) by rw [show q.i+1-64=(q.i-64)+1 by omega];exact (zmc b _).symm)) ?_
         repeat ((conv=>whnf);refine zb ?_)
         conv=>whnf
         refine zv (congrArg SV.u64 (show _=(Nat.repeat yl (q.i+1) (c,d)).1 by rw [hH]<;>rfl)) ?_
         repeat ((conv=>whnf);refine zb ?_)
         conv=>whnf
         refine zv (congrArg SV.u64 (show _=(Nat.repeat yl (q.i+1) (c,d)).2 by rw [hH]<;>rfl)) ?_
         repeat ((conv=>whnf);refine zb ?_)
         conv=>whnf
         refine zv (congrArg SV.u64 (show _=(tmX (a,b) (c,d) (q.i+1)).1 by rw [hX]<;>rfl)) ?_
         repeat ((conv=>whnf);refine zb ?_)
         conv=>whnf
         exact zo (congrArg SV.u64 (show _=(tmX (a,b) (c,d) (q.i+1)).2 by rw [hX]<;>rfl))
        ·have hdl:decide ((Nat.repeat yl q.i (c,d)).2&&&UInt64.ofNat 1=UInt64.ofNat 1)=false:=decide_eq_false hw
         have hH:=zjp (c:=(Nat.repeat yl q.i (c,d)).1) hw
         rw [←hrep] at hH
         repeat ((conv=>whnf);first|refine zu ?_|refine zg ?_|refine zh ?_|refine zb ?_|refine zr (by first|exact hdb|exact hdl) ?_|refine zj (by first|exact hdb|exact hdl) ?_|refine zk (by first|exact hdb|exact hdl) ?_)
         conv=>whnf
         conv=>whnf
         refine ⟨⟨q.i+1,h4⟩,[],by show (128)-(q.i+1)<(128)-q.i;omega,?_⟩
         repeat ((conv=>whnf);refine zb ?_)
         conv=>whnf
         refine zv (congrArg SV.u64 (show tmA a (min q.i 64)=tmA a (min (q.i+1) 64) by rw [show min q.i 64=min (q.i+1) 64 by omega])) ?_
         repeat ((conv=>whnf);refine zb ?_)
         conv=>whnf
         refine zv (congrArg SV.u64 (show tmA b (q.i-64)<<<1=tmA b (q.i+1-64) by rw [show q.i+1-64=(q.i-64)+1 by omega];exact (zmc b _).symm)) ?_
         repeat ((conv=>whnf);refine zb ?_)
         conv=>whnf
         refine zv (congrArg SV.u64 (show _=(Nat.repeat yl (q.i+1) (c,d)).1 by rw [hH]<;>rfl)) ?_
         repeat ((conv=>whnf);refine zb ?_)
         conv=>whnf
         refine zv (congrArg SV.u64 (show _=(Nat.repeat yl (q.i+1) (c,d)).2 by rw [hH]<;>rfl)) ?_
         repeat ((conv=>whnf);refine zb ?_)
         conv=>whnf
         refine zv (congrArg SV.u64 (show _=(tmX (a,b) (c,d) (q.i+1)).1 by rw [hX]<;>rfl)) ?_
         repeat ((conv=>whnf);refine zb ?_)
         conv=>whnf
         exact zo (congrArg SV.u64 (show _=(tmX (a,b) (c,d) (q.i+1)).2 by rw [hX]<;>rfl))
      ·have hbt:zgl (a,b) q.i=tmA a (min q.i 64)>>>UInt64.ofNat (UInt64.ofNat 63).toNat:=by unfold zgl;rw [if_neg h63,show min q.i 64=q.i by omega];rfl
       by_cases hb:zgl (a,b) q.i=1
       ·have hdb:decide (tmA a (min q.i 64)>>>UInt64.ofNat (UInt64.ofNat 63).toNat=UInt64.ofNat 1)=true:=decide_eq_true (by rw [←hbt];exact hb)
        have hX:=ydj (c:=(c,d)) hb
        by_cases hw:(Nat.repeat yl q.i (c,d)).2&&&1=1
        ·have hdl:decide ((Nat.repeat yl q.i (c,d)).2&&&UInt64.ofNat 1=UInt64.ofNat 1)=true:=decide_eq_true hw
         have hH:=zkc (c:=(Nat.repeat yl q.i (c,d)).1) hw
         rw [←hrep] at hH
         repeat ((conv=>whnf);first|refine zu ?_|refine zg ?_|refine zh ?_|refine zb ?_|refine zr (by first|exact hdb|exact hdl) ?_|refine zj (by first|exact hdb|exact hdl) ?_|refine zk (by first|exact hdb|exact hdl) ?_)
         conv=>whnf
         conv=>whnf
         refine ⟨⟨q.i+1,h4⟩,[],by show (128)-(q.i+1)<(128)-q.i;omega,?_⟩
         repeat ((conv=>whnf);refine zb ?_)
         conv=>whnf
         refine zv (congrArg SV.u64 (show tmA a (min q.i 64)<<<1=tmA a (min (q.i+1) 64) by rw [show min (q.i+1) 64=min q.i 64+1 by omega];exact (zmc a _).symm)) ?_
         repeat ((conv=>whnf);refine zb ?_)
         conv=>whnf
         refine zv (congrArg SV.u64 (show tmA b (q.i-64)=tmA b (q.i+1-64) by rw [show q.i+1-64=q.i-64 by omega])) ?_
         repeat ((conv=>whnf);refine zb ?_)
         conv=>whnf
         refine zv (congrArg SV.u64 (show _=(Nat.repeat yl (q.i+1) (c,d)).1 by rw [hH]<;>rfl)) ?_
         repeat ((conv=>whnf);refine zb ?_)
         conv=>whnf
         refine zv (congrArg SV.u64 (show _=(Nat.repeat yl (q.i+1) (c,d)).2 by rw [hH]<;>rfl)) ?_
         repeat ((conv=>whnf);refine zb ?_)
         conv=>whnf
         refine zv (congrArg SV.u64 (show _=(tmX (a,b) (c,d) (q.i+1)).1 by rw [hX]<;>rfl)) ?_
         repeat ((conv=>whnf);refine zb ?_)
         conv=>whnf
         exact zo (congrArg SV.u64 (show _=(tmX (a,b) (c,d) (q.i+1)).2 by rw [hX]<;>rfl))
        ·have hdl:decide ((Nat.repeat yl q.i (c,d)).2&&&UInt64.ofNat 1=UInt64.ofNat 1)=false:=decide_eq_false hw
         have hH:=zjp (c:=(Nat.repeat yl q.i (c,d)).1) hw
         rw [←hrep] at hH
         repeat ((conv=>whnf);first|refine zu ?_|refine zg ?_|refine zh ?_|refine zb ?_|refine zr (by first|exact hdb|exact hdl) ?_|refine zj (by first|exact hdb|exact hdl) ?_|refine zk (by first|exact hdb|exact hdl) ?_)
         conv=>whnf
         conv=>whnf
         refine ⟨⟨q.i+1,h4⟩,[],by show (128)-(q.i+1)<(128)-q.i;omega,?_⟩
         repeat ((conv=>whnf);refine zb ?_)
         conv=>whnf
         refine zv (congrArg SV.u64 (show tmA a (min q.i 64)<<<1=tmA a (min (q.i+1) 64) by rw [show min (q.i+1) 64=min q.i 64+1 by omega];exact (zmc a _).symm)) ?_
         repeat ((conv=>whnf);refine zb ?_)
         conv=>whnf
         refine zv (congrArg SV.u64 (show tmA b (q.i-64)=tmA b (q.i+1-64) by rw [show q.i+1-64=q.i-64 by omega])) ?_
         repeat ((conv=>whnf);refine zb ?_)
         conv=>whnf
         refine zv (congrArg SV.u64 (show _=(Nat.repeat yl (q.i+1) (c,d)).1 by rw [hH]<;>rfl)) ?_
         repeat ((conv=>whnf);refine zb ?_)
         conv=>whnf
         refine zv (congrArg SV.u64 (show _=(Nat.repeat yl (q.i+1) (c,d)).2 by rw [hH]<;>rfl)) ?_
         repeat ((conv=>whnf);refine zb ?_)
         conv=>whnf
         refine zv (congrArg SV.u64 (show _=(tmX (a,b) (c,d) (q.i+1)).1 by rw [hX]<;>rfl)) ?_
         repeat ((conv=>whnf);refine zb ?_)
         conv=>whnf
         exact zo (congrArg SV.u64 (show _=(tmX (a,b) (c,d) (q.i+1)).2 by rw [hX]<;>rfl))
       ·have hdb:decide (tmA a (min q.i 64)>>>UInt64.ofNat (UInt64.ofNat 63).toNat=UInt64.ofNat 1)=false:=decide_eq_false (by rw [←hbt];exact hb)
        have hX:=ydk (c:=(c,d)) hb
        by_cases hw:(Nat.repeat yl q.i (c,d)).2&&&1=1
        ·have hdl:decide ((Nat.repeat yl q.i (c,d)).2&&&UInt64.ofNat 1=UInt64.ofNat 1)=true:=decide_eq_true hw
         have hH:=zkc (c:=(Nat.repeat yl q.i (c,d)).1) hw
         rw [←hrep] at hH
         repeat ((conv=>whnf);first|refine zu ?_|refine zg ?_|refine zh ?_|refine zb ?_|refine zr (by first|exact hdb|exact hdl) ?_|refine zj (by first|exact hdb|exact hdl) ?_|refine zk (by first|exact hdb|exact hdl) ?_)
         conv=>whnf
         conv=>whnf
         refine ⟨⟨q.i+1,h4⟩,[],by show (128)-(q.i+1)<(128)-q.i;omega,?_⟩
         repeat ((conv=>whnf);refine zb ?_)
         conv=>whnf
         refine zv (congrArg SV.u64 (show tmA a (min q.i 64)<<<1=tmA a (min (q.i+1) 64) by rw [show min (q.i+1) 64=min q.i 64+1 by omega];exact (zmc a _).symm)) ?_
         repeat ((conv=>whnf);refine zb ?_)
         conv=>whnf
         refine zv (congrArg SV.u64 (show tmA b (q.i-64)=tmA b (q.i+1-64) by rw [show q.i+1-64=q.i-64 by omega])) ?_
         repeat ((conv=>whnf);refine zb ?_)
         conv=>whnf
         refine zv (congrArg SV.u64 (show _=(Nat.repeat yl (q.i+1) (c,d)).1 by rw [hH]<;>rfl)) ?_
         repeat ((conv=>whnf);refine zb ?_)
         conv=>whnf
         refine zv (congrArg SV.u64 (show _=(Nat.repeat yl (q.i+1) (c,d)).2 by rw [hH]<;>rfl)) ?_
         repeat ((conv=>whnf);refine zb ?_)
         conv=>whnf
         refine zv (congrArg SV.u64 (show _=(tmX (a,b) (c,d) (q.i+1)).1 by rw [hX]<;>rfl)) ?_
         repeat ((conv=>whnf);refine zb ?_)
         conv=>whnf
         exact zo (congrArg SV.u64 (show _=(tmX (a,b) (c,d) (q.i+1)).2 by rw [hX]<;>rfl))
        ·have hdl:decide ((Nat.repeat yl q.i (c,d)).2&&&UInt64.ofNat 1=UInt64.ofNat 1)=false:=decide_eq_false hw
         have hH:=zjp (c:=(Nat.repeat yl q.i (c,d)).1) hw
         rw [←hrep] at hH
         repeat ((conv=>whnf);first|refine zu ?_|refine zg ?_|refine zh ?_|refine zb ?_|refine zr (by first|exact hdb|exact hdl) ?_|refine zj (by first|exact hdb|exact hdl) ?_|refine zk (by first|exact hdb|exact hdl) ?_)
         conv=>whnf
         conv=>whnf
         refine ⟨⟨q.i+1,h4⟩,[],by show (128)-(q.i+1)<(128)-q.i;omega,?_⟩
         repeat ((conv=>whnf);refine zb ?_)
         conv=>whnf
         refine zv (congrArg SV.u64 (show tmA a (min q.i 64)<<<1=tmA a (min (q.i+1) 64) by rw [show min (q.i+1) 64=min q.i 64+1 by omega];exact (zmc a _).symm)) ?_
         repeat ((conv=>whnf);refine zb ?_)
         conv=>whnf
         refine zv (congrArg SV.u64 (show tmA b (q.i-64)=tmA b (q.i+1-64) by rw [show q.i+1-64=q.i-64 by omega])) ?_
         repeat ((conv=>whnf);refine zb ?_)
         conv=>whnf
         refine zv (congrArg SV.u64 (show _=(Nat.repeat yl (q.i+1) (c,d)).1 by rw [hH]<;>rfl)) ?_
         repeat ((conv=>whnf);refine zb ?_)
         conv=>whnf
         refine zv (congrArg SV.u64 (show _=(Nat.repeat yl (q.i+1) (c,d)).2 by rw [hH]<;>rfl)) ?_
         repeat ((conv=>whnf);refine zb ?_)
         conv=>whnf
         refine zv (congrArg SV.u64 (show _=(tmX (a,b) (c,d) (q.i+1)).1 by rw [hX]<;>rfl)) ?_
         repeat ((conv=>whnf);refine zb ?_)
         conv=>whnf
         exact zo (congrArg SV.u64 (show _=(tmX (a,b) (c,d) (q.i+1)).2 by rw [hX]<;>rfl))
     ·have e4:q.i=128:=by omega
      rw [e4]
      refine za ?_
      exact zf [] h
   ·exact h.elim
end Go.Sym.Z

namespace Go.Sym.Cha
open Go.Sym.Lp
def zhe (x:UInt32) (n:Nat):UInt32:=x<<<UInt32.ofNat n|||x>>>UInt32.ofNat (32-n)
def g32 (x:List UInt32) (i:Nat):UInt32:=x.getD i 0
def qs (x:List UInt32) (a b d n:Nat):List UInt32:=
  let y:=x.set a (g32 x a+g32 x b)
  y.set d (zhe (g32 y d^^^g32 y a) n)
def qr (x:List UInt32) (a b c d:Nat):List UInt32:=qs (qs (qs (qs x a b d 16) c d b 12) a b d 8) c d b 7
theorem ygr (x:List UInt32) (a b d n:Nat):(qs x a b d n).length=x.length:=by unfold qs;simp
theorem z48 (x:List UInt32) (a b c d:Nat):(qr x a b c d).length=x.length:=by unfold qr;simp [ygr]
def zil (x:List UInt32):Nat→List UInt32
  |0=>x
  |i+1=>qr (zil x i) i (4+i) (8+i) (12+i)
def zie (x:List UInt32):Nat→List UInt32
  |0=>x
  |i+1=>qr (zie x i) i (4+(i+1)%4) (8+(i+2)%4) (12+(i+3)%4)
def zia (x:List UInt32):Nat→List UInt32
  |0=>x
  |r+1=>zie (zil (zia x r) 4) 4
theorem zhj (x:List UInt32): ∀i,(zil x i).length=x.length
  |0=>rfl
  |i+1=>by simp only [zil,z48];exact zhj x i
theorem zhm (x:List UInt32): ∀i,(zie x i).length=x.length
  |0=>rfl
  |i+1=>by simp only [zie,z48];exact zhm x i
theorem zql (x:List UInt32): ∀r,(zia x r).length=x.length
  |0=>rfl
  |r+1=>by simp only [zia,zhm,zhj];exact zql x r
def outG (x:List UInt32) (i:Nat):UInt8:=((g32 x (i/ 4)+g32 (zia x 10) (i/ 4))>>>UInt32.ofNat (8*(i%4))).toUInt8
def zph (x:List UInt32):List UInt8:=(List.range 64).map (outG x)
theorem zg6 (x:List UInt32):(zph x).length=64:=zz _ _
def wd (s:List UInt8) (a:Nat):UInt32:=(s.getD a 0).toUInt32|||(s.getD (a+1) 0).toUInt32<<<8|||(s.getD (a+2) 0).toUInt32<<<16|||(s.getD (a+3) 0).toUInt32<<<24
def yhk (key nonce:List UInt8) (n:UInt32) (i:Nat):UInt32:=
  if i=0 then 1634760805 else if i=1 then 857760878 else if i=2 then 2036477234 else if i=3 then 1797285236 else if i<12 then wd key (4*(i-4)) else if i=12 then n else wd nonce (4*(i-13))
def beg (key nonce:List UInt8) (n:UInt32):List UInt32:=(List.range 16).map (yhk key nonce n)
theorem zm2 (key nonce:List UInt8) (n:UInt32):(beg key nonce n).length=16:=zz _ _
def blk (key nonce:List UInt8) (n:UInt32):List UInt8:=zph (beg key nonce n)
theorem zfq (key nonce:List UInt8) (n:UInt32):(blk key nonce n).length=64:=zg6 _
def ze2 (key nonce:List UInt8) (n:UInt32) (s:List UInt8) (i:Nat):UInt8:=s.getD i 0^^^(blk key nonce (n+UInt32.ofNat (i/ 64))).getD (i%64) 0
def xt (key nonce:List UInt8) (n:UInt32) (s:List UInt8):List UInt8:=(List.range s.length).map (ze2 key nonce n s)
theorem zjo (key nonce:List UInt8) (n:UInt32) (s:List UInt8):(xt key nonce n s).length=s.length:=zz _ _
theorem z5r {key nonce:List UInt8} {n:UInt32} {x:List UInt32} (h:x.length=16) (h0:x.getD 0 0=1634760805) (h1:x.getD 1 0=857760878) (h2:x.getD 2 0=2036477234) (h3:x.getD 3 0=1797285236):
    ovr ((ovr x 4 (fun i=>wd key (4*i)) 8).set 12 n) 13 (fun i=>wd nonce (4*i)) 3=beg key nonce n:=by
  have l1:=yg (l:=x) (a:=4) (i:=8) (by omega) (fun i=>wd key (4*i))
  have l2:((ovr x 4 (fun i=>wd key (4*i)) 8).set 12 n).length=16:=by rw [List.length_set,l1,h]
  have l3:=yg (l:=(ovr x 4 (fun i=>wd key (4*i)) 8).set 12 n) (a:=13) (i:=3) (by omega) (fun i=>wd nonce (4*i))
  unfold beg
  apply List.ext_getElem?
  intro j
  by_cases hj:j<16
  ·rw [List.getElem?_map,List.getElem?_range hj,Option.map_some,zdd (by omega),List.getElem?_set,zdd (by omega)]
   have g: ∀k v,k<16→x.getD k 0=v→x[k]?=some v:=fun k v hk hv=>by
     rw [List.getD_eq_getElem?_getD,List.getElem?_eq_getElem (by omega)] at hv
     rw [List.getElem?_eq_getElem (by omega)]
     exact congrArg some hv
   unfold yhk
   by_cases a0:j=0
   ·subst a0;rw [if_neg (by omega),if_neg (by omega),if_neg (by omega),if_pos rfl];exact g 0 _ (by omega) h0
   by_cases a1:j=1
   ·subst a1;rw [if_neg (by omega),if_neg (by omega),if_neg (by omega),if_neg (by omega),if_pos rfl];exact g 1 _ (by omega) h1
   by_cases a2:j=2
   ·subst a2;rw [if_neg (by omega),if_neg (by omega),if_neg (by omega),if_neg (by omega),if_neg (by omega),if_pos rfl];exact g 2 _ (by omega) h2
   by_cases a3:j=3
   ·subst a3;rw [if_neg (by omega),if_neg (by omega),if_neg (by omega),if_neg (by omega),if_neg (by omega),if_neg (by omega),if_pos rfl];exact g 3 _ (by omega) h3
   rw [if_neg a0,if_neg a1,if_neg a2,if_neg a3]
   by_cases a4:j<12
   ·rw [if_neg (by omega),if_neg (by omega),if_pos (by omega),if_pos a4]
   by_cases a5:j=12
   ·subst a5;rw [if_neg (by omega),if_pos rfl,if_pos (by rw [l1];omega),if_neg (by omega),if_pos rfl]
   ·rw [if_pos (by omega),if_neg a4,if_neg a5]
  ·rw [List.getElem?_eq_none (by omega),List.getElem?_eq_none (by simp;omega)]
end Go.Sym.Cha
namespace Go.Sym.Cha
open Go.Sym.Lp
def c0:List UInt32:=1634760805 ::857760878 ::2036477234 ::1797285236 ::List.replicate 12 0
theorem z7s:c0.length=16:=rfl
theorem z57 (key nonce:List UInt8) (n:UInt32):ovr ((ovr c0 4 (fun i=>wd key (4*i)) 8).set 12 n) 13 (fun i=>wd nonce (4*i)) 3=beg key nonce n:=z5r rfl rfl rfl rfl rfl
theorem z1a (s:List UInt8) (a:Nat):wd (s.drop a) 0=wd s a:=by
  have g: ∀j,(s.drop a).getD j 0=s.getD (a+j) 0:=fun j=>by rw [List.getD_eq_getElem?_getD,List.getElem?_drop,List.getD_eq_getElem?_getD]
  unfold wd
  rw [g,g,g,g];rfl
end Go.Sym.Cha
namespace Go.Sym.Cha
open Go.Sym.Lp
def zlb (key nonce:List UInt8) (n:UInt32) (l:List UInt8) (k:Nat):List UInt8:=ovr l 0 (ze2 key nonce n l) k
theorem z4f {key nonce:List UInt8} {n:UInt32} {l:List UInt8} {k:Nat} (h:k≤l.length):zlb key nonce n l k=xt key nonce n (l.take k)++l.drop k:=by
  unfold zlb ovr xt
  rw [List.take_zero,List.nil_append,Nat.zero_add,List.length_take,Nat.min_eq_left h]
  congr 1
  refine yo fun i hi=>?_
  have e:(l.take k).getD i 0=l.getD i 0:=by rw [List.getD_eq_getElem?_getD,List.getElem?_take_of_lt hi,←List.getD_eq_getElem?_getD]
  unfold ze2
  rw [e]
theorem u32_add (c:UInt32) (t:Nat):c+UInt32.ofNat t+1=c+UInt32.ofNat (t+1):=by
  rw [UInt32.add_assoc];congr 1
  rw [UInt32.ofNat_add];rfl
end Go.Sym.Cha
namespace Go.Sym.Cha
theorem ymq (x:UInt32):(x&&&UInt32.ofNat 255).toUInt8=x.toUInt8:=by
  apply UInt8.toNat_inj.1
  rw [UInt32.toNat_toUInt8,UInt32.toNat_toUInt8,UInt32.toNat_and,show (UInt32.ofNat 255).toNat=2^8-1 by decide,Nat.and_two_pow_sub_one_eq_mod]
  omega
end Go.Sym.Cha

namespace Go.Sym.Sha
open Go.Sym.Lp Go.Sym.Cha
def zlt (x:UInt64) (n:Nat):UInt64:=x<<<UInt64.ofNat n|||x>>>UInt64.ofNat (64-n)
def g64 (x:List UInt64) (i:Nat):UInt64:=x.getD i 0
def zcf (b:List UInt8):Nat→UInt64
  |0=>0
  |i+1=>zcf b i<<<8|||(b.getD i 0).toUInt64
def num (b:List UInt8):UInt64:=zcf b b.length
def s0 (x:UInt32):UInt32:=zhe x 25^^^zhe x 14^^^x>>>3
def s1 (y:UInt32):UInt32:=zhe y 15^^^zhe y 13^^^y>>>10
def xa (b:List UInt8):Nat→List UInt32
  |0=>List.replicate 64 0
  |i+1=>(xa b i).set i (if i<16 then (num ((b.drop (4*i)).take 4)).toUInt32 else
    g32 (xa b i) (i-16)+g32 (xa b i) (i-7)+s0 (g32 (xa b i) (i-15))+s1 (g32 (xa b i) (i-2)))
theorem zh2 (b:List UInt8): ∀i,(xa b i).length=64
  |0=>rfl
  |i+1=>by simp only [xa,List.length_set];exact zh2 b i
theorem z95 {b:List UInt8} {i:Nat} (h:i<16):xa b (i+1)=(xa b i).set i (num ((b.drop (4*i)).take 4)).toUInt32:=by simp only [xa];rw [if_pos h]
theorem z7y {b:List UInt8} {i:Nat} (h: ¬i<16):xa b (i+1)=(xa b i).set i (g32 (xa b i) (i-16)+g32 (xa b i) (i-7)+s0 (g32 (xa b i) (i-15))+s1 (g32 (xa b i) (i-2))):=by simp only [xa];rw [if_neg h]
def z43 (s:List UInt32) (k w:UInt32):List UInt32:=
  let e:=g32 s 4;let a:=g32 s 0
  let t:=g32 s 7+(zhe e 26^^^zhe e 21^^^zhe e 7)+(e&&&g32 s 5^^^ ~~~e&&&g32 s 6)+k+w
  let u:=(zhe a 30^^^zhe a 19^^^zhe a 10)+(a&&&g32 s 1^^^a&&&g32 s 2^^^g32 s 1&&&g32 s 2)
  [t+u,g32 s 0,g32 s 1,g32 s 2,g32 s 3+t,g32 s 4,g32 s 5,g32 s 6]
def zck (k:List UInt64) (w s:List UInt32):Nat→List UInt32
  |0=>s
  |i+1=>z43 (zck k w s i) (g64 k i>>>32).toUInt32 (g32 w i)
theorem zrd {k:List UInt64} {w s:List UInt32} (h:s.length=8): ∀i,(zck k w s i).length=8
  |0=>h
  |_+1=>rfl
def zkr (k h:List UInt64) (b:List UInt8):List UInt64:=
  (List.range 8).map fun i=>((g64 h i).toUInt32+g32 (zck k (xa b 64) ((List.range 8).map fun i=>(g64 h i).toUInt32) 64) i).toUInt64
theorem z3z (k h:List UInt64) (b:List UInt8):(zkr k h b).length=8:=zz _ _
def z0 (x:UInt64):UInt64:=zlt x 63^^^zlt x 56^^^x>>>7
def z1 (y:UInt64):UInt64:=zlt y 45^^^zlt y 3^^^y>>>6
def y9 (b:List UInt8):Nat→List UInt64
  |0=>List.replicate 80 0
  |i+1=>(y9 b i).set i (if i<16 then num ((b.drop (8*i)).take 8) else
    g64 (y9 b i) (i-16)+g64 (y9 b i) (i-7)+z0 (g64 (y9 b i) (i-15))+z1 (g64 (y9 b i) (i-2)))
theorem zh0 (b:List UInt8): ∀i,(y9 b i).length=80
  |0=>rfl
  |i+1=>by simp only [y9,List.length_set];exact zh0 b i
theorem zxs {b:List UInt8} {i:Nat} (h:i<16):y9 b (i+1)=(y9 b i).set i (num ((b.drop (8*i)).take 8)):=by simp only [y9];rw [if_pos h]
theorem zxo {b:List UInt8} {i:Nat} (h: ¬i<16):y9 b (i+1)=(y9 b i).set i (g64 (y9 b i) (i-16)+g64 (y9 b i) (i-7)+z0 (g64 (y9 b i) (i-15))+z1 (g64 (y9 b i) (i-2))):=by simp only [y9];rw [if_neg h]
def z5l (s:List UInt64) (k w:UInt64):List UInt64:=
  let e:=g64 s 4;let a:=g64 s 0
  let t:=g64 s 7+(zlt e 50^^^zlt e 46^^^zlt e 23)+(e&&&g64 s 5^^^ ~~~e&&&g64 s 6)+k+w
  let u:=(zlt a 36^^^zlt a 30^^^zlt a 25)+(a&&&g64 s 1^^^a&&&g64 s 2^^^g64 s 1&&&g64 s 2)
  [t+u,g64 s 0,g64 s 1,g64 s 2,g64 s 3+t,g64 s 4,g64 s 5,g64 s 6]
def zcq (k w s:List UInt64):Nat→List UInt64
  |0=>s
  |i+1=>z5l (zcq k w s i) (g64 k i) (g64 w i)
theorem zq7 {k w s:List UInt64} (h:s.length=8): ∀i,(zcq k w s i).length=8
  |0=>h
  |_+1=>rfl
def zge (k h:List UInt64) (b:List UInt8):List UInt64:=
  (List.range 8).map fun i=>g64 h i+g64 (zcq k (y9 b 80) h 80) i
theorem z2b (k h:List UInt64) (b:List UInt8):(zge k h b).length=8:=zz _ _
def bk (n:Int):Nat:=if n=256 then 64 else 128
def za1 (n:Int) (k h:List UInt64) (b:List UInt8):List UInt64:=if n=256 then zkr k h b else zge k h b
theorem z22 (n:Int) (k h:List UInt64) (b:List UInt8):(za1 n k h b).length=8:=by
  unfold za1;split
  ·exact z3z _ _ _
  ·exact z2b _ _ _
def xb (n:Int) (k h:List UInt64) (B:List UInt8):Nat→List UInt64
  |0=>h
  |t+1=>za1 n k (xb n k h B t) ((B.drop (bk n*t)).take (bk n))
theorem zfj {n:Int} {k h:List UInt64} (hh:h.length=8) (B:List UInt8): ∀t,(xb n k h B t).length=8
  |0=>hh
  |_+1=>z22 _ _ _ _
end Go.Sym.Sha
namespace Go.Sym.Sha
open Go.Sym.Lp Go.Sym.Cha
def wrH (n:Int) (k h:List UInt64) (R s:List UInt8):List UInt64:=xb n k h (R++s) ((R++s).length/ bk n)
def wrR (n:Int) (R s:List UInt8):List UInt8:=(R++s).drop (bk n*((R++s).length/ bk n))
theorem zy7 (n:Int):0<bk n:=by unfold bk;split<;>decide
theorem zfm (n:Int) (R s:List UInt8):(wrR n R s).length=(R.length+s.length)%bk n:=by
  unfold wrR
  rw [List.length_drop,List.length_append]
  have:=Nat.div_add_mod (R.length+s.length) (bk n)
  omega
theorem ztc (n:Int) (R s:List UInt8):(wrR n R s).length<bk n:=by rw [zfm];exact Nat.mod_lt _ (zy7 n)
theorem zbr {n:Int} {k h:List UInt64} (hh:h.length=8) (R s:List UInt8):(wrH n k h R s).length=8:=zfj hh _ _
def zbz (n:Int) (r:Nat):Nat:=1+(2*bk n-1-bk n/ 8-r)%bk n+bk n/ 8
def zcs (L:Nat) (all:UInt64):Nat→List UInt8
  |0=>(List.replicate L 0).set 0 128
  |i+1=>(zcs L all i).set (L-1-i) ((all*8)>>>UInt64.ofNat (8*i)).toUInt8
theorem zea (L:Nat) (all:UInt64): ∀i,(zcs L all i).length=L
  |0=>by simp [zcs]
  |i+1=>by simp only [zcs,List.length_set];exact zea L all i
def zi6 (n:Int) (r:Nat) (all:UInt64):List UInt8:=zcs (zbz n r) all 8
theorem z72 (n:Int) (r:Nat) (all:UInt64):(zi6 n r all).length=zbz n r:=zea _ _ _
theorem zhq {n:Int} {R:List UInt8} (h:R.length<bk n) (all:UInt64):(wrR n R (zi6 n R.length all)).length=0:=by
  rw [zfm,z72]
  unfold zbz
  have hb:bk n=64∨bk n=128:=by unfold bk;split<;>simp
  rcases hb with e|e<;>rw [e] at h ⊢ <;>omega
def outG (w:List UInt64) (size j:Nat):UInt8:=(g64 w (j/ size)>>>UInt64.ofNat (8*(size-1-j%size))).toUInt8
def zgw (w:List UInt64) (size:Nat):List UInt8:=(List.range (8*size)).map (outG w size)
theorem zhf (w:List UInt64) (size:Nat):(zgw w size).length=8*size:=zz _ _
def dl (n:Int):Nat:=if n=256 then 32 else 48
def zet (n:Int) (k h:List UInt64) (R:List UInt8) (all:UInt64):List UInt8:=
  (zgw (wrH n k h R (zi6 n R.length all)) (bk n/ 16)).take (n/ 8).toNat
def KC:List UInt64:= [0x428a2f98d728ae22,0x7137449123ef65cd,0xb5c0fbcfec4d3b2f,0xe9b5dba58189dbbc,0x3956c25bf348b538,0x59f111f1b605d019,0x923f82a4af194f9b,0xab1c5ed5da6d8118,0xd807aa98a3030242,0x12835b0145706fbe,0x243185be4ee4b28c,0x550c7dc3d5ffb4e2,0x72be5d74f27b896f,0x80deb1fe3b1696b1,0x9bdc06a725c71235,0xc19bf174cf692694,0xe49b69c19ef14ad2,0xefbe4786384f25e3,0x0fc19dc68b8cd5b5,0x240ca1cc77ac9c65,0x2de92c6f592b0275,0x4a7484aa6ea6e483,0x5cb0a9dcbd41fbd4,0x76f988da831153b5,0x983e5152ee66dfab,0xa831c66d2db43210,0xb00327c898fb213f,0xbf597fc7beef0ee4,0xc6e00bf33da88fc2,0xd5a79147930aa725,0x06ca6351e003826f,0x142929670a0e6e70,0x27b70a8546d22ffc,0x2e1b21385c26c926,0x4d2c6dfc5ac42aed,0x53380d139d95b3df,0x650a73548baf63de,0x766a0abb3c77b2a8,0x81c2c92e47edaee6,0x92722c851482353b,0xa2bfe8a14cf10364,0xa81a664bbc423001,0xc24b8b70d0f89791,0xc76c51a30654be30,0xd192e819d6ef5218,0xd69906245565a910,0xf40e35855771202a,0x106aa07032bbd1b8,0x19a4c116b8d2d0c8,0x1e376c085141ab53,0x2748774cdf8eeb99,0x34b0bcb5e19b48a8,0x391c0cb3c5c95a63,0x4ed8aa4ae3418acb,0x5b9cca4f7763e373,0x682e6ff3d6b2b8a3,0x748f82ee5defb2fc,0x78a5636f43172f60,0x84c87814a1f0ab72,0x8cc702081a6439ec,0x90befffa23631e28,0xa4506cebde82bde9,0xbef9a3f7b2c67915,0xc67178f2e372532b,0xca273eceea26619c,0xd186b8c721c0c207,0xeada7dd6cde0eb1e,0xf57d4f7fee6ed178,0x06f067aa72176fba,0x0a637dc5a2c898a6,0x113f9804bef90dae,0x1b710b35131c471b,0x28db77f523047d84,0x32caab7b40c72493,0x3c9ebe0a15c9bebc,0x431d67c49c100d4c,0x4cc5d4becb3e42b6,0x597f299cfc657e2a,0x5fcb6fab3ad6faec,0x6c44198c4a475817]
theorem zog:KC.length=80:=rfl
def HB (n:Int):List UInt64:=if n=256 then [0x6a09e667,0xbb67ae85,0x3c6ef372,0xa54ff53a,0x510e527f,0x9b05688c,0x1f83d9ab,0x5be0cd19] else [0xcbbb9d5dc1059ed8,0x629a292a367cd507,0x9159015a3070dd17,0x152fecd8f70e5939,0x67332667ffc00b31,0x8eb44a8768581511,0xdb0c2e0d64f98fa7,0x47b5481dbefa4fa4]
theorem zn2 (n:Int):(HB n).length=8:=by unfold HB;split<;>rfl
def x9 (n:Int) (s:List UInt8):List UInt8:=zet n KC (wrH n KC (HB n) [] s) (wrR n [] s) (UInt64.ofNat s.length)
theorem zj8 {n:Int} (hn:n=256∨n=384) (k h:List UInt64) (R:List UInt8) (all:UInt64):(zet n k h R all).length=dl n:=by
  unfold zet dl
  rw [List.length_take,zhf]
  rcases hn with rfl|rfl
  ·rfl
  ·rfl
theorem zn8 {n:Int} (hn:n=256∨n=384) (s:List UInt8):(x9 n s).length=dl n:=zj8 hn _ _ _ _
end Go.Sym.Sha

namespace Go.Sym.Hk
open Go.Sym.Lp Go.Sym.Sha
def kN (n:Int) (key:List UInt8):List UInt8:=if bk n<key.length then x9 n key else key
def pdX (n:Nat) (key:List UInt8) (b:UInt8):List UInt8:=(List.range n).map fun i=>key.getD i 0^^^b
theorem za4 (n:Nat) (key:List UInt8) (b:UInt8):(pdX n key b).length=n:=zz _ _
def mP (n:Int) (key:List UInt8) (b:UInt8):List UInt64:=wrH n KC (HB n) [] (pdX (bk n) (kN n key) b)
theorem z5k (n:Int) (key:List UInt8) (b:UInt8):(mP n key b).length=8:=zbr (zn2 n) _ _
def dgF (n:Int) (H:List UInt64) (s:List UInt8):List UInt8:=zet n KC (wrH n KC H [] s) (wrR n [] s) (UInt64.ofNat (bk n)+UInt64.ofNat s.length)
theorem znd {n:Int} (hn:n=256∨n=384) (H:List UInt64) (s:List UInt8):(dgF n H s).length=dl n:=zj8 hn _ _ _ _
def zqg (n:Int) (key s:List UInt8):List UInt8:=dgF n (mP n key 92) (dgF n (mP n key 54) s)
theorem zwf {n:Int} (hn:n=256∨n=384) (key s:List UInt8):(zqg n key s).length=dl n:=znd hn _ _
def xx (n:Int) (key info:List UInt8):Nat→List UInt8×List UInt8
  |0=>([],[])
  |i+1=>((xx n key info i).1++zqg n key ((xx n key info i).2++info++ [UInt8.ofInt ((i:Int)+1)]),zqg n key ((xx n key info i).2++info++ [UInt8.ofInt ((i:Int)+1)]))
theorem zjf {n:Int} (hn:n=256∨n=384) (key info:List UInt8): ∀i,(xx n key info i).1.length=dl n*i∧(xx n key info i).2.length≤48
  |0=>⟨rfl,Nat.zero_le _⟩
  |i+1=>by
   have h:=zjf hn key info i
   have hm:=zwf hn key ((xx n key info i).2++info++ [UInt8.ofInt ((i:Int)+1)])
   simp only [xx,List.length_append,Nat.mul_succ]
   refine ⟨by omega,?_⟩
   rw [hm];unfold dl;split<;>decide
theorem yd0 (n:Int):0<dl n:=by unfold dl;split<;>decide
def exF (n:Int) (key info:List UInt8) (size:Nat):List UInt8:=(xx n key info ((size+dl n-1)/ dl n)).1.take size
theorem ycx {n:Int} (hn:n=256∨n=384) (key info:List UInt8) (size:Nat):(exF n key info size).length=size:=by
  unfold exF
  rw [List.length_take,(zjf hn key info _).1]
  have hp:=yd0 n
  have h1:=Nat.div_add_mod (size+dl n-1) (dl n)
  have h2:=Nat.mod_lt (size+dl n-1) hp
  omega
end Go.Sym.Hk

namespace Go.Sym.Sha
open Go.Sym.Lp Go.Sym.Cha Go.Sym.Gcm Go.Sym.Hk
def zh8 (x:UInt32) (k:Nat):UInt32:=x>>>UInt32.ofNat k|||x<<<UInt32.ofNat (32-k)
theorem zc5 {x:UInt32} {k:Nat} (h:k≤32):zh8 x k=zhe x (32-k):=by
  unfold zh8 zhe;rw [UInt32.or_comm,show 32-(32-k)=k by omega]
def zh9 (x:UInt64) (k:Nat):UInt64:=x>>>UInt64.ofNat k|||x<<<UInt64.ofNat (64-k)
theorem zc8 {x:UInt64} {k:Nat} (h:k≤64):zh9 x k=zlt x (64-k):=by
  unfold zh9 zlt;rw [UInt64.or_comm,show 64-(64-k)=k by omega]
theorem yf6 (a b c d:UInt8):a.toUInt32<<<24|||b.toUInt32<<<16|||c.toUInt32<<<8|||d.toUInt32=(num [a,b,c,d]).toUInt32:=by
  show _=((((((0:UInt64)<<<8|||a.toUInt64)<<<8|||b.toUInt64)<<<8|||c.toUInt64)<<<8|||d.toUInt64)).toUInt32
  have ha:=a.toNat_lt;have hb:=b.toNat_lt;have hc:=c.toNat_lt;have hd:=d.toNat_lt
  have o: ∀(x y k:Nat),y<2^k→x*2^k|||y=x*2^k+y:=fun x y k h=>by
    rw [Nat.mul_comm,←Nat.two_pow_add_eq_or_of_lt h]
  have s64: ∀(x:UInt64) (y:UInt8),x.toNat<72057594037927936→(x<<<8|||y.toUInt64).toNat=x.toNat*2^8+y.toNat:=by
    intro x y hx
    have hy:=y.toNat_lt
    rw [UInt64.toNat_or,UInt64.toNat_shiftLeft,UInt8.toNat_toUInt64]
    show x.toNat<<<8%2^64|||_=_
    rw [Nat.shiftLeft_eq,Nat.mod_eq_of_lt (by omega),o _ _ _ (by omega)]
  have l32: ∀(y:UInt8) (k:Nat),k≤24→(y.toUInt32<<<UInt32.ofNat k).toNat=y.toNat*2^k:=by
    intro y k hk
    have hy:=y.toNat_lt
    have hk2:(UInt32.ofNat k).toNat=k:=by rw [UInt32.toNat_ofNat'];omega
    rw [UInt32.toNat_shiftLeft,hk2,UInt8.toNat_toUInt32,Nat.mod_eq_of_lt (show k<32 by omega),Nat.shiftLeft_eq]
    have:y.toNat*2^k<2^8*2^24:=Nat.mul_lt_mul_of_lt_of_le (by omega) (Nat.pow_le_pow_right (by decide) hk) (by decide)
    exact Nat.mod_eq_of_lt (by omega)
  apply UInt32.toNat_inj.1
  have e1:((0:UInt64)<<<8|||a.toUInt64).toNat=a.toNat:=by rw [s64 _ _ (by decide)];show 0*2^8+_=_;omega
  have e2:=s64 ((0:UInt64)<<<8|||a.toUInt64) b (by omega)
  have e3:=s64 (((0:UInt64)<<<8|||a.toUInt64)<<<8|||b.toUInt64) c (by omega)
  have e4:=s64 ((((0:UInt64)<<<8|||a.toUInt64)<<<8|||b.toUInt64)<<<8|||c.toUInt64) d (by omega)
  rw [UInt64.toNat_toUInt32,e4,e3,e2,e1,UInt32.toNat_or,UInt32.toNat_or,UInt32.toNat_or,UInt8.toNat_toUInt32]
  have g1:=l32 a 24 (by decide)
  have g2:=l32 b 16 (by decide)
  have g3:=l32 c 8 (by decide)
  have f1:(a.toUInt32<<<24).toNat=a.toNat*2^24:=g1
  have f2:(b.toUInt32<<<16).toNat=b.toNat*2^16:=g2
  have f3:(c.toUInt32<<<8).toNat=c.toNat*2^8:=g3
  rw [f1,f2,f3,o a.toNat (b.toNat*2^16) 24 (by omega),show a.toNat*2^24+b.toNat*2^16=(a.toNat*2^8+b.toNat)*2^16 by omega,o _ (c.toNat*2^8) 16 (by omega),
   show (a.toNat*2^8+b.toNat)*2^16+c.toNat*2^8=((a.toNat*2^8+b.toNat)*2^8+c.toNat)*2^8 by omega,o _ d.toNat 8 (by omega)]
  omega
def K32:List UInt32:= [0x428a2f98,0x71374491,0xb5c0fbcf,0xe9b5dba5,0x3956c25b,0x59f111f1,0x923f82a4,0xab1c5ed5,0xd807aa98,0x12835b01,0x243185be,0x550c7dc3,0x72be5d74,0x80deb1fe,0x9bdc06a7,0xc19bf174,0xe49b69c1,0xefbe4786,0x0fc19dc6,0x240ca1cc,0x2de92c6f,0x4a7484aa,0x5cb0a9dc,0x76f988da,0x983e5152,0xa831c66d,0xb00327c8,0xbf597fc7,0xc6e00bf3,0xd5a79147,0x06ca6351,0x14292967,0x27b70a85,0x2e1b2138,0x4d2c6dfc,0x53380d13,0x650a7354,0x766a0abb,0x81c2c92e,0x92722c85,0xa2bfe8a1,0xa81a664b,0xc24b8b70,0xc76c51a3,0xd192e819,0xd6990624,0xf40e3585,0x106aa070,0x19a4c116,0x1e376c08,0x2748774c,0x34b0bcb5,0x391c0cb3,0x4ed8aa4a,0x5b9cca4f,0x682e6ff3,0x748f82ee,0x78a5636f,0x84c87814,0x8cc70208,0x90befffa,0xa4506ceb,0xbef9a3f7,0xc67178f2]
theorem yfx: ∀i,i<64→K32.getD i 0=(g64 KC i>>>32).toUInt32:=by decide+kernel
def b32 (H:List UInt32) (s:List UInt8):List UInt32:=(List.range 8).map fun i=>g32 H i+g32 (zck KC (xa s 64) H 64) i
theorem ycg (H:List UInt32) (s:List UInt8):(b32 H s).length=8:=zz _ _
theorem yc6 {H:List UInt64} {h:List UInt32} (e:H=h.map UInt32.toUInt64) (hl:h.length=8):((List.range 8).map fun i=>(g64 H i).toUInt32)=h:=by
  subst e
  rw [yo (g':=fun i=>h.getD i 0) (fun i hi=>?_),zne hl 0]
  unfold g64
  rw [List.getD_eq_getElem?_getD,List.getElem?_map,List.getD_eq_getElem?_getD,List.getElem?_eq_getElem (by omega)]
  show (h[i]).toUInt64.toUInt32=h[i]
  exact UInt32.toUInt32_toUInt64 _
theorem z4q {H:List UInt64} {h:List UInt32} (e:H=h.map UInt32.toUInt64) (hl:h.length=8) (s:List UInt8):zkr KC H s=(b32 h s).map UInt32.toUInt64:=by
  have hu:=yc6 e hl
  have hg: ∀i,i<8→(g64 H i).toUInt32=g32 h i:=fun i hi=>by
    have:=congrArg (fun l=>l.getD i 0) hu
    rw [zij _ _ hi] at this;exact this
  unfold zkr b32
  rw [hu,List.map_map]
  exact yo fun i hi=>by rw [hg i hi];rfl
theorem zoa {n:Int} {k h:List UInt64} (A B:List UInt8): ∀t,bk n*t≤A.length→xb n k h (A++B) t=xb n k h A t
  |0,_=>rfl
  |t+1,ht=>by
   have h1:bk n*(t+1)=bk n*t+bk n:=Nat.mul_succ _ _
   show za1 _ _ _ _=za1 _ _ _ _
   rw [zoa A B t (by omega),List.drop_append_of_le_length (by omega),List.take_append_of_le_length (by rw [List.length_drop];omega)]
theorem drp {A B:List UInt8} {a:Nat} (h:A.length=a) (k:Nat):(A++B).drop (a+k)=B.drop k:=by
  subst h;rw [List.drop_append,List.drop_of_length_le (by omega),List.nil_append,Nat.add_sub_cancel_left]
theorem zvw {n:Int} {k h:List UInt64} {A B:List UInt8} {a:Nat} (hA:A.length=bk n*a): ∀t,xb n k h (A++B) (a+t)=xb n k (xb n k h A a) B t
  |0=>zoa A B a (by omega)
  |t+1=>by
   show za1 n k (xb n k h (A++B) (a+t)) (((A++B).drop (bk n*(a+t))).take (bk n))=za1 n k (xb n k (xb n k h A a) B t) ((B.drop (bk n*t)).take (bk n))
   rw [zvw hA t,Nat.mul_add,drp hA]
def ygi (n:Int) (h:List UInt64) (T:List UInt8):List UInt64:=xb n KC h T (T.length/ bk n)
theorem ydg {n:Int} {h:List UInt64} (R s u:List UInt8):wrH n KC (wrH n KC h R s) (wrR n R s) u=wrH n KC h R (s++u)∧wrR n (wrR n R s) u=wrR n R (s++u):=by
  have hb:=zy7 n
  unfold wrH wrR
  generalize hX:R++s=X
  have hq:=Nat.div_add_mod X.length (bk n)
  have hql:bk n*(X.length/ bk n)≤X.length:=by omega
  have hsplit:X++u=X.take (bk n*(X.length/ bk n))++(X.drop (bk n*(X.length/ bk n))++u):=by rw [←List.append_assoc,List.take_append_drop]
  have hTl:(X.take (bk n*(X.length/ bk n))).length=bk n*(X.length/ bk n):=by rw [List.length_take];omega
  have hlen:(X++u).length/ bk n=X.length/ bk n+(X.drop (bk n*(X.length/ bk n))++u).length/ bk n:=by
    rw [hsplit,@List.length_append UInt8 (X.take (bk n*(X.length/ bk n))),hTl,Nat.mul_add_div hb]
  have hT:xb n KC h X (X.length/ bk n)=xb n KC h (X.take (bk n*(X.length/ bk n))) (X.length/ bk n):=by
    have:=zoa (n:=n) (k:=KC) (h:=h) (X.take (bk n*(X.length/ bk n))) (X.drop (bk n*(X.length/ bk n))) (X.length/ bk n) (by omega)
    rw [List.take_append_drop] at this;exact this
  rw [←List.append_assoc,hX]
  constructor
  ·rw [hlen,hsplit,zvw hTl,hT]
  ·rw [hlen,hsplit,Nat.mul_add,drp hTl]
theorem zvy {n:Int} (s:List UInt8):x9 n s=(zgw (ygi n (HB n) (s++zi6 n (wrR n [] s).length (UInt64.ofNat s.length))) (bk n/ 16)).take (n/ 8).toNat:=by
  unfold x9 zet
  rw [(ydg [] s _).1]
  rfl
theorem z1r {n:Int} {p:List UInt8} (hp:p.length=bk n) (s:List UInt8) (hs:s.length<9223372036854775808):dgF n (wrH n KC (HB n) [] p) s=x9 n (p++s):=by
  have h0:wrR n [] p= []:=List.length_eq_zero_iff.1 (by rw [zfm,hp];show (0+bk n)%bk n=0;rw [Nat.zero_add,Nat.mod_self])
  obtain ⟨h1,h2⟩:=ydg (n:=n) (h:=HB n) [] p s
  rw [h0] at h1 h2
  unfold dgF x9
  rw [h1,h2,List.length_append,hp]
  congr 1
  exact (UInt64.ofNat_add _ _).symm
theorem z91 {n:Int} (key s:List UInt8) (hs:s.length<4611686018427387904) (hn:n=256∨n=384):zqg n key s=x9 n (pdX (bk n) (kN n key) 92++x9 n (pdX (bk n) (kN n key) 54++s)):=by
  unfold zqg mP
  rw [z1r (za4 _ _ _) _ (by rw [znd hn];unfold dl;split<;>decide),z1r (za4 _ _ _) s (by omega)]
end Go.Sym.Sha
namespace Go.Sym.Sha
open Go.Sym.Lp Go.Sym.Cha Go.Sym.Gcm Go.Sym.Hk
theorem z7a {m:Nat} (hm:m<18446744073709551616) {k:Nat} (hk:k<64):UInt8.ofInt ((m:Int)/ 2^k)=(UInt64.ofNat m>>>UInt64.ofNat k).toUInt8:=by
  have hv:(UInt64.ofNat m).toNat=m:=by rw [UInt64.toNat_ofNat'];omega
  rw [zd1]
  apply UInt8.toNat_inj.1
  rw [UInt64.toNat_toUInt8,UInt8.toNat_ofNat',zj6 _ hk,hv]
theorem zv8 (L:Nat) (all:UInt64) (j:Nat): ∀i,i<L→(zcs L all i)[j]?=if L-i≤j∧j<L then some ((all*8)>>>UInt64.ofNat (8*(L-1-j))).toUInt8 else ((List.replicate L (0:UInt8)).set 0 128)[j]?
  |0,_=>by rw [if_neg (by omega)];rfl
  |i+1,h=>by
   show ((zcs L all i).set (L-1-i) _)[j]?=_
   rw [List.getElem?_set,zea,zv8 L all j i (by omega)]
   by_cases e:L-1-i=j
   ·rw [if_pos e,if_pos (by omega),if_pos (by omega),show L-1-j=i by omega]
   ·rw [if_neg e]
    by_cases h2:L-i≤j∧j<L
    ·rw [if_pos h2,if_pos (by omega)]
    ·rw [if_neg h2,if_neg (by omega)]
theorem z3k {n:Int} {r l:Nat} (h9:9≤zbz n r) (hl:l<2305843009213693952):zi6 n r (UInt64.ofNat l)=128 ::(List.replicate (zbz n r-9) 0++beB ((8*l:Nat):Int) 8):=by
  generalize hL:zbz n r=L at h9
  have hm:UInt64.ofNat l*8=UInt64.ofNat (8*l):=by rw [Nat.mul_comm];exact (UInt64.ofNat_mul _ _).symm
  unfold zi6
  rw [hL]
  apply List.ext_getElem?
  intro j
  rw [zv8 L _ j 8 (by omega)]
  by_cases h1:L-8≤j∧j<L
  ·rw [if_pos h1,hm]
   obtain ⟨k,hk⟩: ∃k,j=1+(L-9)+k:=⟨j-(1+(L-9)),by omega⟩
   rw [show j=(L-9+k)+1 by omega,List.getElem?_cons_succ,List.getElem?_append_right (by rw [List.length_replicate];omega),List.length_replicate,show L-9+k-(L-9)=k by omega]
   unfold beB
   rw [List.getElem?_map,List.getElem?_range (by omega),Option.map_some,z7a (by omega) (by omega)]
   congr 5;omega
  ·rw [if_neg h1]
   cases j with
   |zero=>rw [List.getElem?_set_self (by rw [List.length_replicate];omega)];rfl
   |succ j=>
    rw [List.getElem?_set_ne (by omega),List.getElem?_cons_succ,List.getElem?_replicate]
    by_cases h2:j+1<L
    ·rw [if_pos h2,List.getElem?_append_left (by rw [List.length_replicate];omega),List.getElem?_replicate,if_pos (by omega)]
    ·rw [if_neg h2,List.getElem?_append_right (by rw [List.length_replicate];omega),List.getElem?_eq_none (by rw [zam,List.length_replicate];omega)]
def zR (n:Int) (l:Nat):Nat:=(bk n-(l+1+bk n/ 8)%bk n)%bk n+bk n/ 8-8
theorem zxz (n:Int):bk n=64∨bk n=128:=by unfold bk;split<;>simp
theorem yab {n:Int} (l:Nat):zbz n (l%bk n)=zR n l+9:=by
  unfold zbz zR
  rcases zxz n with e|e<;>rw [e]<;>omega
def zgp (n:Int) (s:List UInt8):List UInt8:=s++128 ::(List.replicate (zR n s.length) 0++beB ((8*s.length:Nat):Int) 8)
theorem z1m {n:Int} {s:List UInt8} (h:s.length<2305843009213693952):s++zi6 n (wrR n [] s).length (UInt64.ofNat s.length)=zgp n s:=by
  have e:(wrR n [] s).length=s.length%bk n:=by rw [zfm];show (0+s.length)%_=_;rw [Nat.zero_add]
  have hp:=yab (n:=n) s.length
  rw [e,z3k (by omega) h,hp]
  rfl
theorem zwg {n:Int} (s:List UInt8):(zgp n s).length%bk n=0∧s.length≤(zgp n s).length∧(zgp n s).length≤s.length+300:=by
  unfold zgp
  rw [List.length_append,List.length_cons,List.length_append,List.length_replicate,zam]
  unfold zR
  rcases zxz n with e|e<;>rw [e]<;>omega
def zd5 (w:List UInt64) (size i:Nat):List UInt8:=(List.range (size*i)).map (outG w size)
theorem z78 {w:List UInt64} {size:Nat} (h:0<size) (i:Nat):zd5 w size (i+1)=zd5 w size i++(List.range size).map fun j=>(g64 w i>>>UInt64.ofNat (8*(size-1-j))).toUInt8:=by
  unfold zd5
  rw [Nat.mul_succ,List.range_add,List.map_append,List.map_map]
  congr 1
  refine yo fun j hj=>?_
  show outG w size (size*i+j)=_
  unfold outG
  rw [Nat.mul_add_div h,Nat.div_eq_of_lt hj,Nat.mul_add_mod,Nat.mod_eq_of_lt hj,Nat.add_zero]
theorem zww {w:List UInt64} {size k:Nat} (h:k≤8):(zgw w size).take (size*k)=zd5 w size k:=by
  unfold zgw zd5
  rw [←List.map_take,List.take_range,Nat.min_eq_left (by rw [Nat.mul_comm 8];exact Nat.mul_le_mul_left _ h)]
theorem be4 (x:UInt32):((List.range 4).map fun j=>(x.toUInt64>>>UInt64.ofNat (8*(4-1-j))).toUInt8)=beB ((x.toNat:Nat):Int) 4:=by
  unfold beB
  have hx:=x.toNat_lt
  refine yo fun j hj=>?_
  rw [z7a (by omega) (by omega)]
  congr 3
  apply UInt64.toNat_inj.1
  rw [UInt32.toNat_toUInt64,UInt64.toNat_ofNat'];omega
theorem ylv (x:UInt64):((List.range 8).map fun j=>(x>>>UInt64.ofNat (8*(8-1-j))).toUInt8)=beB (((x>>>32).toNat:Nat):Int) 4++beB (((x&&&4294967295).toNat:Nat):Int) 4:=by
  have hx:=x.toNat_lt
  have h1:(x>>>32).toNat=x.toNat/ 2^32:=zj6 _ (k:=32) (by decide)
  have h2:(x&&&4294967295).toNat=x.toNat%2^32:=by
    rw [UInt64.toNat_and];show x.toNat&&&(2^32-1)=_;rw [Nat.and_two_pow_sub_one_eq_mod]
  rw [h1,h2]
  have b: ∀k,k<64→(x>>>UInt64.ofNat k).toUInt8=UInt8.ofNat (x.toNat/ 2^k):=by
    intro k hk
    apply UInt8.toNat_inj.1
    rw [UInt64.toNat_toUInt8,UInt8.toNat_ofNat',zj6 _ hk]
  have hi: ∀k,UInt8.ofInt (((x.toNat/ 2^32:Nat):Int)/ 2^k)=UInt8.ofNat (x.toNat/ 2^(32+k)):=by
    intro k
    rw [zd1,Nat.div_div_eq_div_mul,←Nat.pow_add]
  have lo: ∀k,k<32→k%8=0→UInt8.ofInt (((x.toNat%2^32:Nat):Int)/ 2^k)=UInt8.ofNat (x.toNat/ 2^k):=by
    intro k hk h8
    rw [zd1]
    apply UInt8.toNat_inj.1
    rw [UInt8.toNat_ofNat',UInt8.toNat_ofNat']
    have:k=0∨k=8∨k=16∨k=24:=by omega
    rcases this with rfl|rfl|rfl|rfl<;>omega
  show [_,_,_,_,_,_,_,_]= [UInt8.ofInt (((x.toNat/ 2^32:Nat):Int)/ 2^24),UInt8.ofInt (((x.toNat/ 2^32:Nat):Int)/ 2^16),UInt8.ofInt (((x.toNat/ 2^32:Nat):Int)/ 2^8),UInt8.ofInt (((x.toNat/ 2^32:Nat):Int)/ 2^0),UInt8.ofInt (((x.toNat%2^32:Nat):Int)/ 2^24),UInt8.ofInt (((x.toNat%2^32:Nat):Int)/ 2^16),UInt8.ofInt (((x.toNat%2^32:Nat):Int)/ 2^8),UInt8.ofInt (((x.toNat%2^32:Nat):Int)/ 2^0)]
  rw [hi 24,hi 16,hi 8,hi 0,lo 24 (by decide) rfl,lo 16 (by decide) rfl,lo 8 (by decide) rfl,lo 0 (by decide) rfl]
  rw [←b 56 (by decide),←b 48 (by decide),←b 40 (by decide),←b 32 (by decide),←b 24 (by decide),←b 16 (by decide),←b 8 (by decide),←b 0 (by decide)]
def zjz (H:List UInt32) (T:List UInt8):Nat→List UInt32
  |0=>H
  |t+1=>b32 (zjz H T t) ((T.drop (64*t)).take 64)
theorem zwq {H:List UInt32} (h:H.length=8) (T:List UInt8): ∀t,(zjz H T t).length=8
  |0=>h
  |_+1=>ycg _ _
theorem z14 {h:List UInt32} {H:List UInt64} (e:H=h.map UInt32.toUInt64) (hl:h.length=8) (T:List UInt8): ∀t,xb 256 KC H T t=(zjz h T t).map UInt32.toUInt64
  |0=>e
  |t+1=>by
   show za1 256 KC (xb 256 KC H T t) ((T.drop (64*t)).take 64)=_
   unfold za1
   rw [if_pos rfl,z4q (z14 e hl T t) (zwq hl T t)]
   rfl
def H32:List UInt32:= [0x6a09e667,0xbb67ae85,0x3c6ef372,0xa54ff53a,0x510e527f,0x9b05688c,0x1f83d9ab,0x5be0cd19]
theorem yfk:HB 256=H32.map UInt32.toUInt64:=by decide+kernel
theorem z2z {s:List UInt8} (h:s.length<2305843009213693952):x9 256 s=zd5 ((zjz H32 (zgp 256 s) ((zgp 256 s).length/ 64)).map UInt32.toUInt64) 4 8:=by
  rw [zvy,z1m h]
  unfold ygi
  rw [show bk 256=64 from rfl,z14 yfk rfl]
  exact zww (size:=4) (k:=8) (Nat.le_refl _)
theorem z35 {s:List UInt8} (h:s.length<2305843009213693952):x9 384 s=zd5 (xb 384 KC (HB 384) (zgp 384 s) ((zgp 384 s).length/ 128)) 8 6:=by
  rw [zvy,z1m h]
  unfold ygi
  rw [show bk 384=128 from rfl]
  exact zww (size:=8) (k:=6) (by decide)
end Go.Sym.Sha
