/-
  Contracts of functions of the program, each said of symbolic values, and plain laws; no condition beyond each statement's own.
-/
import Derived.Test.YtmmpgjcpielefaaGreatG22
import Derived.Test.YtmmpgjcpielefaaGreatG17
set_option linter.unusedSimpArgs false
set_option linter.unusedVariables false
namespace Go.Sym.Z
open Go Go.Proofs.Tryz Go.Sym.Lp Go.Sym.Gcm Go.Sym.Aes
set_option maxRecDepth 100000
attribute [local irreducible] ldE yj hf4 zga enc ks box zly tmX tmA
def yic:List (Nat×List PStep):= []
def ydw:List (Nat×List PStep):= []
def ye2:List (Nat×List PStep):= []
def yez:List (Nat×List PStep):= []
def zox (x:Int) (s k:Nat):List UInt8:=(List.range s).map fun j=>if s≤j+k then UInt8.ofInt (x/ 2^(8*(s-1-j))) else 0
theorem ztx (x:Int) (s k:Nat):(zox x s k).length=s:=zz _ _
theorem yau {x:Int} {s k:Nat} (h:k<s) {v:UInt8} (hv:v=UInt8.ofInt (x/ 2^(8*k))) {j:Nat} (hj:j=s-1-k):(zox x s k).set j v=zox x s (k+1):=by
  subst hv hj
  unfold zox
  apply List.ext_getElem?
  intro i
  rw [List.getElem?_set]
  by_cases hi:s-1-k=i
  ·rw [if_pos hi,if_pos (by simp;omega),List.getElem?_map,List.getElem?_range (by omega),Option.map_some,if_pos (by omega),show s-1-i=k by omega]
  ·rw [if_neg hi,List.getElem?_map,List.getElem?_map]
   by_cases h2:i<s
   ·rw [List.getElem?_range h2,Option.map_some,Option.map_some]
    by_cases h3:s≤i+k
    ·rw [if_pos h3,if_pos (by omega)]
    ·rw [if_neg h3,if_neg (by omega)]
   ·rw [List.getElem?_eq_none (show (List.range s).length≤i by simp;omega)];rfl
theorem z7q (x:Int) (s:Nat):zox x s 0=List.replicate s 0:=by
  unfold zox
  apply List.ext_getElem?
  intro i
  rw [List.getElem?_map,List.getElem?_replicate]
  by_cases h:i<s
  ·rw [List.getElem?_range h,if_pos h,Option.map_some,if_neg (by omega)]
  ·rw [List.getElem?_eq_none (by simp;omega),if_neg h];rfl
theorem yb2 (x:Int) (s:Nat):zox x s s=beB x s:=by
  unfold zox beB
  exact yi fun j hj=>if_pos (by omega)
def beS:Spec:=fun args hp K=>match args,hp with
  | [.int x,.int s],[]=>Pre (0≤x∧x<9223372036854775808∧0≤s∧s≤64) (K (.str (beB x s.toNat)) [])
  |_,_=>False
theorem z0z:zm prog 68 beS:=by
  refine zk yz zg rfl func68 rfl call68 (D:=yic) ?_ ?_
  ·intro args hp K h
   unfold beS at h
   split at h
   ·exact Nat.le_of_ble_eq_true rfl
   ·exact h.elim
  ·intro args hp K h
   unfold beS at h
   split at h
   ·rename_i x s
    obtain ⟨⟨hx,hx2,hs,hs2⟩,h⟩:=zl h
    obtain ⟨n,rfl⟩:=Int.eq_ofNat_of_zero_le hs
    rw [Int.toNat_natCast] at h
    have hnn:((n:Int)).toNat=n:=Int.toNat_natCast _
    refine za ?_
    refine zp (Ix (n)) (fun q=>⟨[(0,.int (x/ 2^(8*q.i))),(5,.sl 0 0 0 [] n n),(6,.int ((n:Int)-1-q.i))],[.mk 5 [.arr8 n (zox x n q.i)]]⟩) (fun q=>(n)-q.i) ⟨0,Nat.zero_le _⟩ [0] ?_ ?_
    ·repeat ((conv=>whnf);refine zb ?_)
     conv=>whnf
     refine zq (congrArg (fun x=>SV.agg [SV.arr8 n x]) (z7q x n).symm) ?_
     repeat ((conv=>whnf);refine zb ?_)
     conv=>whnf
     refine zq (congrArg SV.int (show x=x/ 2^(8*0) by rw [Nat.mul_zero,Int.pow_zero,Int.ediv_one])) ?_
     repeat ((conv=>whnf);refine zb ?_)
     conv=>whnf
     exact zh (congrArg SV.int (show (n:Int)-1=(n:Int)-1-((0:Nat):Int) by omega))
    ·intro q
     have hi:=q.hi
     have hl:=ztx x n q.i
     have hq0:0≤x/ 2^(8*q.i):=Int.ediv_nonneg hx (Int.le_of_lt (Int.pow_pos (by decide)))
     have hq1:x/ 2^(8*q.i)≤x:=Int.ediv_le_self _ hx
     have hI:((n:Int)-1-(q.i:Int)).toNat=n-1-q.i:=by omega
     by_cases h4:q.i<n
     ·refine za ?_
      conv=>whnf
      refine ⟨⟨q.i+1,h4⟩,[0],by show (n)-(q.i+1)<(n)-q.i;omega,?_⟩
      repeat ((conv=>whnf);refine zb ?_)
      conv=>whnf
      refine zq (congrArg (fun x=>SV.agg [SV.arr8 n x]) (yau h4 ?hv ?hj)) ?_
      case hj=>show ((n:Int)-1-(q.i:Int)).toNat=n-1-q.i;omega
      case hv=>exact Go.Sym.Ib.u8_255 hq0
      repeat ((conv=>whnf);refine zb ?_)
      conv=>whnf
      refine zq (congrArg SV.int (show x/ 2^(8*q.i)/ 2^8=x/ 2^(8*(q.i+1)) by rw [Int.ediv_ediv_of_nonneg (Int.le_of_lt (Int.pow_pos (by decide))),←Int.pow_add];rfl)) ?_
      repeat ((conv=>whnf);refine zb ?_)
      conv=>whnf
      exact zh (congrArg SV.int (show (n:Int)-1-(q.i:Int)-1=(n:Int)-1-((q.i+1:Nat):Int) by omega))
     ·have e4:q.i=n:=by omega
      rw [e4]
      have hbl:=ztx x n n
      have hp1:off []+n≤(zox x n n).length:=by rw [hbl];show 0+_≤_;omega
      have hT:List.take n (List.drop (off []) (zox x n n))=beB x n:=by rw [yb2];exact List.take_of_length_le (Nat.le_of_eq (zat x n))
      refine za ?_
      refine yv (hp':= []) [] h ?_
      repeat ((conv=>whnf);refine zb ?_)
      conv=>whnf
      exact zh (congrArg SV.str hT)
   ·exact h.elim
def zse:Spec:=fun args hp K=>match args,hp with
  | [.str s],[]=>Pre (s.length=16) (K (.tup [.u64 (ld s).1,.u64 (ld s).2]) [])
  |_,_=>False
theorem z5g:zm prog 128 zse:=by
  refine zk yz zg rfl func128 rfl call128 (D:=ydw) ?_ ?_
  ·intro args hp K h
   unfold zse at h
   split at h
   ·exact Nat.le_of_ble_eq_true rfl
   ·exact h.elim
  ·intro args hp K h
   unfold zse at h
   split at h
   ·rename_i s
    obtain ⟨hs,h⟩:=zl h
    refine za ?_
    refine zp (Ix (8)) (fun q=>⟨[(0,.str s),(4,.u64 (ldE s q.i).1),(5,.u64 (ldE s q.i).2),(6,.int q.i)],[]⟩) (fun q=>(8)-q.i) ⟨0,Nat.zero_le _⟩ [] ?_ ?_
    ·repeat ((conv=>whnf);refine zb ?_)
     conv=>whnf
     refine zq (congrArg (fun e:El=>SV.u64 e.1) (show z0=ldE _ 0 by unfold ldE;rfl)) ?_
     repeat ((conv=>whnf);refine zb ?_)
     conv=>whnf
     exact zh (congrArg (fun e:El=>SV.u64 e.2) (show z0=ldE _ 0 by unfold ldE;rfl))
    ·intro q
     have hi:=q.hi
     have hI:((q.i:Int)).toNat=q.i:=Int.toNat_natCast _
     have hJ:((8:Int)+(q.i:Int)).toNat=8+q.i:=by omega
     by_cases h4:q.i<8
     ·refine za ?_
      refine ⟨⟨q.i+1,h4⟩,[],by show (8)-(q.i+1)<(8)-q.i;omega,?_⟩
      repeat ((conv=>whnf);refine zb ?_)
      conv=>whnf
      refine zq (congrArg SV.u64 (show _=(ldE s (q.i+1)).1 by simp only [ldE];rw [←hI];rfl)) ?_
      repeat ((conv=>whnf);refine zb ?_)
      conv=>whnf
      exact zh (congrArg SV.u64 (show _=(ldE s (q.i+1)).2 by simp only [ldE];rw [←hJ];rfl))
     ·have e4:q.i=8:=by omega
      have hL:ldE s 8=ld s:=by unfold ld;rfl
      rw [e4,hL]
      refine za ?_
      exact ze [] h
   ·exact h.elim
def zsq:Spec:=fun args hp K=>match args,hp with
  | [.u64 a,.u64 b],[]=>K (.str (wr (a,b))) []
  |_,_=>False
theorem z6i:zm prog 130 zsq:=by
  refine zk yz zg rfl func130 rfl call130 (D:=ye2) ?_ ?_
  ·intro args hp K h
   unfold zsq at h
   split at h
   ·exact Nat.le_of_ble_eq_true rfl
   ·exact h.elim
  ·intro args hp K h
   unfold zsq at h
   split at h
   ·rename_i a b
    refine za ?_
    refine zp (Ix (8)) (fun q=>⟨[(0,.u64 (sr8 a q.i)),(1,.u64 (sr8 b q.i)),(5,.sl 0 0 0 [] 16 16),(6,.int (7-(q.i:Int)))],[.mk 5 [.arr8 16 (zly (a,b) q.i)]]⟩) (fun q=>(8)-q.i) ⟨0,Nat.zero_le _⟩ [0] ?_ ?_
    ·repeat ((conv=>whnf);refine zb ?_)
     conv=>whnf
     exact zh (congrArg (fun x=>SV.agg [SV.arr8 16 x]) (show _=zly (a,b) 0 by unfold zly;rfl))
    ·intro q
     have hi:=q.hi
     have hl:=zvb (a,b) q.i
     have hA:((7:Int)-(q.i:Int)).toNat=7-q.i:=by omega
     have hB:((8:Int)+((7:Int)-(q.i:Int))).toNat=15-q.i:=by omega
     by_cases h4:q.i<8
     ·refine za ?_
      conv=>whnf
      refine ⟨⟨q.i+1,h4⟩,[0],by show (8)-(q.i+1)<(8)-q.i;omega,?_⟩
      repeat ((conv=>whnf);refine zb ?_)
      conv=>whnf
      refine zq (congrArg (fun x=>SV.agg [SV.arr8 16 x]) (show _=zly (a,b) (q.i+1) by simp only [zly];rw [←hA,←hB];rfl)) ?_
      repeat ((conv=>whnf);refine zb ?_)
      conv=>whnf
      exact zh (congrArg SV.int (show (7:Int)-(q.i:Int)-1=7-((q.i+1:Nat):Int) by omega))
     ·have e4:q.i=8:=by omega
      rw [e4] at hl
      rw [e4]
      refine za ?_
      have hT:List.take 16 (List.drop (off []) (zly (a,b) 8))=wr (a,b):=by rw [←yfg];exact List.take_of_length_le (Nat.le_of_eq hl)
      conv=>whnf
      refine yv (hp':= []) [] h ?_
      repeat ((conv=>whnf);refine zb ?_)
      conv=>whnf
      exact zh (congrArg SV.str hT)
   ·exact h.elim
theorem zkb {c d:UInt64} (h:d&&&1=1):yj (c,d)=(c>>>1^^^R64,d>>>1|||c<<<63):=by
  unfold yj msk
  rw [h]
  rfl
theorem zjz {c d:UInt64} (h: ¬d&&&1=1):yj (c,d)=(c>>>1,d>>>1|||c<<<63):=by
  have h0:d&&&1=0:=(yay d).resolve_right h
  unfold yj msk
  rw [h0]
  show (c>>>1^^^(R64&&&(0-0)),_)=_
  rw [show R64&&&(0-0)=0 by decide,UInt64.xor_zero]
theorem zlq (a:UInt64) (i:Nat):tmA a (i+1)=tmA a i<<<1:=by rw [tmA]
theorem yad {a c:El} {i:Nat} (h:zfr a i=1):tmX a c (i+1)=xr (tmX a c i) (Nat.repeat yj i c):=by rw [tmX,if_pos h]
theorem yaj {a c:El} {i:Nat} (h: ¬zfr a i=1):tmX a c (i+1)=tmX a c i:=by rw [tmX,if_neg h]
def zr2:Spec:=fun args hp K=>match args,hp with
  | [.u64 a,.u64 b,.u64 c,.u64 d],[]=>K (.tup [.u64 (zne (c,d) (a,b)).1,.u64 (zne (c,d) (a,b)).2]) []
  |_,_=>False
set_option maxHeartbeats 4000000 in
theorem z3j:zm prog 129 zr2:=by
  refine zk yz zg rfl func129 rfl call129 (D:=yez) ?_ ?_
  ·intro args hp K h
   unfold zr2 at h
   split at h
   ·exact Nat.le_of_ble_eq_true rfl
   ·exact h.elim
  ·intro args hp K h
   unfold zr2 at h
   split at h
   ·rename_i a b c d
    rw [←yc8] at h
    refine za ?_
    refine zp (Ix (128)) (fun q=>⟨[(0,.u64 (tmA a (min q.i 64))),(1,.u64 (tmA b (q.i-64))),(2,.u64 (Nat.repeat yj q.i (c,d)).1),(3,.u64 (Nat.repeat yj q.i (c,d)).2),(10,.u64 (tmX (a,b) (c,d) q.i).1),(11,.u64 (tmX (a,b) (c,d) q.i).2),(12,.int q.i)],[]⟩) (fun q=>(128)-q.i) ⟨0,Nat.zero_le _⟩ [] ?_ ?_
    ·repeat ((conv=>whnf);refine zb ?_)
     conv=>whnf
     refine zq (congrArg SV.u64 (show a=tmA a (min 0 64) by rw [Nat.zero_min];unfold tmA;rfl)) ?_
     repeat ((conv=>whnf);refine zb ?_)
     conv=>whnf
     refine zq (congrArg SV.u64 (show b=tmA b (0-64) by rw [Nat.zero_sub];unfold tmA;rfl)) ?_
     repeat ((conv=>whnf);refine zb ?_)
     conv=>whnf
     refine zq (congrArg (fun e:El=>SV.u64 e.1) (show z0=tmX (a,b) (c,d) 0 by unfold tmX;rfl)) ?_
     repeat ((conv=>whnf);refine zb ?_)
     conv=>whnf
     exact zh (congrArg (fun e:El=>SV.u64 e.2) (show z0=tmX (a,b) (c,d) 0 by unfold tmX;rfl))
    ·intro q
     have hi:=q.hi
     have hrep:Nat.repeat yj (q.i+1) (c,d)=yj ((Nat.repeat yj q.i (c,d)).1,(Nat.repeat yj q.i (c,d)).2):=rfl
     by_cases h4:q.i<128
     ·by_cases h63:63<q.i
      ·have hbt:zfr (a,b) q.i=tmA b (q.i-64)>>>UInt64.ofNat (UInt64.ofNat 63).toNat:=by unfold zfr;rw [if_pos h63];rfl
       by_cases hb:zfr (a,b) q.i=1
       ·have hdb:decide (tmA b (q.i-64)>>>UInt64.ofNat (UInt64.ofNat 63).toNat=UInt64.ofNat 1)=true:=decide_eq_true (by rw [←hbt];exact hb)
        have hX:=yad (c:=(c,d)) hb
        by_cases hw:(Nat.repeat yj q.i (c,d)).2&&&1=1
        ·have hdl:decide ((Nat.repeat yj q.i (c,d)).2&&&UInt64.ofNat 1=UInt64.ofNat 1)=true:=decide_eq_true hw
         have hH:=zkb (c:=(Nat.repeat yj q.i (c,d)).1) hw
         rw [←hrep] at hH
         repeat ((conv=>whnf);first|refine zu ?_|refine zi ?_|refine zj ?_|refine zb ?_|refine zw (by first|exact hdb|exact hdl) ?_|refine zo (by first|exact hdb|exact hdl) ?_|refine zn (by first|exact hdb|exact hdl) ?_)
         conv=>whnf
         conv=>whnf
         refine ⟨⟨q.i+1,h4⟩,[],by show (128)-(q.i+1)<(128)-q.i;omega,?_⟩
         repeat ((conv=>whnf);refine zb ?_)
         conv=>whnf
         refine zq (congrArg SV.u64 (show tmA a (min q.i 64)=tmA a (min (q.i+1) 64) by rw [show min q.i 64=min (q.i+1) 64 by omega])) ?_
         repeat ((conv=>whnf);refine zb ?_)
         conv=>whnf
         refine zq (congrArg SV.u64 (show tmA b (q.i-64)<<<1=tmA b (q.i+1-64) by rw [show q.i+1-64=(q.i-64)+1 by omega];exact (zlq b _).symm)) ?_
         repeat ((conv=>whnf);refine zb ?_)
         conv=>whnf
         refine zq (congrArg SV.u64 (show _=(Nat.repeat yj (q.i+1) (c,d)).1 by rw [hH]<;>rfl)) ?_
         repeat ((conv=>whnf);refine zb ?_)
         conv=>whnf
         refine zq (congrArg SV.u64 (show _=(Nat.repeat yj (q.i+1) (c,d)).2 by rw [hH]<;>rfl)) ?_
         repeat ((conv=>whnf);refine zb ?_)
         conv=>whnf
         refine zq (congrArg SV.u64 (show _=(tmX (a,b) (c,d) (q.i+1)).1 by rw [hX]<;>rfl)) ?_
         repeat ((conv=>whnf);refine zb ?_)
         conv=>whnf
         exact zh (congrArg SV.u64 (show _=(tmX (a,b) (c,d) (q.i+1)).2 by rw [hX]<;>rfl))
        ·have hdl:decide ((Nat.repeat yj q.i (c,d)).2&&&UInt64.ofNat 1=UInt64.ofNat 1)=false:=decide_eq_false hw
         have hH:=zjz (c:=(Nat.repeat yj q.i (c,d)).1) hw
         rw [←hrep] at hH
         repeat ((conv=>whnf);first|refine zu ?_|refine zi ?_|refine zj ?_|refine zb ?_|refine zw (by first|exact hdb|exact hdl) ?_|refine zo (by first|exact hdb|exact hdl) ?_|refine zn (by first|exact hdb|exact hdl) ?_)
         conv=>whnf
         conv=>whnf
         refine ⟨⟨q.i+1,h4⟩,[],by show (128)-(q.i+1)<(128)-q.i;omega,?_⟩
         repeat ((conv=>whnf);refine zb ?_)
         conv=>whnf
         refine zq (congrArg SV.u64 (show tmA a (min q.i 64)=tmA a (min (q.i+1) 64) by rw [show min q.i 64=min (q.i+1) 64 by omega])) ?_
         repeat ((conv=>whnf);refine zb ?_)
         conv=>whnf
         refine zq (congrArg SV.u64 (show tmA b (q.i-64)<<<1=tmA b (q.i+1-64) by rw [show q.i+1-64=(q.i-64)+1 by omega];exact (zlq b _).symm)) ?_
         repeat ((conv=>whnf);refine zb ?_)
         conv=>whnf
         refine zq (congrArg SV.u64 (show _=(Nat.repeat yj (q.i+1) (c,d)).1 by rw [hH]<;>rfl)) ?_
         repeat ((conv=>whnf);refine zb ?_)
         conv=>whnf
         refine zq (congrArg SV.u64 (show _=(Nat.repeat yj (q.i+1) (c,d)).2 by rw [hH]<;>rfl)) ?_
         repeat ((conv=>whnf);refine zb ?_)
         conv=>whnf
         refine zq (congrArg SV.u64 (show _=(tmX (a,b) (c,d) (q.i+1)).1 by rw [hX]<;>rfl)) ?_
         repeat ((conv=>whnf);refine zb ?_)
         conv=>whnf
         exact zh (congrArg SV.u64 (show _=(tmX (a,b) (c,d) (q.i+1)).2 by rw [hX]<;>rfl))
       ·have hdb:decide (tmA b (q.i-64)>>>UInt64.ofNat (UInt64.ofNat 63).toNat=UInt64.ofNat 1)=false:=decide_eq_false (by rw [←hbt];exact hb)
        have hX:=yaj (c:=(c,d)) hb
        by_cases hw:(Nat.repeat yj q.i (c,d)).2&&&1=1
        ·have hdl:decide ((Nat.repeat yj q.i (c,d)).2&&&UInt64.ofNat 1=UInt64.ofNat 1)=true:=decide_eq_true hw
         have hH:=zkb (c:=(Nat.repeat yj q.i (c,d)).1) hw
         rw [←hrep] at hH
         repeat ((conv=>whnf);first|refine zu ?_|refine zi ?_|refine zj ?_|refine zb ?_|refine zw (by first|exact hdb|exact hdl) ?_|refine zo (by first|exact hdb|exact hdl) ?_|refine zn (by first|exact hdb|exact hdl) ?_)
         conv=>whnf
         conv=>whnf
         refine ⟨⟨q.i+1,h4⟩,[],by show (128)-(q.i+1)<(128)-q.i;omega,?_⟩
         repeat ((conv=>whnf);refine zb ?_)
         conv=>whnf
         refine zq (congrArg SV.u64 (show tmA a (min q.i 64)=tmA a (min (q.i+1) 64) by rw [show min q.i 64=min (q.i+1) 64 by omega])) ?_
         repeat ((conv=>whnf);refine zb ?_)
         conv=>whnf
         refine zq (congrArg SV.u64 (show tmA b (q.i-64)<<<1=tmA b (q.i+1-64) by rw [show q.i+1-64=(q.i-64)+1 by omega];exact (zlq b _).symm)) ?_
         repeat ((conv=>whnf);refine zb ?_)
         conv=>whnf
         refine zq (congrArg SV.u64 (show _=(Nat.repeat yj (q.i+1) (c,d)).1 by rw [hH]<;>rfl)) ?_
         repeat ((conv=>whnf);refine zb ?_)
         conv=>whnf
         refine zq (congrArg SV.u64 (show _=(Nat.repeat yj (q.i+1) (c,d)).2 by rw [hH]<;>rfl)) ?_
         repeat ((conv=>whnf);refine zb ?_)
         conv=>whnf
         refine zq (congrArg SV.u64 (show _=(tmX (a,b) (c,d) (q.i+1)).1 by rw [hX]<;>rfl)) ?_
         repeat ((conv=>whnf);refine zb ?_)
         conv=>whnf
         exact zh (congrArg SV.u64 (show _=(tmX (a,b) (c,d) (q.i+1)).2 by rw [hX]<;>rfl))
        ·have hdl:decide ((Nat.repeat yj q.i (c,d)).2&&&UInt64.ofNat 1=UInt64.ofNat 1)=false:=decide_eq_false hw
         have hH:=zjz (c:=(Nat.repeat yj q.i (c,d)).1) hw
         rw [←hrep] at hH
         repeat ((conv=>whnf);first|refine zu ?_|refine zi ?_|refine zj ?_|refine zb ?_|refine zw (by first|exact hdb|exact hdl) ?_|refine zo (by first|exact hdb|exact hdl) ?_|refine zn (by first|exact hdb|exact hdl) ?_)
         conv=>whnf
         conv=>whnf
         refine ⟨⟨q.i+1,h4⟩,[],by show (128)-(q.i+1)<(128)-q.i;omega,?_⟩
         repeat ((conv=>whnf);refine zb ?_)
         conv=>whnf
         refine zq (congrArg SV.u64 (show tmA a (min q.i 64)=tmA a (min (q.i+1) 64) by rw [show min q.i 64=min (q.i+1) 64 by omega])) ?_
         repeat ((conv=>whnf);refine zb ?_)
         conv=>whnf
         refine zq (congrArg SV.u64 (show tmA b (q.i-64)<<<1=tmA b (q.i+1-64) by rw [show q.i+1-64=(q.i-64)+1 by omega];exact (zlq b _).symm)) ?_
         repeat ((conv=>whnf);refine zb ?_)
         conv=>whnf
         refine zq (congrArg SV.u64 (show _=(Nat.repeat yj (q.i+1) (c,d)).1 by rw [hH]<;>rfl)) ?_
         repeat ((conv=>whnf);refine zb ?_)
         conv=>whnf
         refine zq (congrArg SV.u64 (show _=(Nat.repeat yj (q.i+1) (c,d)).2 by rw [hH]<;>rfl)) ?_
         repeat ((conv=>whnf);refine zb ?_)
         conv=>whnf
         refine zq (congrArg SV.u64 (show _=(tmX (a,b) (c,d) (q.i+1)).1 by rw [hX]<;>rfl)) ?_
         repeat ((conv=>whnf);refine zb ?_)
         conv=>whnf
         exact zh (congrArg SV.u64 (show _=(tmX (a,b) (c,d) (q.i+1)).2 by rw [hX]<;>rfl))
      ·have hbt:zfr (a,b) q.i=tmA a (min q.i 64)>>>UInt64.ofNat (UInt64.ofNat 63).toNat:=by unfold zfr;rw [if_neg h63,show min q.i 64=q.i by omega];rfl
       by_cases hb:zfr (a,b) q.i=1
       ·have hdb:decide (tmA a (min q.i 64)>>>UInt64.ofNat (UInt64.ofNat 63).toNat=UInt64.ofNat 1)=true:=decide_eq_true (by rw [←hbt];exact hb)
        have hX:=yad (c:=(c,d)) hb
        by_cases hw:(Nat.repeat yj q.i (c,d)).2&&&1=1
        ·have hdl:decide ((Nat.repeat yj q.i (c,d)).2&&&UInt64.ofNat 1=UInt64.ofNat 1)=true:=decide_eq_true hw
         have hH:=zkb (c:=(Nat.repeat yj q.i (c,d)).1) hw
         rw [←hrep] at hH
         repeat ((conv=>whnf);first|refine zu ?_|refine zi ?_|refine zj ?_|refine zb ?_|refine zw (by first|exact hdb|exact hdl) ?_|refine zo (by first|exact hdb|exact hdl) ?_|refine zn (by first|exact hdb|exact hdl) ?_)
         conv=>whnf
         conv=>whnf
         refine ⟨⟨q.i+1,h4⟩,[],by show (128)-(q.i+1)<(128)-q.i;omega,?_⟩
         repeat ((conv=>whnf);refine zb ?_)
         conv=>whnf
         refine zq (congrArg SV.u64 (show tmA a (min q.i 64)<<<1=tmA a (min (q.i+1) 64) by rw [show min (q.i+1) 64=min q.i 64+1 by omega];exact (zlq a _).symm)) ?_
         repeat ((conv=>whnf);refine zb ?_)
         conv=>whnf
         refine zq (congrArg SV.u64 (show tmA b (q.i-64)=tmA b (q.i+1-64) by rw [show q.i+1-64=q.i-64 by omega])) ?_
         repeat ((conv=>whnf);refine zb ?_)
         conv=>whnf
         refine zq (congrArg SV.u64 (show _=(Nat.repeat yj (q.i+1) (c,d)).1 by rw [hH]<;>rfl)) ?_
         repeat ((conv=>whnf);refine zb ?_)
         conv=>whnf
         refine zq (congrArg SV.u64 (show _=(Nat.repeat yj (q.i+1) (c,d)).2 by rw [hH]<;>rfl)) ?_
         repeat ((conv=>whnf);refine zb ?_)
         conv=>whnf
         refine zq (congrArg SV.u64 (show _=(tmX (a,b) (c,d) (q.i+1)).1 by rw [hX]<;>rfl)) ?_
         repeat ((conv=>whnf);refine zb ?_)
         conv=>whnf
         exact zh (congrArg SV.u64 (show _=(tmX (a,b) (c,d) (q.i+1)).2 by rw [hX]<;>rfl))
        ·have hdl:decide ((Nat.repeat yj q.i (c,d)).2&&&UInt64.ofNat 1=UInt64.ofNat 1)=false:=decide_eq_false hw
         have hH:=zjz (c:=(Nat.repeat yj q.i (c,d)).1) hw
         rw [←hrep] at hH
         repeat ((conv=>whnf);first|refine zu ?_|refine zi ?_|refine zj ?_|refine zb ?_|refine zw (by first|exact hdb|exact hdl) ?_|refine zo (by first|exact hdb|exact hdl) ?_|refine zn (by first|exact hdb|exact hdl) ?_)
         conv=>whnf
         conv=>whnf
         refine ⟨⟨q.i+1,h4⟩,[],by show (128)-(q.i+1)<(128)-q.i;omega,?_⟩
         repeat ((conv=>whnf);refine zb ?_)
         conv=>whnf
         refine zq (congrArg SV.u64 (show tmA a (min q.i 64)<<<1=tmA a (min (q.i+1) 64) by rw [show min (q.i+1) 64=min q.i 64+1 by omega];exact (zlq a _).symm)) ?_
         repeat ((conv=>whnf);refine zb ?_)
         conv=>whnf
         refine zq (congrArg SV.u64 (show tmA b (q.i-64)=tmA b (q.i+1-64) by rw [show q.i+1-64=q.i-64 by omega])) ?_
         repeat ((conv=>whnf);refine zb ?_)
         conv=>whnf
         refine zq (congrArg SV.u64 (show _=(Nat.repeat yj (q.i+1) (c,d)).1 by rw [hH]<;>rfl)) ?_
         repeat ((conv=>whnf);refine zb ?_)
         conv=>whnf
         refine zq (congrArg SV.u64 (show _=(Nat.repeat yj (q.i+1) (c,d)).2 by rw [hH]<;>rfl)) ?_
         repeat ((conv=>whnf);refine zb ?_)
         conv=>whnf
         refine zq (congrArg SV.u64 (show _=(tmX (a,b) (c,d) (q.i+1)).1 by rw [hX]<;>rfl)) ?_
         repeat ((conv=>whnf);refine zb ?_)
         conv=>whnf
         exact zh (congrArg SV.u64 (show _=(tmX (a,b) (c,d) (q.i+1)).2 by rw [hX]<;>rfl))
       ·have hdb:decide (tmA a (min q.i 64)>>>UInt64.ofNat (UInt64.ofNat 63).toNat=UInt64.ofNat 1)=false:=decide_eq_false (by rw [←hbt];exact hb)
        have hX:=yaj (c:=(c,d)) hb
        by_cases hw:(Nat.repeat yj q.i (c,d)).2&&&1=1
        ·have hdl:decide ((Nat.repeat yj q.i (c,d)).2&&&UInt64.ofNat 1=UInt64.ofNat 1)=true:=decide_eq_true hw
         have hH:=zkb (c:=(Nat.repeat yj q.i (c,d)).1) hw
         rw [←hrep] at hH
         repeat ((conv=>whnf);first|refine zu ?_|refine zi ?_|refine zj ?_|refine zb ?_|refine zw (by first|exact hdb|exact hdl) ?_|refine zo (by first|exact hdb|exact hdl) ?_|refine zn (by first|exact hdb|exact hdl) ?_)
         conv=>whnf
         conv=>whnf
         refine ⟨⟨q.i+1,h4⟩,[],by show (128)-(q.i+1)<(128)-q.i;omega,?_⟩
         repeat ((conv=>whnf);refine zb ?_)
         conv=>whnf
         refine zq (congrArg SV.u64 (show tmA a (min q.i 64)<<<1=tmA a (min (q.i+1) 64) by rw [show min (q.i+1) 64=min q.i 64+1 by omega];exact (zlq a _).symm)) ?_
         repeat ((conv=>whnf);refine zb ?_)
         conv=>whnf
         refine zq (congrArg SV.u64 (show tmA b (q.i-64)=tmA b (q.i+1-64) by rw [show q.i+1-64=q.i-64 by omega])) ?_
         repeat ((conv=>whnf);refine zb ?_)
         conv=>whnf
         refine zq (congrArg SV.u64 (show _=(Nat.repeat yj (q.i+1) (c,d)).1 by rw [hH]<;>rfl)) ?_
         repeat ((conv=>whnf);refine zb ?_)
         conv=>whnf
         refine zq (congrArg SV.u64 (show _=(Nat.repeat yj (q.i+1) (c,d)).2 by rw [hH]<;>rfl)) ?_
         repeat ((conv=>whnf);refine zb ?_)
         conv=>whnf
         refine zq (congrArg SV.u64 (show _=(tmX (a,b) (c,d) (q.i+1)).1 by rw [hX]<;>rfl)) ?_
         repeat ((conv=>whnf);refine zb ?_)
         conv=>whnf
         exact zh (congrArg SV.u64 (show _=(tmX (a,b) (c,d) (q.i+1)).2 by rw [hX]<;>rfl))
        ·have hdl:decide ((Nat.repeat yj q.i (c,d)).2&&&UInt64.ofNat 1=UInt64.ofNat 1)=false:=decide_eq_false hw
         have hH:=zjz (c:=(Nat.repeat yj q.i (c,d)).1) hw
         rw [←hrep] at hH
         repeat ((conv=>whnf);first|refine zu ?_|refine zi ?_|refine zj ?_|refine zb ?_|refine zw (by first|exact hdb|exact hdl) ?_|refine zo (by first|exact hdb|exact hdl) ?_|refine zn (by first|exact hdb|exact hdl) ?_)
         conv=>whnf
         conv=>whnf
         refine ⟨⟨q.i+1,h4⟩,[],by show (128)-(q.i+1)<(128)-q.i;omega,?_⟩
         repeat ((conv=>whnf);refine zb ?_)
         conv=>whnf
         refine zq (congrArg SV.u64 (show tmA a (min q.i 64)<<<1=tmA a (min (q.i+1) 64) by rw [show min (q.i+1) 64=min q.i 64+1 by omega];exact (zlq a _).symm)) ?_
         repeat ((conv=>whnf);refine zb ?_)
         conv=>whnf
         refine zq (congrArg SV.u64 (show tmA b (q.i-64)=tmA b (q.i+1-64) by rw [show q.i+1-64=q.i-64 by omega])) ?_
         repeat ((conv=>whnf);refine zb ?_)
         conv=>whnf
         refine zq (congrArg SV.u64 (show _=(Nat.repeat yj (q.i+1) (c,d)).1 by rw [hH]<;>rfl)) ?_
         repeat ((conv=>whnf);refine zb ?_)
         conv=>whnf
         refine zq (congrArg SV.u64 (show _=(Nat.repeat yj (q.i+1) (c,d)).2 by rw [hH]<;>rfl)) ?_
         repeat ((conv=>whnf);refine zb ?_)
         conv=>whnf
         refine zq (congrArg SV.u64 (show _=(tmX (a,b) (c,d) (q.i+1)).1 by rw [hX]<;>rfl)) ?_
         repeat ((conv=>whnf);refine zb ?_)
         conv=>whnf
         exact zh (congrArg SV.u64 (show _=(tmX (a,b) (c,d) (q.i+1)).2 by rw [hX]<;>rfl))
     ·have e4:q.i=128:=by omega
      rw [e4]
      refine za ?_
      exact ze [] h
   ·exact h.elim
end Go.Sym.Z

namespace Go.Sym.Cha
open Go.Sym.Lp
def zgu (x:UInt32) (n:Nat):UInt32:=x<<<UInt32.ofNat n|||x>>>UInt32.ofNat (32-n)
def g32 (x:List UInt32) (i:Nat):UInt32:=x.getD i 0
def qs (x:List UInt32) (a b d n:Nat):List UInt32:=
  let y:=x.set a (g32 x a+g32 x b)
  y.set d (zgu (g32 y d^^^g32 y a) n)
def qr (x:List UInt32) (a b c d:Nat):List UInt32:=qs (qs (qs (qs x a b d 16) c d b 12) a b d 8) c d b 7
theorem ydb (x:List UInt32) (a b d n:Nat):(qs x a b d n).length=x.length:=by unfold qs;simp
theorem z6y (x:List UInt32) (a b c d:Nat):(qr x a b c d).length=x.length:=by unfold qr;simp [ydb]
def zij (x:List UInt32):Nat→List UInt32
  |0=>x
  |i+1=>qr (zij x i) i (4+i) (8+i) (12+i)
def zik (x:List UInt32):Nat→List UInt32
  |0=>x
  |i+1=>qr (zik x i) i (4+(i+1)%4) (8+(i+2)%4) (12+(i+3)%4)
def zif (x:List UInt32):Nat→List UInt32
  |0=>x
  |r+1=>zik (zij (zif x r) 4) 4
theorem zhv (x:List UInt32): ∀i,(zij x i).length=x.length
  |0=>rfl
  |i+1=>by simp only [zij,z6y];exact zhv x i
theorem zh4 (x:List UInt32): ∀i,(zik x i).length=x.length
  |0=>rfl
  |i+1=>by simp only [zik,z6y];exact zh4 x i
theorem zni (x:List UInt32): ∀r,(zif x r).length=x.length
  |0=>rfl
  |r+1=>by simp only [zif,zh4,zhv];exact zni x r
def outG (x:List UInt32) (i:Nat):UInt8:=((g32 x (i/ 4)+g32 (zif x 10) (i/ 4))>>>UInt32.ofNat (8*(i%4))).toUInt8
def zod (x:List UInt32):List UInt8:=(List.range 64).map (outG x)
theorem zgr (x:List UInt32):(zod x).length=64:=zz _ _
def wd (s:List UInt8) (a:Nat):UInt32:=(s.getD a 0).toUInt32|||(s.getD (a+1) 0).toUInt32<<<8|||(s.getD (a+2) 0).toUInt32<<<16|||(s.getD (a+3) 0).toUInt32<<<24
def yfe (key nonce:List UInt8) (n:UInt32) (i:Nat):UInt32:=
  if i=0 then 1634760805 else if i=1 then 857760878 else if i=2 then 2036477234 else if i=3 then 1797285236 else if i<12 then wd key (4*(i-4)) else if i=12 then n else wd nonce (4*(i-13))
def beg (key nonce:List UInt8) (n:UInt32):List UInt32:=(List.range 16).map (yfe key nonce n)
theorem zmk (key nonce:List UInt8) (n:UInt32):(beg key nonce n).length=16:=zz _ _
def blk (key nonce:List UInt8) (n:UInt32):List UInt8:=zod (beg key nonce n)
theorem zfm (key nonce:List UInt8) (n:UInt32):(blk key nonce n).length=64:=zgr _
def zdc (key nonce:List UInt8) (n:UInt32) (s:List UInt8) (i:Nat):UInt8:=s.getD i 0^^^(blk key nonce (n+UInt32.ofNat (i/ 64))).getD (i%64) 0
def xl (key nonce:List UInt8) (n:UInt32) (s:List UInt8):List UInt8:=(List.range s.length).map (zdc key nonce n s)
theorem zgv (key nonce:List UInt8) (n:UInt32) (s:List UInt8):(xl key nonce n s).length=s.length:=zz _ _
theorem z3g {key nonce:List UInt8} {n:UInt32} {x:List UInt32} (h:x.length=16) (h0:x.getD 0 0=1634760805) (h1:x.getD 1 0=857760878) (h2:x.getD 2 0=2036477234) (h3:x.getD 3 0=1797285236):
    ovr ((ovr x 4 (fun i=>wd key (4*i)) 8).set 12 n) 13 (fun i=>wd nonce (4*i)) 3=beg key nonce n:=by
  have l1:=yc (l:=x) (a:=4) (i:=8) (by omega) (fun i=>wd key (4*i))
  have l2:((ovr x 4 (fun i=>wd key (4*i)) 8).set 12 n).length=16:=by rw [List.length_set,l1,h]
  have l3:=yc (l:=(ovr x 4 (fun i=>wd key (4*i)) 8).set 12 n) (a:=13) (i:=3) (by omega) (fun i=>wd nonce (4*i))
  unfold beg
  apply List.ext_getElem?
  intro j
  by_cases hj:j<16
  ·rw [List.getElem?_map,List.getElem?_range hj,Option.map_some,zc2 (by omega),List.getElem?_set,zc2 (by omega)]
   have g: ∀k v,k<16→x.getD k 0=v→x[k]?=some v:=fun k v hk hv=>by
     rw [List.getD_eq_getElem?_getD,List.getElem?_eq_getElem (by omega)] at hv
     rw [List.getElem?_eq_getElem (by omega)]
     exact congrArg some hv
   unfold yfe
   by_cases a0:j=0
   ·subst a0;rw [if_neg (by omega),if_neg (by omega),if_neg (by omega),if_pos rfl];exact g 0 _ (by omega) h0
   by_cases a1:j=1
   ·subst a1;rw [if_neg (by omega),if_neg (by omega),if_neg (by omega),if_neg (by omega),if_pos rfl];exact g 1 _ (by omega) h1
   by_cases a2:j=2
   ·subst a2;rw [if_neg (by omega),if_neg (by omega),if_neg (by omega),if_neg (by omega),if_neg (by omega),if_pos rfl];exact g 2 _ (by omega) h2
   by_cases a3:j=3
   ·subst a3;rw [if_neg (by omega),if_neg (by omega),if_neg (by omega),if_neg (by omega),if_neg (by omega),if_neg (by omega),if_pos rfl];exact g 3 _ (by omega) h3
   rw [if_neg a0,if_neg a1,if_neg a2,if_neg a3]
   by_cases a4:j<12
   ·rw [if_neg (by omega),if_neg (by omega),if_pos (by omega),if_pos a4]
   by_cases a5:j=12
   ·subst a5;rw [if_neg (by omega),if_pos rfl,if_pos (by rw [l1];omega),if_neg (by omega),if_pos rfl]
   ·rw [if_pos (by omega),if_neg a4,if_neg a5]
  ·rw [List.getElem?_eq_none (by omega),List.getElem?_eq_none (by simp;omega)]
end Go.Sym.Cha
namespace Go.Sym.Cha
open Go.Sym.Lp
def c0:List UInt32:=1634760805 ::857760878 ::2036477234 ::1797285236 ::List.replicate 12 0
theorem z34:c0.length=16:=rfl
theorem z3d (key nonce:List UInt8) (n:UInt32):ovr ((ovr c0 4 (fun i=>wd key (4*i)) 8).set 12 n) 13 (fun i=>wd nonce (4*i)) 3=beg key nonce n:=z3g rfl rfl rfl rfl rfl
theorem zyl (s:List UInt8) (a:Nat):wd (s.drop a) 0=wd s a:=by
  have g: ∀j,(s.drop a).getD j 0=s.getD (a+j) 0:=fun j=>by rw [List.getD_eq_getElem?_getD,List.getElem?_drop,List.getD_eq_getElem?_getD]
  unfold wd
  rw [g,g,g,g];rfl
end Go.Sym.Cha
namespace Go.Sym.Cha
open Go.Sym.Lp
def zlb (key nonce:List UInt8) (n:UInt32) (l:List UInt8) (k:Nat):List UInt8:=ovr l 0 (zdc key nonce n l) k
theorem z3m {key nonce:List UInt8} {n:UInt32} {l:List UInt8} {k:Nat} (h:k≤l.length):zlb key nonce n l k=xl key nonce n (l.take k)++l.drop k:=by
  unfold zlb ovr xl
  rw [List.take_zero,List.nil_append,Nat.zero_add,List.length_take,Nat.min_eq_left h]
  congr 1
  refine yi fun i hi=>?_
  have e:(l.take k).getD i 0=l.getD i 0:=by rw [List.getD_eq_getElem?_getD,List.getElem?_take_of_lt hi,←List.getD_eq_getElem?_getD]
  unfold zdc
  rw [e]
theorem u32_add (c:UInt32) (t:Nat):c+UInt32.ofNat t+1=c+UInt32.ofNat (t+1):=by
  rw [UInt32.add_assoc];congr 1
  rw [UInt32.ofNat_add];rfl
end Go.Sym.Cha
namespace Go.Sym.Cha
theorem yik (x:UInt32):(x&&&UInt32.ofNat 255).toUInt8=x.toUInt8:=by
  apply UInt8.toNat_inj.1
  rw [UInt32.toNat_toUInt8,UInt32.toNat_toUInt8,UInt32.toNat_and,show (UInt32.ofNat 255).toNat=2^8-1 by decide,Nat.and_two_pow_sub_one_eq_mod]
  omega
end Go.Sym.Cha

namespace Go.Sym.Sha
open Go.Sym.Lp Go.Sym.Cha
def zkt (x:UInt64) (n:Nat):UInt64:=x<<<UInt64.ofNat n|||x>>>UInt64.ofNat (64-n)
def g64 (x:List UInt64) (i:Nat):UInt64:=x.getD i 0
def zb5 (b:List UInt8):Nat→UInt64
  |0=>0
  |i+1=>zb5 b i<<<8|||(b.getD i 0).toUInt64
def num (b:List UInt8):UInt64:=zb5 b b.length
def s0 (x:UInt32):UInt32:=zgu x 25^^^zgu x 14^^^x>>>3
def s1 (y:UInt32):UInt32:=zgu y 15^^^zgu y 13^^^y>>>10
def y8 (b:List UInt8):Nat→List UInt32
  |0=>List.replicate 64 0
  |i+1=>(y8 b i).set i (if i<16 then (num ((b.drop (4*i)).take 4)).toUInt32 else
    g32 (y8 b i) (i-16)+g32 (y8 b i) (i-7)+s0 (g32 (y8 b i) (i-15))+s1 (g32 (y8 b i) (i-2)))
theorem zic (b:List UInt8): ∀i,(y8 b i).length=64
  |0=>rfl
  |i+1=>by simp only [y8,List.length_set];exact zic b i
theorem z4k {b:List UInt8} {i:Nat} (h:i<16):y8 b (i+1)=(y8 b i).set i (num ((b.drop (4*i)).take 4)).toUInt32:=by simp only [y8];rw [if_pos h]
theorem z6z {b:List UInt8} {i:Nat} (h: ¬i<16):y8 b (i+1)=(y8 b i).set i (g32 (y8 b i) (i-16)+g32 (y8 b i) (i-7)+s0 (g32 (y8 b i) (i-15))+s1 (g32 (y8 b i) (i-2))):=by simp only [y8];rw [if_neg h]
def z4d (s:List UInt32) (k w:UInt32):List UInt32:=
  let e:=g32 s 4;let a:=g32 s 0
  let t:=g32 s 7+(zgu e 26^^^zgu e 21^^^zgu e 7)+(e&&&g32 s 5^^^ ~~~e&&&g32 s 6)+k+w
  let u:=(zgu a 30^^^zgu a 19^^^zgu a 10)+(a&&&g32 s 1^^^a&&&g32 s 2^^^g32 s 1&&&g32 s 2)
  [t+u,g32 s 0,g32 s 1,g32 s 2,g32 s 3+t,g32 s 4,g32 s 5,g32 s 6]
def zby (k:List UInt64) (w s:List UInt32):Nat→List UInt32
  |0=>s
  |i+1=>z4d (zby k w s i) (g64 k i>>>32).toUInt32 (g32 w i)
theorem zq0 {k:List UInt64} {w s:List UInt32} (h:s.length=8): ∀i,(zby k w s i).length=8
  |0=>h
  |_+1=>rfl
def zjt (k h:List UInt64) (b:List UInt8):List UInt64:=
  (List.range 8).map fun i=>((g64 h i).toUInt32+g32 (zby k (y8 b 64) ((List.range 8).map fun i=>(g64 h i).toUInt32) 64) i).toUInt64
theorem z10 (k h:List UInt64) (b:List UInt8):(zjt k h b).length=8:=zz _ _
def z0 (x:UInt64):UInt64:=zkt x 63^^^zkt x 56^^^x>>>7
def z1 (y:UInt64):UInt64:=zkt y 45^^^zkt y 3^^^y>>>6
def y7 (b:List UInt8):Nat→List UInt64
  |0=>List.replicate 80 0
  |i+1=>(y7 b i).set i (if i<16 then num ((b.drop (8*i)).take 8) else
    g64 (y7 b i) (i-16)+g64 (y7 b i) (i-7)+z0 (g64 (y7 b i) (i-15))+z1 (g64 (y7 b i) (i-2)))
theorem zhw (b:List UInt8): ∀i,(y7 b i).length=80
  |0=>rfl
  |i+1=>by simp only [y7,List.length_set];exact zhw b i
theorem zw0 {b:List UInt8} {i:Nat} (h:i<16):y7 b (i+1)=(y7 b i).set i (num ((b.drop (8*i)).take 8)):=by simp only [y7];rw [if_pos h]
theorem zw9 {b:List UInt8} {i:Nat} (h: ¬i<16):y7 b (i+1)=(y7 b i).set i (g64 (y7 b i) (i-16)+g64 (y7 b i) (i-7)+z0 (g64 (y7 b i) (i-15))+z1 (g64 (y7 b i) (i-2))):=by simp only [y7];rw [if_neg h]
def z64 (s:List UInt64) (k w:UInt64):List UInt64:=
  let e:=g64 s 4;let a:=g64 s 0
  let t:=g64 s 7+(zkt e 50^^^zkt e 46^^^zkt e 23)+(e&&&g64 s 5^^^ ~~~e&&&g64 s 6)+k+w
  let u:=(zkt a 36^^^zkt a 30^^^zkt a 25)+(a&&&g64 s 1^^^a&&&g64 s 2^^^g64 s 1&&&g64 s 2)
  [t+u,g64 s 0,g64 s 1,g64 s 2,g64 s 3+t,g64 s 4,g64 s 5,g64 s 6]
def zce (k w s:List UInt64):Nat→List UInt64
  |0=>s
  |i+1=>z64 (zce k w s i) (g64 k i) (g64 w i)
theorem zqo {k w s:List UInt64} (h:s.length=8): ∀i,(zce k w s i).length=8
  |0=>h
  |_+1=>rfl
def zfq (k h:List UInt64) (b:List UInt8):List UInt64:=
  (List.range 8).map fun i=>g64 h i+g64 (zce k (y7 b 80) h 80) i
theorem z07 (k h:List UInt64) (b:List UInt8):(zfq k h b).length=8:=zz _ _
def bk (n:Int):Nat:=if n=256 then 64 else 128
def zam (n:Int) (k h:List UInt64) (b:List UInt8):List UInt64:=if n=256 then zjt k h b else zfq k h b
theorem z0v (n:Int) (k h:List UInt64) (b:List UInt8):(zam n k h b).length=8:=by
  unfold zam;split
  ·exact z10 _ _ _
  ·exact z07 _ _ _
def xb (n:Int) (k h:List UInt64) (B:List UInt8):Nat→List UInt64
  |0=>h
  |t+1=>zam n k (xb n k h B t) ((B.drop (bk n*t)).take (bk n))
theorem zep {n:Int} {k h:List UInt64} (hh:h.length=8) (B:List UInt8): ∀t,(xb n k h B t).length=8
  |0=>hh
  |_+1=>z0v _ _ _ _
end Go.Sym.Sha
namespace Go.Sym.Sha
open Go.Sym.Lp Go.Sym.Cha
def wrH (n:Int) (k h:List UInt64) (R s:List UInt8):List UInt64:=xb n k h (R++s) ((R++s).length/ bk n)
def wrR (n:Int) (R s:List UInt8):List UInt8:=(R++s).drop (bk n*((R++s).length/ bk n))
theorem zxt (n:Int):0<bk n:=by unfold bk;split<;>decide
theorem zfn (n:Int) (R s:List UInt8):(wrR n R s).length=(R.length+s.length)%bk n:=by
  unfold wrR
  rw [List.length_drop,List.length_append]
  have:=Nat.div_add_mod (R.length+s.length) (bk n)
  omega
theorem zrc (n:Int) (R s:List UInt8):(wrR n R s).length<bk n:=by rw [zfn];exact Nat.mod_lt _ (zxt n)
theorem zba {n:Int} {k h:List UInt64} (hh:h.length=8) (R s:List UInt8):(wrH n k h R s).length=8:=zep hh _ _
def zbl (n:Int) (r:Nat):Nat:=1+(2*bk n-1-bk n/ 8-r)%bk n+bk n/ 8
def zcm (L:Nat) (all:UInt64):Nat→List UInt8
  |0=>(List.replicate L 0).set 0 128
  |i+1=>(zcm L all i).set (L-1-i) ((all*8)>>>UInt64.ofNat (8*i)).toUInt8
theorem zdz (L:Nat) (all:UInt64): ∀i,(zcm L all i).length=L
  |0=>by simp [zcm]
  |i+1=>by simp only [zcm,List.length_set];exact zdz L all i
def ziy (n:Int) (r:Nat) (all:UInt64):List UInt8:=zcm (zbl n r) all 8
theorem z6g (n:Int) (r:Nat) (all:UInt64):(ziy n r all).length=zbl n r:=zdz _ _ _
theorem zh5 {n:Int} {R:List UInt8} (h:R.length<bk n) (all:UInt64):(wrR n R (ziy n R.length all)).length=0:=by
  rw [zfn,z6g]
  unfold zbl
  have hb:bk n=64∨bk n=128:=by unfold bk;split<;>simp
  rcases hb with e|e<;>rw [e] at h ⊢ <;>omega
def outG (w:List UInt64) (size j:Nat):UInt8:=(g64 w (j/ size)>>>UInt64.ofNat (8*(size-1-j%size))).toUInt8
def zgh (w:List UInt64) (size:Nat):List UInt8:=(List.range (8*size)).map (outG w size)
theorem zhe (w:List UInt64) (size:Nat):(zgh w size).length=8*size:=zz _ _
def dl (n:Int):Nat:=if n=256 then 32 else 48
def zei (n:Int) (k h:List UInt64) (R:List UInt8) (all:UInt64):List UInt8:=
  (zgh (wrH n k h R (ziy n R.length all)) (bk n/ 16)).take (n/ 8).toNat
def KC:List UInt64:= [0x428a2f98d728ae22,0x7137449123ef65cd,0xb5c0fbcfec4d3b2f,0xe9b5dba58189dbbc,0x3956c25bf348b538,0x59f111f1b605d019,0x923f82a4af194f9b,0xab1c5ed5da6d8118,0xd807aa98a3030242,0x12835b0145706fbe,0x243185be4ee4b28c,0x550c7dc3d5ffb4e2,0x72be5d74f27b896f,0x80deb1fe3b1696b1,0x9bdc06a725c71235,0xc19bf174cf692694,0xe49b69c19ef14ad2,0xefbe4786384f25e3,0x0fc19dc68b8cd5b5,0x240ca1cc77ac9c65,0x2de92c6f592b0275,0x4a7484aa6ea6e483,0x5cb0a9dcbd41fbd4,0x76f988da831153b5,0x983e5152ee66dfab,0xa831c66d2db43210,0xb00327c898fb213f,0xbf597fc7beef0ee4,0xc6e00bf33da88fc2,0xd5a79147930aa725,0x06ca6351e003826f,0x142929670a0e6e70,0x27b70a8546d22ffc,0x2e1b21385c26c926,0x4d2c6dfc5ac42aed,0x53380d139d95b3df,0x650a73548baf63de,0x766a0abb3c77b2a8,0x81c2c92e47edaee6,0x92722c851482353b,0xa2bfe8a14cf10364,0xa81a664bbc423001,0xc24b8b70d0f89791,0xc76c51a30654be30,0xd192e819d6ef5218,0xd69906245565a910,0xf40e35855771202a,0x106aa07032bbd1b8,0x19a4c116b8d2d0c8,0x1e376c085141ab53,0x2748774cdf8eeb99,0x34b0bcb5e19b48a8,0x391c0cb3c5c95a63,0x4ed8aa4ae3418acb,0x5b9cca4f7763e373,0x682e6ff3d6b2b8a3,0x748f82ee5defb2fc,0x78a5636f43172f60,0x84c87814a1f0ab72,0x8cc702081a6439ec,0x90befffa23631e28,0xa4506cebde82bde9,0xbef9a3f7b2c67915,0xc67178f2e372532b,0xca273eceea26619c,0xd186b8c721c0c207,0xeada7dd6cde0eb1e,0xf57d4f7fee6ed178,0x06f067aa72176fba,0x0a637dc5a2c898a6,0x113f9804bef90dae,0x1b710b35131c471b,0x28db77f523047d84,0x32caab7b40c72493,0x3c9ebe0a15c9bebc,0x431d67c49c100d4c,0x4cc5d4becb3e42b6,0x597f299cfc657e2a,0x5fcb6fab3ad6faec,0x6c44198c4a475817]
theorem zm0:KC.length=80:=rfl
def HB (n:Int):List UInt64:=if n=256 then [0x6a09e667,0xbb67ae85,0x3c6ef372,0xa54ff53a,0x510e527f,0x9b05688c,0x1f83d9ab,0x5be0cd19] else [0xcbbb9d5dc1059ed8,0x629a292a367cd507,0x9159015a3070dd17,0x152fecd8f70e5939,0x67332667ffc00b31,0x8eb44a8768581511,0xdb0c2e0d64f98fa7,0x47b5481dbefa4fa4]
theorem zoy (n:Int):(HB n).length=8:=by unfold HB;split<;>rfl
def x4 (n:Int) (s:List UInt8):List UInt8:=zei n KC (wrH n KC (HB n) [] s) (wrR n [] s) (UInt64.ofNat s.length)
theorem zjv {n:Int} (hn:n=256∨n=384) (k h:List UInt64) (R:List UInt8) (all:UInt64):(zei n k h R all).length=dl n:=by
  unfold zei dl
  rw [List.length_take,zhe]
  rcases hn with rfl|rfl
  ·rfl
  ·rfl
theorem zmr {n:Int} (hn:n=256∨n=384) (s:List UInt8):(x4 n s).length=dl n:=zjv hn _ _ _ _
end Go.Sym.Sha

namespace Go.Sym.Hk
open Go.Sym.Lp Go.Sym.Sha
def kN (n:Int) (key:List UInt8):List UInt8:=if bk n<key.length then x4 n key else key
def pdX (n:Nat) (key:List UInt8) (b:UInt8):List UInt8:=(List.range n).map fun i=>key.getD i 0^^^b
theorem zar (n:Nat) (key:List UInt8) (b:UInt8):(pdX n key b).length=n:=zz _ _
def mP (n:Int) (key:List UInt8) (b:UInt8):List UInt64:=wrH n KC (HB n) [] (pdX (bk n) (kN n key) b)
theorem z56 (n:Int) (key:List UInt8) (b:UInt8):(mP n key b).length=8:=zba (zoy n) _ _
def dgF (n:Int) (H:List UInt64) (s:List UInt8):List UInt8:=zei n KC (wrH n KC H [] s) (wrR n [] s) (UInt64.ofNat (bk n)+UInt64.ofNat s.length)
theorem zmd {n:Int} (hn:n=256∨n=384) (H:List UInt64) (s:List UInt8):(dgF n H s).length=dl n:=zjv hn _ _ _ _
def zoe (n:Int) (key s:List UInt8):List UInt8:=dgF n (mP n key 92) (dgF n (mP n key 54) s)
theorem ztw {n:Int} (hn:n=256∨n=384) (key s:List UInt8):(zoe n key s).length=dl n:=zmd hn _ _
def xv (n:Int) (key info:List UInt8):Nat→List UInt8×List UInt8
  |0=>([],[])
  |i+1=>((xv n key info i).1++zoe n key ((xv n key info i).2++info++ [UInt8.ofInt ((i:Int)+1)]),zoe n key ((xv n key info i).2++info++ [UInt8.ofInt ((i:Int)+1)]))
theorem zj9 {n:Int} (hn:n=256∨n=384) (key info:List UInt8): ∀i,(xv n key info i).1.length=dl n*i∧(xv n key info i).2.length≤48
  |0=>⟨rfl,Nat.zero_le _⟩
  |i+1=>by
   have h:=zj9 hn key info i
   have hm:=ztw hn key ((xv n key info i).2++info++ [UInt8.ofInt ((i:Int)+1)])
   simp only [xv,List.length_append,Nat.mul_succ]
   refine ⟨by omega,?_⟩
   rw [hm];unfold dl;split<;>decide
theorem ycz (n:Int):0<dl n:=by unfold dl;split<;>decide
def exF (n:Int) (key info:List UInt8) (size:Nat):List UInt8:=(xv n key info ((size+dl n-1)/ dl n)).1.take size
theorem z9q {n:Int} (hn:n=256∨n=384) (key info:List UInt8) (size:Nat):(exF n key info size).length=size:=by
  unfold exF
  rw [List.length_take,(zj9 hn key info _).1]
  have hp:=ycz n
  have h1:=Nat.div_add_mod (size+dl n-1) (dl n)
  have h2:=Nat.mod_lt (size+dl n-1) hp
  omega
end Go.Sym.Hk
