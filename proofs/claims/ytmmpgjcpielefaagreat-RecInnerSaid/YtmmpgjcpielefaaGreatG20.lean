/-
  Contracts of functions of the program, each said of symbolic values, and plain laws; no condition beyond each statement's own.
-/
import Derived.Test.YtmmpgjcpielefaaGreatG19
import Derived.Test.YtmmpgjcpielefaaGreatG17
set_option linter.unusedSimpArgs false
set_option linter.unusedVariables false
namespace Go.Sym.Z
open Go Go.Proofs.Tryz Go.Sym.Lp Go.Sym.Gcm
set_option maxRecDepth 100000
attribute [local irreducible] ldE zlx ld yj hf4 zga
def ydq:List (Nat×List PStep):= [(2,[⟨0,[]⟩,⟨1,[0]⟩,⟨2,[0]⟩,⟨3,[]⟩]),(9,[⟨0,[]⟩,⟨1,[0]⟩,⟨2,[1]⟩,⟨3,[1]⟩,⟨4,[]⟩,⟨5,[]⟩,⟨6,[]⟩,⟨7,[0,1,2,3,4,5,6]⟩,⟨8,[0,1,2,3,4,5,6]⟩,⟨9,[]⟩,⟨10,[1,2,3,4,5,6,7,8,9]⟩,⟨11,[1,2,3,4,5,6,7,8,9]⟩,⟨12,[]⟩,⟨13,[]⟩,⟨14,[]⟩]),(10,[⟨0,[]⟩,⟨1,[0]⟩,⟨2,[1]⟩,⟨3,[1]⟩,⟨4,[]⟩,⟨5,[]⟩,⟨6,[]⟩,⟨7,[0,1,2,3,4,5,6]⟩,⟨8,[0,1,2,3,4,5,6]⟩,⟨9,[]⟩,⟨10,[1,2,3,4,5,6,7,8,9]⟩,⟨11,[1,2,3,4,5,6,7,8,9]⟩,⟨12,[]⟩,⟨13,[]⟩,⟨14,[]⟩]),(22,[⟨0,[]⟩,⟨1,[0]⟩,⟨2,[0,1]⟩,⟨3,[0,1]⟩,⟨4,[1,2,3]⟩,⟨5,[1,2,3]⟩,⟨6,[]⟩,⟨7,[]⟩])]
def yf4:List (Nat×List PStep):= [(1,[⟨0,[]⟩,⟨1,[]⟩,⟨2,[0,1]⟩,⟨3,[0,1]⟩,⟨4,[0,1]⟩,⟨5,[0,1]⟩,⟨6,[0,1]⟩,⟨7,[]⟩,⟨8,[]⟩,⟨9,[]⟩]),(2,[⟨0,[]⟩,⟨1,[]⟩,⟨2,[0,1]⟩,⟨3,[0,1]⟩,⟨4,[0,1]⟩,⟨5,[0,1]⟩,⟨6,[0,1]⟩,⟨7,[]⟩,⟨8,[]⟩,⟨9,[]⟩]),(10,[⟨0,[]⟩,⟨1,[]⟩,⟨2,[]⟩,⟨3,[0,1,2]⟩,⟨4,[0,1,2,3]⟩,⟨5,[0,1,2,3]⟩,⟨6,[0,1,2,3]⟩,⟨7,[0,1,2,4,5,6]⟩,⟨8,[0,1,2,4,5,6]⟩,⟨9,[0,1,2]⟩,⟨10,[0,1,2]⟩,⟨11,[]⟩,⟨12,[0,1,2,3,4,5,6,7,8,9,10,11]⟩,⟨13,[0,1,2,3,4,5,6,7,8,9,10,11]⟩,⟨14,[0,1,2,3,4,5,6,7,8,9,10,11]⟩,⟨15,[0,1,2,3,4,5,6,7,8,9,10,11,12,13,14]⟩,⟨16,[0,1,2,3,4,5,6,7,8,9,10,11,12,13,14]⟩,⟨17,[0,1,2,3,4,5,6,7,8,9,10,11,12,13,14]⟩,⟨18,[0,1,2,3,4,5,6,7,8,9,10,11]⟩,⟨19,[]⟩,⟨20,[]⟩]),(11,[⟨0,[]⟩,⟨1,[]⟩,⟨2,[0,1]⟩,⟨3,[0,1,2]⟩,⟨4,[0,1,3]⟩,⟨5,[0,1,3]⟩,⟨6,[0,1]⟩,⟨7,[0,1]⟩,⟨8,[0,1]⟩,⟨9,[]⟩,⟨10,[]⟩,⟨11,[]⟩]),(12,[⟨0,[]⟩,⟨1,[]⟩,⟨2,[0,1]⟩,⟨3,[0,1,2]⟩,⟨4,[0,1,3]⟩,⟨5,[0,1,3]⟩,⟨6,[0,1]⟩,⟨7,[0,1]⟩,⟨8,[0,1]⟩,⟨9,[]⟩,⟨10,[]⟩,⟨11,[]⟩])]
theorem z12: ∀k,k<4→ ∀i:Nat,i<16→zal .and (i:Int) ((8/ 2^k:Nat):Int)=((i&&&8/ 2^k:Nat):Int):=by decide+kernel
theorem zzp (n:Nat):UInt64.ofInt (n:Int)=UInt64.ofNat n:=by
  apply UInt64.toNat_inj.1
  unfold UInt64.ofInt
  rw [UInt64.toNat_ofNat',UInt64.toNat_ofNat']
  omega
def z65:Spec:=fun args hp K=>match args,hp with
  | [.agg [.u64 a,.u64 b]],[]=>K (.ptr 0 0 0 []) [.mk 201 [.arr64 32 (tb (a,b)),.arr64 16 fl,.u64 0,.u64 0]]
  |_,_=>False
set_option maxHeartbeats 4000000 in
theorem ybq:zm prog 146 z65:=by
  refine zk yz (zc z9r zg) rfl func146 rfl call146 (D:=ydq) ?_ ?_
  ·intro args hp K h
   unfold z65 at h
   split at h
   ·exact Nat.le_of_ble_eq_true rfl
   ·exact h.elim
  ·intro args hp K h
   unfold z65 at h
   split at h
   ·rename_i a b
    refine za ?_
    refine zp (Ix (4)) (fun q=>⟨[(3,.ptr 1 0 0 []),(4,.int ((8/ 2^q.i:Nat):Int)),(5,.ptr 2 0 0 [])],[.mk 183 [.u64 a,.u64 b],.mk 201 [.arr64 32 (tbO (a,b) q.i),.arr64 16 (List.replicate 16 0),.u64 0,.u64 0],.mk 183 [.u64 (Nat.repeat yj q.i (a,b)).1,.u64 (Nat.repeat yj q.i (a,b)).2]]⟩) (fun q=>(4)-q.i) ⟨0,Nat.zero_le _⟩ [0,1,2] ?_ ?_
    ·exact zt
    ·intro q
     have hi:=q.hi
     by_cases h4:q.i<4
     ·have hb:0<8/ 2^q.i:=by
        have:q.i=0∨q.i=1∨q.i=2∨q.i=3:=by omega
        rcases this with e|e|e|e<;>rw [e]<;>decide
      generalize hB:8/ 2^q.i=bit at*
      refine za ?_
      obtain ⟨bn,hbn⟩: ∃bn,bn=8/ 2^(q.i+1):=⟨_,rfl⟩
      have hb8:bn≤8:=by rw [hbn];exact Nat.div_le_self _ _
      have hbt:(bit:Int).tdiv 2=(bn:Int):=by
        rw [hbn,Int.tdiv_eq_ediv_of_nonneg (by omega),Nat.pow_succ,←Nat.div_div_eq_div_mul,hB]
        omega
      have hand: ∀i:Nat,i<16→zal .and (i:Int) (bit:Int)=((i&&&bit:Nat):Int):=by rw [←hB];exact z12 q.i h4
      refine zp (Ix (16)) (fun r=>⟨[(3,.ptr 1 0 0 []),(4,.int (bit:Int)),(5,.ptr 2 0 0 []),(18,.int r.i)],[.mk 183 [.u64 a,.u64 b],.mk 201 [.arr64 32 (tbI bit (Nat.repeat yj q.i (a,b)) (tbO (a,b) q.i) r.i),.arr64 16 (List.replicate 16 0),.u64 0,.u64 0],.mk 183 [.u64 (Nat.repeat yj q.i (a,b)).1,.u64 (Nat.repeat yj q.i (a,b)).2]]⟩) (fun r=>(16)-r.i) ⟨0,Nat.zero_le _⟩ [0,1,2] ?_ ?_
      ·exact zt
      ·intro r
       have hri:=r.hi
       have hlr:=(zjh bit (Nat.repeat yj q.i (a,b)) (tbO (a,b) q.i) r.i).trans (zmf (a,b) q.i)
       have hA:off (ye [] ((r.i:Int)).toNat zcc.sz)=2*r.i:=by rw [zv];show 0+((r.i:Int)).toNat*2=_;omega
       have hA2:off (ye (ye [] ((r.i:Int)).toNat zcc.sz) (0+1) 1)=2*r.i+1:=by rw [zv,hA]
       by_cases h5:r.i<16
       ·have hbb:=hand r.i h5
        by_cases h6:r.i&&&bit=0
        ·have hd:decide (zal .and (r.i:Int) (bit:Int)≠0)=false:=decide_eq_false (by rw [hbb,h6];simp)
         repeat ((conv=>whnf);first|refine zu ?_|refine zi ?_|refine zj ?_|refine zb ?_|refine zw (by first|exact hd) ?_|refine zo (by first|exact hd) ?_|refine zn (by first|exact hd) ?_)
         conv=>whnf
         refine ⟨⟨r.i+1,h5⟩,[0,1,2],by show (16)-(r.i+1)<(16)-r.i;omega,?_⟩
         repeat ((conv=>whnf);refine zb ?_)
         conv=>whnf
         exact zh (congrArg (fun x=>SV.agg [SV.arr64 32 x,SV.arr64 16 (List.replicate 16 0),SV.u64 0,SV.u64 0]) (show tbI bit (Nat.repeat yj q.i (a,b)) (tbO (a,b) q.i) r.i=tbI bit (Nat.repeat yj q.i (a,b)) (tbO (a,b) q.i) (r.i+1) by simp only [tbI];rw [if_pos h6]))
        ·have hd:decide (zal .and (r.i:Int) (bit:Int)≠0)=true:=decide_eq_true (by rw [hbb];omega)
         repeat ((conv=>whnf);first|refine zu ?_|refine zi ?_|refine zj ?_|refine zb ?_|refine zw (by first|exact hd) ?_|refine zo (by first|exact hd) ?_|refine zn (by first|exact hd) ?_)
         conv=>whnf
         conv=>whnf
         refine ⟨⟨r.i+1,h5⟩,[0,1,2],by show (16)-(r.i+1)<(16)-r.i;omega,?_⟩
         repeat ((conv=>whnf);refine zb ?_)
         conv=>whnf
         exact zh (congrArg (fun x=>SV.agg [SV.arr64 32 x,SV.arr64 16 (List.replicate 16 0),SV.u64 0,SV.u64 0]) (show _=tbI bit (Nat.repeat yj q.i (a,b)) (tbO (a,b) q.i) (r.i+1) by simp only [tbI];rw [if_neg h6,hA,hA2];rfl))
       ·have e5:r.i=16:=by omega
        rw [e5]
        have hp2:(2:Int)≠0∧yb ((bit:Int).tdiv 2):=⟨by decide,by rw [hbt];unfold yb;omega⟩
        refine za ?_
        conv=>whnf
        refine ⟨⟨q.i+1,h4⟩,[0,1,3],by show (4)-(q.i+1)<(4)-q.i;omega,?_⟩
        repeat ((conv=>whnf);refine zb ?_)
        conv=>whnf
        refine zq (congrArg (fun x=>SV.agg [SV.arr64 32 x,SV.arr64 16 (List.replicate 16 0),SV.u64 0,SV.u64 0]) (show tbI bit (Nat.repeat yj q.i (a,b)) (tbO (a,b) q.i) 16=tbI (8/ 2^q.i) (Nat.repeat yj q.i (a,b)) (tbO (a,b) q.i) 16 by rw [hB])) ?_
        repeat ((conv=>whnf);refine zb ?_)
        conv=>whnf
        exact zh (congrArg SV.int (show (bit:Int).tdiv 2=((8/ 2^(q.i+1):Nat):Int) by rw [hbt,hbn]))
     ·have e4:q.i=4:=by omega
      rw [e4]
      refine za ?_
      refine zp (Ix (16)) (fun r=>⟨[(3,.ptr 1 0 0 []),(55,.int r.i)],[.mk 183 [.u64 a,.u64 b],.mk 201 [.arr64 32 (tbO (a,b) 4),.arr64 16 (ovr (List.replicate 16 0) 0 zga r.i),.u64 0,.u64 0],.mk 183 [.u64 (Nat.repeat yj 4 (a,b)).1,.u64 (Nat.repeat yj 4 (a,b)).2]]⟩) (fun r=>(16)-r.i) ⟨0,Nat.zero_le _⟩ [0,1,2] ?_ ?_
      ·exact zt
      ·intro r
       have hri:=r.hi
       by_cases h5:r.i<16
       ·have hlo:=yc (l:=List.replicate 16 (0:UInt64)) (a:=0) (i:=r.i) (by rw [List.length_replicate];omega) zga
        rw [List.length_replicate] at hlo
        have hI:((r.i:Int)).toNat=r.i:=Int.toNat_natCast _
        refine za ?_
        rw [zzp]
        refine zp (Ix (4)) (fun s=>⟨[(3,.ptr 1 0 0 []),(55,.int r.i),(7,.int r.i),(8,.ptr 3 0 0 []),(61,.int s.i)],[.mk 183 [.u64 a,.u64 b],.mk 201 [.arr64 32 (tbO (a,b) 4),.arr64 16 (ovr (List.replicate 16 0) 0 zga r.i),.u64 0,.u64 0],.mk 183 [.u64 (Nat.repeat yj 4 (a,b)).1,.u64 (Nat.repeat yj 4 (a,b)).2],.mk 183 [.u64 (Nat.repeat yj s.i (0,UInt64.ofNat r.i)).1,.u64 (Nat.repeat yj s.i (0,UInt64.ofNat r.i)).2]]⟩) (fun s=>(4)-s.i) ⟨0,Nat.zero_le _⟩ [0,1,2,3] ?_ ?_
        ·exact zt
        ·intro s
         have hsi:=s.hi
         by_cases h6:s.i<4
         ·refine za ?_
          refine ⟨⟨s.i+1,h6⟩,[0,1,2,3],by show (4)-(s.i+1)<(4)-s.i;omega,?_⟩
          exact zt
         ·have e6:s.i=4:=by omega
          rw [e6]
          refine za ?_
          refine ⟨⟨r.i+1,h5⟩,[0,1,2],by show (16)-(r.i+1)<(16)-r.i;omega,?_⟩
          repeat ((conv=>whnf);refine zb ?_)
          conv=>whnf
          refine zq (congrArg (fun x=>SV.agg [SV.arr64 32 (tbO (a,b) 4),SV.arr64 16 x,SV.u64 0,SV.u64 0]) (z8 (by rw [List.length_replicate];omega) ?hv ?hkk)) ?_
          case hkk=>show ((r.i:Int)).toNat=0+r.i;omega
          case hv=>unfold zga hf4;rfl
          exact zt
       ·have e5:r.i=16:=by omega
        have hfl:ovr (List.replicate 16 0) 0 zga 16=fl:=yy List.length_replicate zga
        rw [e5,hfl]
        refine za ?_
        conv=>whnf
        exact ze [1] h
   ·exact h.elim
def z2t:Spec:=fun args hp K=>match args,hp with
  | [.ptr 0 0 0 [],.sl 1 0 0 o n c],[.mk t0 [.arr64 32 T,.arr64 16 F,.u64 y1,.u64 y2],.mk t [.arr8 m l]]=>Pre (T.length=32∧F.length=16∧16≤n∧off o+n≤l.length)
      (K (.tup []) [.mk t0 [.arr64 32 T,.arr64 16 F,.u64 (zhi T F (xr (ld ((l.drop (off o)).take 16)) (y1,y2))).1,.u64 (zhi T F (xr (ld ((l.drop (off o)).take 16)) (y1,y2))).2],.mk t [.arr8 m l]])
  |_,_=>False
set_option maxHeartbeats 4000000 in
theorem z4l:zm prog 149 z2t:=by
  refine zk yz (zc zyw zg) rfl func149 rfl call149 (D:=yf4) ?_ ?_
  ·intro args hp K h
   unfold z2t at h
   split at h
   ·exact Nat.le_of_ble_eq_true rfl
   ·exact h.elim
  ·intro args hp K h
   unfold z2t at h
   split at h
   ·rename_i o n c t0 T F y1 y2 t m l
    obtain ⟨⟨hT,hF,hn,hl⟩,h⟩:=zl h
    refine za ?_
    obtain ⟨X,hX⟩: ∃X,X=xr (ld ((l.drop (off o)).take 16)) (y1,y2):=⟨_,rfl⟩
    have hX1:(ld ((l.drop (off o)).take 16)).1^^^y1=X.1:=by rw [hX];rfl
    have hX2:(ld ((l.drop (off o)).take 16)).2^^^y2=X.2:=by rw [hX];rfl
    rw [←hX] at h
    rw [hX1,hX2]
    refine zp (Ix (32)) (fun q=>⟨[(0,.ptr 0 0 0 []),(4,.ptr 2 0 0 []),(5,.ptr 3 0 0 []),(28,.int q.i)],[.mk t0 [.arr64 32 T,.arr64 16 F,.u64 y1,.u64 y2],.mk t [.arr8 m l],.mk 183 [.u64 X.1,.u64 X.2],.mk 183 [.u64 (zks T F X q.i).1,.u64 (zks T F X q.i).2]]⟩) (fun q=>(32)-q.i) ⟨0,Nat.zero_le _⟩ [0,1,2,3] ?_ ?_
    ·exact zt
    ·intro q
     have hi:=q.hi
     have hm:(q.i:Int).tmod 16=((q.i%16:Nat):Int):=by rw [Int.tmod_eq_emod_of_nonneg (by omega)];omega
     have hk:(4*(q.i:Int).tmod 16).toNat=4*(q.i%16):=by omega
     have hP:((zks T F X q.i).2&&&UInt64.ofNat 15).toNat<16:=by have:=zt5 (zks T F X q.i).2;exact this ▸ Nat.mod_lt _ (by decide)
     by_cases h4:q.i<32
     ·by_cases h16:16≤q.i
      ·have hdg:X.1>>>UInt64.ofNat (4*(q.i:Int).tmod 16).toNat&&&UInt64.ofNat 15=zj2 X q.i:=by unfold zj2;rw [if_pos h16,hk];rfl
       have hdl:=zmv X q.i
       rw [←hdg] at hdl
       have hO:off (ye [] (X.1>>>UInt64.ofNat (4*(q.i:Int).tmod 16).toNat&&&UInt64.ofNat 15).toNat zcc.sz)=2*(X.1>>>UInt64.ofNat (4*(q.i:Int).tmod 16).toNat&&&UInt64.ofNat 15).toNat:=by rw [zv];show 0+_*2=_;omega
       have hO2:off (ye (ye [] (X.1>>>UInt64.ofNat (4*(q.i:Int).tmod 16).toNat&&&UInt64.ofNat 15).toNat zcc.sz) (0+1) 1)=2*(X.1>>>UInt64.ofNat (4*(q.i:Int).tmod 16).toNat&&&UInt64.ofNat 15).toNat+1:=by rw [zv,hO]
       refine za ?_
       conv=>whnf
       refine ⟨⟨q.i+1,h4⟩,[0,1,2,3],by show (32)-(q.i+1)<(32)-q.i;omega,?_⟩
       repeat ((conv=>whnf);refine zb ?_)
       conv=>whnf
       exact zh (congrArg (fun e:El=>SV.agg [SV.u64 e.1,SV.u64 e.2]) (show (_,_)=zks T F X (q.i+1) by simp only [zks,stp];rw [←hdg,hO,hO2];rfl))
      ·have hdg:X.2>>>UInt64.ofNat (4*(q.i:Int).tmod 16).toNat&&&UInt64.ofNat 15=zj2 X q.i:=by unfold zj2;rw [if_neg h16,hk];rfl
       have hdl:=zmv X q.i
       rw [←hdg] at hdl
       have hO:off (ye [] (X.2>>>UInt64.ofNat (4*(q.i:Int).tmod 16).toNat&&&UInt64.ofNat 15).toNat zcc.sz)=2*(X.2>>>UInt64.ofNat (4*(q.i:Int).tmod 16).toNat&&&UInt64.ofNat 15).toNat:=by rw [zv];show 0+_*2=_;omega
       have hO2:off (ye (ye [] (X.2>>>UInt64.ofNat (4*(q.i:Int).tmod 16).toNat&&&UInt64.ofNat 15).toNat zcc.sz) (0+1) 1)=2*(X.2>>>UInt64.ofNat (4*(q.i:Int).tmod 16).toNat&&&UInt64.ofNat 15).toNat+1:=by rw [zv,hO]
       refine za ?_
       conv=>whnf
       refine ⟨⟨q.i+1,h4⟩,[0,1,2,3],by show (32)-(q.i+1)<(32)-q.i;omega,?_⟩
       repeat ((conv=>whnf);refine zb ?_)
       conv=>whnf
       exact zh (congrArg (fun e:El=>SV.agg [SV.u64 e.1,SV.u64 e.2]) (show (_,_)=zks T F X (q.i+1) by simp only [zks,stp];rw [←hdg,hO,hO2];rfl))
     ·have e4:q.i=32:=by omega
      rw [e4]
      have hpm:zks T F X 32=zhi T F X:=by unfold zhi;rfl
      rw [hpm]
      refine za ?_
      exact ze [0,1] h
   ·exact h.elim
end Go.Sym.Z

namespace Go.Sym.Gcm
open Go.Sym Go.Sym.Lp
theorem zoj {v:List UInt8} (hv:v.length≤16):z9 (List.replicate 16 0) (off []) (List.take (min v.length 16) v)=zbd v:=by
  have h1:List.take (min v.length 16) v=v:=List.take_of_length_le (by omega)
  rw [h1]
  unfold z9 zbd
  show List.take 0 _++v++List.drop (0+v.length) _=_
  rw [List.take_zero,List.nil_append,List.drop_replicate,Nat.zero_add]
theorem zq6 {v:List UInt8} (hv:v.length≤16):(zbd v).length=16:=by
  unfold zbd;rw [List.length_append,List.length_replicate];omega
theorem z28 {l:List UInt8} {n a:Nat} (h:a+16≤n) (hl:n≤l.length):zbd (((l.take n).drop a).take 16)=(l.drop a).take 16:=by
  rw [List.drop_take,List.take_take,Nat.min_eq_left (by omega)]
  exact zxu (by rw [List.length_take,List.length_drop];omega)
theorem zzi (T F:List UInt64) (y:El) {l:List UInt8} {n t:Nat} (h:16*t+16≤n) (hl:n≤l.length):
    zig T F y (l.take n) (t+1)=zhi T F (xr (ld ((l.drop (16*t)).take 16)) (zig T F y (l.take n) t)):=by
  rw [zig,z28 h hl]
theorem zyd (T F:List UInt64) (y:El) {l:List UInt8} {n t k:Nat} (h:k+16*t=n) (h0:0<k) (hk:k<16) (hl:n≤l.length):
    gaB T F y (l.take n)=zhi T F (xr (ld (zbd ((l.drop (16*t)).take k))) (zig T F y (l.take n) t)):=by
  unfold gaB
  rw [List.length_take,show (min n l.length+15)/ 16=t+1 by omega,zig,List.drop_take,List.take_take,show min 16 (n-16*t)=k by omega]
theorem zye (T F:List UInt64) (y:El) {l:List UInt8} {n t:Nat} (h:16*t=n) (hl:n≤l.length):gaB T F y (l.take n)=zig T F y (l.take n) t:=by
  unfold gaB
  rw [List.length_take,show (min n l.length+15)/ 16=t by omega]
end Go.Sym.Gcm

namespace Go.Sym.Z
open Go Go.Proofs.Tryz Go.Sym.Lp Go.Sym.Gcm
set_option maxRecDepth 100000
attribute [local irreducible] ldE zlx ld yj hf4 zga zhi zbd
def ygr:List (Nat×List PStep):= []
def ygg:List (Nat×List PStep):= []
structure Gs (n:Nat) where
  t:Nat
  x:Nat
  k:Nat
  c:Nat
  hn:k+16*t=n
  hx:0<k→x=16*t
  hc:k≤c
def z3u:Spec:=fun args hp K=>match args,hp with
  | [.ptr 0 0 0 [],.sl 1 0 0 [] n c],[.mk t0 [.arr64 32 T,.arr64 16 F,.u64 y1,.u64 y2],.mk t [.arr8 m l]]=>Pre (T.length=32∧F.length=16∧n≤l.length∧n≤c)
      (K (.tup []) [.mk t0 [.arr64 32 T,.arr64 16 F,.u64 (gaB T F (y1,y2) (l.take n)).1,.u64 (gaB T F (y1,y2) (l.take n)).2],.mk t [.arr8 m l]])
  |_,_=>False
set_option maxHeartbeats 4000000 in
theorem ycu:zm prog 147 z3u:=by
  refine zk yz (zc z4l zg) rfl func147 rfl call147 (D:=ygr) ?_ ?_
  ·intro args hp K h
   unfold z3u at h
   split at h
   ·exact Nat.le_of_ble_eq_true rfl
   ·exact h.elim
  ·intro args hp K h
   unfold z3u at h
   split at h
   ·rename_i n c t0 T F y1 y2 t m l
    obtain ⟨⟨hT,hF,hl,hc⟩,h⟩:=zl h
    have hB:(l.take n).length=n:=by rw [List.length_take];omega
    refine za ?_
    refine zp (Option (Gs n)) (fun q=>match q with
      |none=>⟨[(0,.ptr 0 0 0 []),(1,.sl 1 0 0 [] n c)],[.mk t0 [.arr64 32 T,.arr64 16 F,.u64 y1,.u64 y2],.mk t [.arr8 m l]]⟩
      |some s=>⟨[(0,.ptr 0 0 0 []),(1,.sl 1 0 0 [(s.x,1)] s.k s.c)],[.mk t0 [.arr64 32 T,.arr64 16 F,.u64 (zig T F (y1,y2) (l.take n) s.t).1,.u64 (zig T F (y1,y2) (l.take n) s.t).2],.mk t [.arr8 m l]]⟩)
      (fun q=>match q with|none=>n+1|some s=>s.k) none [0,1] ?_ ?_
    ·exact zt
    ·intro q
     cases q with
     |none=>
      by_cases h4:16≤n
      ·have hp4:T.length=32∧F.length=16∧16≤n∧off []+n≤l.length:=⟨hT,hF,h4,by show 0+_≤_;omega⟩
       refine za ?_
       rw [show zhi T F (xr (ld ((l.drop (off [])).take 16)) (y1,y2))=zig T F (y1,y2) (l.take n) (0+1) by rw [zzi T F (y1,y2) (by omega) hl];rfl]
       refine ⟨some ⟨0+1,slO c 16,n-16,c-16,by omega,fun h0=>by
         have hne:c≠16:=by omega
         rw [xt hne],by omega⟩,[0,1],by show n-16<n+1;omega,?_⟩
       exact zt
      ·by_cases h0:0<n
       ·have hvl:(List.take n (List.drop (off []) l)).length=n:=by rw [List.length_take,List.length_drop];show min n (l.length-0)=n;omega
        have hsp:=zoj (v:=List.take n (List.drop (off []) l)) (by omega)
        have hpl:=zq6 (v:=List.take n (List.drop (off []) l)) (by omega)
        have hpp:T.length=32∧F.length=16∧16≤16∧off []+16≤(zbd (List.take n (List.drop (off []) l))).length:=⟨hT,hF,by decide,by rw [hpl];decide⟩
        have htk:List.take 16 (List.drop (off []) (zbd (List.take n (List.drop (off []) l))))=zbd (List.take n (List.drop (off []) l)):=by show List.take 16 (zbd _)=_;exact List.take_of_length_le (by omega)
        have hla:=zyd T F (y1,y2) (l:=l) (n:=n) (t:=0) (k:=n) (by omega) (by omega) (by omega) hl
        rw [hla] at h
        skip
        refine za ?_
        rw [hsp]
        refine za ?_
        rw [htk]
        conv=>whnf
        exact ze [0,1] h
       ·have hno:=zye T F (y1,y2) (l:=l) (n:=n) (t:=0) (by omega) hl
        rw [hno] at h
        refine za ?_
        exact ze [0,1] h
     |some s=>
      have hsn:=s.hn
      have hsx:=s.hx
      have hsc:=s.hc
      by_cases h4:16≤s.k
      ·have hp4:T.length=32∧F.length=16∧16≤s.k∧off [(s.x,1)]+s.k≤l.length:=⟨hT,hF,h4,by have:=hsx (by omega);show s.x+_≤_;omega⟩
       have hX:=hsx (by omega)
       refine za ?_
       rw [show zhi T F (xr (ld ((l.drop (off [(s.x,1)])).take 16)) ((zig T F (y1,y2) (l.take n) s.t).1,(zig T F (y1,y2) (l.take n) s.t).2))=zig T F (y1,y2) (l.take n) (s.t+1) by rw [zzi T F (y1,y2) (by omega) hl];rw [←hX];rfl]
       refine ⟨some ⟨s.t+1,s.x+slO s.c 16,s.k-16,s.c-16,by omega,fun h0=>by
         have hne:s.c≠16:=by omega
         rw [xt hne];omega,by omega⟩,[0,1],by show s.k-16<s.k;omega,?_⟩
       exact zt
      ·by_cases h0:0<s.k
       ·have hX:=hsx h0
        have hvl:(List.take s.k (List.drop (off [(s.x,1)]) l)).length=s.k:=by rw [List.length_take,List.length_drop];show min s.k (l.length-s.x)=s.k;omega
        have hsp:=zoj (v:=List.take s.k (List.drop (off [(s.x,1)]) l)) (by omega)
        have hpl:=zq6 (v:=List.take s.k (List.drop (off [(s.x,1)]) l)) (by omega)
        have hpp:T.length=32∧F.length=16∧16≤16∧off []+16≤(zbd (List.take s.k (List.drop (off [(s.x,1)]) l))).length:=⟨hT,hF,by decide,by rw [hpl];decide⟩
        have htk:List.take 16 (List.drop (off []) (zbd (List.take s.k (List.drop (off [(s.x,1)]) l))))=zbd (List.take s.k (List.drop (off [(s.x,1)]) l)):=by show List.take 16 (zbd _)=_;exact List.take_of_length_le (by omega)
        have hla:=zyd T F (y1,y2) (l:=l) (n:=n) (t:=s.t) (k:=s.k) (by omega) (by omega) (by omega) hl
        rw [hla] at h
        rw [←hX] at h
        refine za ?_
        rw [hsp]
        refine za ?_
        rw [htk]
        conv=>whnf
        exact ze [0,1] h
       ·have hno:=zye T F (y1,y2) (l:=l) (n:=n) (t:=s.t) (by omega) hl
        rw [hno] at h
        refine za ?_
        exact ze [0,1] h
   ·exact h.elim
def zk8:Spec:=fun args hp K=>match args,hp with
  | [.str nonce,.u32 n],[]=>Pre (nonce.length=12) (K (.arr8 16 (ctr nonce n)) [])
  |_,_=>False
theorem zol:zm prog 139 zk8:=by
  refine zk yz zg rfl func139 rfl call139 (D:=ygg) ?_ ?_
  ·intro args hp K h
   unfold zk8 at h
   split at h
   ·exact Nat.le_of_ble_eq_true rfl
   ·exact h.elim
  ·intro args hp K h
   unfold zk8 at h
   split at h
   ·rename_i nonce n
    obtain ⟨hn,h⟩:=zl h
    have hsp:z9 (List.replicate 16 0) (off []) (List.take (min nonce.length 16) nonce)=zsw nonce n 0:=by
      obtain ⟨a0,a1,a2,a3,a4,a5,a6,a7,a8,a9,b0,b1,rfl⟩:=z5v hn
      rfl
    refine za ?_
    rw [hsp]
    refine zp (Ix (4)) (fun q=>⟨[(0,.str nonce),(1,.u32 n),(4,.ptr 0 0 0 []),(5,.ptr 1 0 0 []),(10,.int q.i)],[.mk 168 [.arr8 16 (List.replicate 16 0)],.mk 168 [.arr8 16 (zsw nonce n q.i)]]⟩) (fun q=>(4)-q.i) ⟨0,Nat.zero_le _⟩ [0,1] ?_ ?_
    ·exact zt
    ·intro q
     have hi:=q.hi
     have hl:=zvh hn n q.i
     have hA:((15:Int)-(q.i:Int)).toNat=15-q.i:=by omega
     have hB:(8*(q.i:Int)).toNat=8*q.i:=by omega
     by_cases h4:q.i<4
     ·refine za ?_
      refine ⟨⟨q.i+1,h4⟩,[0,1],by show (4)-(q.i+1)<(4)-q.i;omega,?_⟩
      repeat ((conv=>whnf);refine zb ?_)
      conv=>whnf
      exact zh (congrArg (fun x=>SV.agg [SV.arr8 16 x]) (show _=zsw nonce n (q.i+1) by simp only [zsw];rw [←hA,←hB];rfl))
     ·have e4:q.i=4:=by omega
      rw [←z5e hn n] at h
      rw [e4]
      refine za ?_
      conv=>whnf
      exact ze [] h
   ·exact h.elim
end Go.Sym.Z
