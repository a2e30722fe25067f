/-
  Contracts of functions of the program, each said of symbolic values, and plain laws; no condition beyond each statement's own.
-/
import Derived.Test.YtmmpgjcpielefaaG11
import Derived.Test.YtmmpgjcpielefaaG10
set_option linter.unusedSimpArgs false
set_option linter.unusedVariables false
namespace Go.Sym.A
open Go Go.Proofs.Try Go.Sym.Lp Go.Sym.Aes
set_option maxRecDepth 100000
attribute [local irreducible] box tw zb9 zmj
def z9x:List (Nat×List PStep):= [(4,[⟨0,[]⟩,⟨1,[]⟩,⟨2,[]⟩,⟨3,[0,1,2]⟩,⟨4,[0,1,2]⟩,⟨5,[0,1,2]⟩,⟨6,[0,1,2]⟩,⟨7,[0,1,2,3,4,5,6]⟩,⟨8,[0,1,2,7]⟩,⟨9,[0,1,2]⟩,⟨10,[0,1,2]⟩,⟨11,[]⟩,⟨12,[]⟩,⟨13,[]⟩]),(13,[⟨0,[]⟩,⟨1,[0]⟩,⟨2,[0,1]⟩,⟨3,[0,1,2]⟩,⟨4,[0,1,2]⟩,⟨5,[0,1,2]⟩,⟨6,[0,1]⟩,⟨7,[0,1]⟩,⟨8,[0,1]⟩,⟨9,[0,1]⟩,⟨10,[0,2,3,4,5,6,7,8,9]⟩,⟨11,[0,2,3,4,5,6,7,8,9]⟩,⟨12,[0]⟩,⟨13,[0]⟩,⟨14,[]⟩,⟨15,[]⟩]),(19,[⟨0,[]⟩,⟨1,[]⟩,⟨2,[]⟩,⟨3,[0,1,2]⟩,⟨4,[0,1,2]⟩,⟨5,[0,1,2]⟩,⟨6,[0,1,2]⟩,⟨7,[0,1,2,3,4,5,6]⟩,⟨8,[0,1,2,3,4,5,6]⟩,⟨9,[0,1,2,3,4,5,6]⟩,⟨10,[0,1,2,3,4,5,6]⟩,⟨11,[0,1,2,3,4,5,6,7,8,9,10]⟩,⟨12,[0,1,2,3,4,5,6,7,8,9,10]⟩,⟨13,[0,1,2,3,4,5,6,7,8,9,10]⟩,⟨14,[0,1,2,3,4,5,6,7,8,9,10]⟩,⟨15,[3,4,5,6,7,8,9,10,11,12,13,14]⟩,⟨16,[7,8,9,10,11,12,13,14]⟩,⟨17,[11,12,13,14]⟩,⟨18,[]⟩]),(21,[⟨0,[]⟩,⟨1,[]⟩,⟨2,[]⟩,⟨3,[0,1,2]⟩,⟨4,[0,1,2,3]⟩,⟨5,[0,1,2,3,4]⟩,⟨6,[0,1,2,3]⟩,⟨7,[0,1,2,3]⟩,⟨8,[0,1,2]⟩,⟨9,[]⟩,⟨10,[]⟩,⟨11,[]⟩]),(22,[⟨0,[]⟩,⟨1,[]⟩,⟨2,[]⟩,⟨3,[]⟩,⟨4,[0,1,2,3]⟩,⟨5,[0,1,2,3,4]⟩,⟨6,[0,1,2,3,4,5]⟩,⟨7,[0,1,2,3,4]⟩,⟨8,[0,1,2,3,4]⟩,⟨9,[0,1,2,3]⟩,⟨10,[]⟩,⟨11,[]⟩,⟨12,[]⟩]),(23,[⟨0,[]⟩,⟨1,[]⟩,⟨2,[]⟩,⟨3,[]⟩,⟨4,[0,1,2,3]⟩,⟨5,[0,1,2,3,4]⟩,⟨6,[0,1,2,3,4,5]⟩,⟨7,[0,1,2,3,4]⟩,⟨8,[0,1,2,3,4]⟩,⟨9,[0,1,2,3]⟩,⟨10,[]⟩,⟨11,[]⟩,⟨12,[]⟩]),(24,[⟨0,[]⟩,⟨1,[]⟩,⟨2,[]⟩,⟨3,[]⟩,⟨4,[0,1,2,3]⟩,⟨5,[0,1,2,3,4]⟩,⟨6,[0,1,2,3,4,5]⟩,⟨7,[0,1,2,3,4]⟩,⟨8,[0,1,2,3,4]⟩,⟨9,[0,1,2,3]⟩,⟨10,[]⟩,⟨11,[]⟩,⟨12,[]⟩]),(28,[⟨0,[]⟩,⟨1,[0]⟩,⟨2,[0]⟩,⟨3,[0]⟩,⟨4,[0,1,2,3]⟩,⟨5,[0,1,2,3]⟩,⟨6,[0,1,2,3]⟩,⟨7,[0,1,2,3]⟩,⟨8,[0,1,2,3,4,5,6,7]⟩,⟨9,[0,1,2,3,4,5,6,7,8]⟩,⟨10,[0,1,2,3,9]⟩,⟨11,[0,1,2,3]⟩,⟨12,[0,1,2,3]⟩,⟨13,[0]⟩,⟨14,[]⟩,⟨15,[]⟩])]
def zl0:Spec:=fun args hp K=>match args,hp with
  | [.ptr 0 0 0 [],.arr8 16 b],[.mk t0 [.arr8 256 tb,.sl 1 0 0 [] R c],.mk t1 [.arr8 N ks]]=>Pre (tb=box∧b.length=16∧1≤R∧R≤100∧16*R≤ks.length)
      (K (.arr8 16 (enc ks R b)) [.mk t0 [.arr8 256 tb,.sl 1 0 0 [] R c],.mk t1 [.arr8 N ks]])
  |_,_=>False
set_option maxHeartbeats 8000000 in
theorem ziy:zp prog 66 zl0:=by
  refine zo zeq (zd zp0 zk) rfl func66 rfl call66 (D:=z9x) ?_ ?_
  ·intro args hp K h
   unfold zl0 at h
   split at h
   ·exact Nat.le_of_ble_eq_true rfl
   ·exact h.elim
  ·intro args hp K h
   unfold zl0 at h
   split at h
   ·rename_i b t0 tb R c t1 N ks
    obtain ⟨⟨rfl,hb,hR,hR2,hN⟩,h⟩:=zl h
    have hB:=zva
    refine wk ?_
    refine zt (Ix (16)) (fun q=>⟨[(0,.ptr 0 0 0 []),(3,.ptr 2 0 0 []),(4,.ptr 3 0 0 []),(16,.int q.i)],[.mk t0 [.arr8 256 box,.sl 1 0 0 [] R c],.mk t1 [.arr8 N ks],.mk 103 [.arr8 16 (ovr b 0 (fun j=>b.getD j 0^^^ks.getD (16*0+j) 0) q.i)],.mk 103 [.arr8 16 (List.replicate 16 0)]]⟩) (fun q=>(16)-q.i) ⟨0,Nat.zero_le _⟩ [0,1,2,3] ?_ ?_
    ·repeat ((conv=>whnf);refine za ?_)
     exact trivial
    ·intro q
     have hi:=q.hi
     have hI:((q.i:Int)).toNat=q.i:=Int.toNat_natCast _
     have hlo:=yn (l:=b) (a:=0) (i:=q.i) (by omega) (fun j=>b.getD j 0^^^ks.getD (16*0+j) 0)
     by_cases h4:q.i<16
     ·refine wk ?_
      refine ⟨⟨q.i+1,h4⟩,[0,1,2,3],by show (16)-(q.i+1)<(16)-q.i;omega,?_⟩
      repeat ((conv=>whnf);refine za ?_)
      conv=>whnf
      refine zh (congrArg (fun x=>SV.agg [SV.arr8 16 x]) (yb (by omega) ?hv ?hkk)) ?_
      case hkk=>show q.i=0+q.i;omega
      case hv=>
        show (ovr _ _ _ _).getD q.i 0^^^ks.getD (0*16+q.i) 0=_
        rw [yt (by omega) _ (by omega),Nat.zero_mul]
      repeat ((conv=>whnf);refine za ?_)
      exact trivial
     ·have e4:q.i=16:=by omega
      rw [e4,xu hb,show (List.range 16).map (fun j=>b.getD j 0^^^ks.getD (16*0+j) 0)=zgd ks R b 0 from rfl]
      clear hlo hI hi h4 e4 q
      refine wk ?_
      refine zt (Ix ((R-1))) (fun q=>⟨[(0,.ptr 0 0 0 []),(3,.ptr 2 0 0 []),(4,.ptr 3 0 0 []),(6,.int ((q.i:Int)+1))],[.mk t0 [.arr8 256 box,.sl 1 0 0 [] R c],.mk t1 [.arr8 N ks],.mk 103 [.arr8 16 (zgd ks R b q.i)],.mk 103 [.arr8 16 (List.replicate 16 0)]]⟩) (fun q=>((R-1))-q.i) ⟨0,Nat.zero_le _⟩ [0,1,2,3] ?_ ?_
      ·repeat ((conv=>whnf);refine za ?_)
       exact trivial
      ·intro q
       have hi:=q.hi
       have hX:=zm6 ks R b q.i
       by_cases h4:q.i<R-1
       ·refine wk ?_
        generalize hXe:zgd ks R b q.i=X at*
        refine zt (Ix (16)) (fun r=>⟨[(0,.ptr 0 0 0 []),(3,.ptr 2 0 0 []),(4,.ptr 3 0 0 []),(6,.int ((q.i:Int)+1)),(7,.ptr 4 0 0 []),(42,.int r.i)],[.mk t0 [.arr8 256 box,.sl 1 0 0 [] R c],.mk t1 [.arr8 N ks],.mk 103 [.arr8 16 X],.mk 103 [.arr8 16 (List.replicate 16 0)],.mk 103 [.arr8 16 (ovr (List.replicate 16 0) 0 (fun i=>box.getD (X.getD ((i+4*(i%4))%16) 0).toNat 0) r.i)]]⟩) (fun r=>(16)-r.i) ⟨0,Nat.zero_le _⟩ [0,1,2,3,4] ?_ ?_
        ·repeat ((conv=>whnf);refine za ?_)
         exact trivial
        ·intro r
         have hri:=r.hi
         have hJ:((r.i:Int)).toNat=r.i:=Int.toNat_natCast _
         have hm4:(r.i:Int).tmod 4=((r.i%4:Nat):Int):=by rw [Int.tmod_eq_emod_of_nonneg (by omega)];omega
         have hm16:((r.i:Int)+4*(r.i:Int).tmod 4).tmod 16=(((r.i+4*(r.i%4))%16:Nat):Int):=by rw [hm4,Int.tmod_eq_emod_of_nonneg (by omega)];omega
         have hlo:=yn (l:=List.replicate 16 (0:UInt8)) (a:=0) (i:=r.i) (by rw [List.length_replicate];omega) (fun i=>box.getD (X.getD ((i+4*(i%4))%16) 0).toNat 0)
         rw [List.length_replicate] at hlo
         by_cases h5:r.i<16
         ·repeat ((conv=>whnf);first|refine zn ?_|refine zf ?_|refine zg ?_|refine za ?_|refine zq (by first|exact zby _) ?_|refine zi (by first|exact zby _) ?_|refine zj (by first|exact zby _) ?_)
          conv=>whnf
          refine ⟨⟨r.i+1,h5⟩,[0,1,2,3,4],by show (16)-(r.i+1)<(16)-r.i;omega,?_⟩
          repeat ((conv=>whnf);refine za ?_)
          conv=>whnf
          refine zh (congrArg (fun x=>SV.agg [SV.arr8 16 x]) (yb (by rw [List.length_replicate];omega) ?hv ?hkk)) ?_
          case hkk=>show r.i=0+r.i;omega
          case hv=>
            show box.getD (UInt8.toNat (X.getD (((r.i:Int)+4*(r.i:Int).tmod 4).tmod 16).toNat 0)) 0=_
            rw [hm16,Int.toNat_natCast]
          repeat ((conv=>whnf);refine za ?_)
          exact trivial
         ·have e5:r.i=16:=by omega
          rw [e5,xu (List.length_replicate),show (List.range 16).map (fun i=>box.getD (X.getD ((i+4*(i%4))%16) 0).toNat 0)=zb9 X by unfold zb9;rfl]
          clear hm4 hm16 hlo hJ hri h5 e5 r
          have hS:=zrk X
          have hRR:((R:Int)-1:Int)=((R-1:Nat):Int):=by omega
          by_cases h6:q.i+1<R-1
          ·refine wk ?_
           refine zt (Ix (4)) (fun m=>⟨[(0,.ptr 0 0 0 []),(3,.ptr 2 0 0 []),(4,.ptr 3 0 0 []),(6,.int ((q.i:Int)+1)),(7,.ptr 4 0 0 []),(9,.int (4*(m.i:Int)))],[.mk t0 [.arr8 256 box,.sl 1 0 0 [] R c],.mk t1 [.arr8 N ks],.mk 103 [.arr8 16 X],.mk 103 [.arr8 16 (List.replicate 16 0)],.mk 103 [.arr8 16 (ovr (zb9 X) 0 (zqm (zb9 X)) (4*m.i))]]⟩) (fun m=>(4)-m.i) ⟨0,Nat.zero_le _⟩ [0,1,2,3,4] ?_ ?_
           ·repeat ((conv=>whnf);refine za ?_)
            exact trivial
           ·intro m
            have hmi:=m.hi
            have hlm:=yn (l:=zb9 X) (a:=0) (i:=4*m.i) (by omega) (zqm (zb9 X))
            by_cases h8:m.i<4
            ·refine wk ?_
             refine ⟨⟨m.i+1,h8⟩,[0,1,2,3,4],by show (4)-(m.i+1)<(4)-m.i;omega,?_⟩
             repeat ((conv=>whnf);refine za ?_)
             conv=>whnf
             refine zh (congrArg (fun x=>SV.agg [SV.arr8 16 x]) (zw9 (T:=zb9 X) (c:=m.i) (by omega) rfl rfl rfl rfl rfl rfl)) ?_
             repeat ((conv=>whnf);refine za ?_)
             exact trivial
            ·have e8:m.i=4:=by omega
             rw [e8,show ovr (zb9 X) 0 (zqm (zb9 X)) (4*4)=zmj (zb9 X) by unfold zmj;exact xu hS _]
             clear hlm hmi h8 e8 m
             refine wk ?_
             refine zt (Ix (16)) (fun k=>⟨[(0,.ptr 0 0 0 []),(3,.ptr 2 0 0 []),(4,.ptr 3 0 0 []),(6,.int ((q.i:Int)+1)),(7,.ptr 4 0 0 []),(142,.int k.i)],[.mk t0 [.arr8 256 box,.sl 1 0 0 [] R c],.mk t1 [.arr8 N ks],.mk 103 [.arr8 16 (ovr X 0 (fun j=>(zmj (zb9 X)).getD j 0^^^ks.getD (16*(q.i+1)+j) 0) k.i)],.mk 103 [.arr8 16 (List.replicate 16 0)],.mk 103 [.arr8 16 (zmj (zb9 X))]]⟩) (fun k=>(16)-k.i) ⟨0,Nat.zero_le _⟩ [0,1,2,3,4] ?_ ?_
             ·repeat ((conv=>whnf);refine za ?_)
              exact trivial
             ·intro k
              have hki:=k.hi
              have hK:((k.i:Int)).toNat=k.i:=Int.toNat_natCast _
              have hQ:((q.i:Int)+1).toNat=q.i+1:=by omega
              have hlo:=yn (l:=X) (a:=0) (i:=k.i) (by omega) (fun j=>(zmj (zb9 X)).getD j 0^^^ks.getD (16*(q.i+1)+j) 0)
              have hls:(zmj (zb9 X)).length=16:=zxv _
              by_cases h7:k.i<16
              ·refine wk ?_
               refine ⟨⟨k.i+1,h7⟩,[0,1,2,3,4],by show (16)-(k.i+1)<(16)-k.i;omega,?_⟩
               repeat ((conv=>whnf);refine za ?_)
               conv=>whnf
               refine zh (congrArg (fun x=>SV.agg [SV.arr8 16 x]) (yb (by omega) ?hv ?hkk)) ?_
               case hkk=>show k.i=0+k.i;omega
               case hv=>
                 show List.getD _ k.i 0^^^ks.getD (((q.i:Int)+1).toNat*16+k.i) 0=_
                 rw [hQ,Nat.mul_comm]
               repeat ((conv=>whnf);refine za ?_)
               exact trivial
              ·have e7:k.i=16:=by omega
               have hnx:ovr X 0 (fun j=>(zmj (zb9 X)).getD j 0^^^ks.getD (16*(q.i+1)+j) 0) 16=zgd ks R b (q.i+1):=by
                 rw [xu hX]
                 simp only [zgd]
                 unfold rnd z0i
                 rw [hXe,if_pos h6]
               rw [e7,hnx]
               refine wk ?_
               refine ⟨⟨q.i+1,h4⟩,[0,1,2,3],by show ((R-1))-(q.i+1)<((R-1))-q.i;omega,?_⟩
               repeat ((conv=>whnf);refine za ?_)
               exact trivial
          ·refine wk ?_
           refine zt (Ix (16)) (fun k=>⟨[(0,.ptr 0 0 0 []),(3,.ptr 2 0 0 []),(4,.ptr 3 0 0 []),(6,.int ((q.i:Int)+1)),(7,.ptr 4 0 0 []),(142,.int k.i)],[.mk t0 [.arr8 256 box,.sl 1 0 0 [] R c],.mk t1 [.arr8 N ks],.mk 103 [.arr8 16 (ovr X 0 (fun j=>(zb9 X).getD j 0^^^ks.getD (16*(q.i+1)+j) 0) k.i)],.mk 103 [.arr8 16 (List.replicate 16 0)],.mk 103 [.arr8 16 (zb9 X)]]⟩) (fun k=>(16)-k.i) ⟨0,Nat.zero_le _⟩ [0,1,2,3,4] ?_ ?_
           ·repeat ((conv=>whnf);refine za ?_)
            exact trivial
           ·intro k
            have hki:=k.hi
            have hK:((k.i:Int)).toNat=k.i:=Int.toNat_natCast _
            have hQ:((q.i:Int)+1).toNat=q.i+1:=by omega
            have hlo:=yn (l:=X) (a:=0) (i:=k.i) (by omega) (fun j=>(zb9 X).getD j 0^^^ks.getD (16*(q.i+1)+j) 0)
            have hls:(zb9 X).length=16:=zrk X
            by_cases h7:k.i<16
            ·refine wk ?_
             refine ⟨⟨k.i+1,h7⟩,[0,1,2,3,4],by show (16)-(k.i+1)<(16)-k.i;omega,?_⟩
             repeat ((conv=>whnf);refine za ?_)
             conv=>whnf
             refine zh (congrArg (fun x=>SV.agg [SV.arr8 16 x]) (yb (by omega) ?hv ?hkk)) ?_
             case hkk=>show k.i=0+k.i;omega
             case hv=>
               show List.getD _ k.i 0^^^ks.getD (((q.i:Int)+1).toNat*16+k.i) 0=_
               rw [hQ,Nat.mul_comm]
             repeat ((conv=>whnf);refine za ?_)
             exact trivial
            ·have e7:k.i=16:=by omega
             have hnx:ovr X 0 (fun j=>(zb9 X).getD j 0^^^ks.getD (16*(q.i+1)+j) 0) 16=zgd ks R b (q.i+1):=by
               rw [xu hX]
               simp only [zgd]
               unfold rnd z0i
               rw [hXe,if_neg h6]
             rw [e7,hnx]
             refine wk ?_
             refine ⟨⟨q.i+1,h4⟩,[0,1,2,3],by show ((R-1))-(q.i+1)<((R-1))-q.i;omega,?_⟩
             repeat ((conv=>whnf);refine za ?_)
             exact trivial
       ·have e4:q.i=R-1:=by omega
        rw [e4]
        refine wk ?_
        exact ze (hp':= [.mk t0 [.arr8 256 box,.sl 1 0 0 [] R c],.mk t1 [.arr8 N ks]]) [0,1] h
   ·exact h.elim
end Go.Sym.A

namespace Go.Sym.Gcm
open Go.Sym Go.Sym.Lp Go.Sym.Aes
def gW (key:List UInt8):List UInt8:=ks key (key.length/ 4) (4*(key.length/ 4+7))
def gR (key:List UInt8):Nat:=key.length/ 4+7
theorem ztr {key:List UInt8} (h:key.length=16∨key.length=32):(gW key).length=16*gR key:=by
  unfold gW gR
  rw [zci (by omega)]
  omega
def gH (W:List UInt8) (R:Nat):El:=ld (enc W R (List.replicate 16 0))
def kb (W:List UInt8) (R:Nat) (nonce:List UInt8) (n:UInt32):List UInt8:=enc W R (ctr nonce n)
def stG (W:List UInt8) (R:Nat) (nonce:List UInt8) (n:UInt32) (s:List UInt8) (i:Nat):UInt8:=s.getD i 0^^^(kb W R nonce (n+UInt32.ofNat (i/ 16))).getD (i%16) 0
def gst (W:List UInt8) (R:Nat) (nonce:List UInt8) (n:UInt32) (s:List UInt8):List UInt8:=(List.range s.length).map (stG W R nonce n s)
theorem zpa (W:List UInt8) (R:Nat) (nonce:List UInt8) (n:UInt32) (s:List UInt8):(gst W R nonce n s).length=s.length:=z4 _ _
def zgh (W:List UInt8) (R:Nat) (nonce:List UInt8) (n:UInt32) (l:List UInt8) (k:Nat):List UInt8:=ovr l 0 (stG W R nonce n l) k
theorem zke {W:List UInt8} {R:Nat} {nonce:List UInt8} {n:UInt32} {l:List UInt8} {k:Nat} (h:k≤l.length):(zgh W R nonce n l k).length=l.length:=yn (by omega) _
theorem zxf {W:List UInt8} {R:Nat} {nonce:List UInt8} {n:UInt32} {l:List UInt8} {k:Nat} (h:k≤l.length):zgh W R nonce n l k=gst W R nonce n (l.take k)++l.drop k:=by
  unfold zgh gst ovr
  rw [List.take_zero,List.nil_append,Nat.zero_add,List.length_take,Nat.min_eq_left h]
  congr 1
  apply y9
  intro i hi
  unfold stG
  congr 1
  rw [List.getD_eq_getElem?_getD,List.getD_eq_getElem?_getD,List.getElem?_take_of_lt hi]
theorem u32_add (c:UInt32) (t:Nat):c+UInt32.ofNat t+1=c+UInt32.ofNat (t+1):=by
  rw [UInt32.add_assoc]
  congr 1
  apply UInt32.toNat_inj.1
  rw [UInt32.toNat_add,UInt32.toNat_ofNat',UInt32.toNat_ofNat']
  show (t%4294967296+1)%4294967296=(t+1)%4294967296
  omega
end Go.Sym.Gcm

namespace Go.Sym.A
open Go Go.Proofs.Try Go.Sym.Lp Go.Sym.Gcm Go.Sym.Aes
set_option maxRecDepth 100000
attribute [local irreducible] ldE ld y7 hf4 zgv zcg x2 enc ks box ctr
def z8z:List (Nat×List PStep):= []
def z9k:List (Nat×List PStep):= [(3,[⟨0,[]⟩,⟨1,[]⟩,⟨2,[]⟩,⟨3,[]⟩,⟨4,[0,1,2,3]⟩,⟨5,[0,1,2,3,4]⟩,⟨8,[0,1,2,3,4,5]⟩,⟨6,[0,1,2,3,8]⟩,⟨7,[8]⟩,⟨9,[]⟩]),(8,[⟨0,[]⟩,⟨1,[0]⟩,⟨2,[]⟩,⟨3,[]⟩,⟨4,[0,1,2,3]⟩,⟨5,[0,1,2,3]⟩,⟨6,[0,1,2,3]⟩,⟨7,[]⟩,⟨8,[]⟩,⟨9,[]⟩])]
abbrev gkey (t0 t1 t2:Nat) (h1 h2:UInt64) (R c N:Nat) (W:List UInt8):List Blk:= [.mk t0 [.ptr 1 0 0 [],.u64 h1,.u64 h2],.mk t1 [.arr8 256 box,.sl 2 0 0 [] R c],.mk t2 [.arr8 N W]]
def zop:Spec:=fun args hp K=>match args,hp with
  | [.str key],[]=>zr (decide (key.length=16∨key.length=32))
      (K (.tup [.ptr 0 0 0 [],.bool true]) [.mk 109 [.ptr 1 0 0 [],.u64 (gH (gW key) (gR key)).1,.u64 (gH (gW key) (gR key)).2],.mk 147 [.arr8 256 box,.sl 2 0 0 [] (gR key) (gR key)],.mk 103 [.arr8 (16*gR key) (gW key)]])
      (K (.tup [.nilptr,.bool false]) [])
  |_,_=>False
theorem zqo:zp prog 45 zop:=by
  refine zo xk (zd zxr (zd ziy (zd zt8 zk))) rfl func45 rfl call45 (D:=z8z) ?_ ?_
  ·intro args hp K h
   unfold zop at h
   split at h
   ·exact Nat.le_of_ble_eq_true rfl
   ·exact h.elim
  ·intro args hp K h
   unfold zop at h
   split at h
   ·rename_i key
    obtain ⟨ht,hn⟩:=zu h
    by_cases hk:key.length=16∨key.length=32
    ·have h:=ht (decide_eq_true hk)
     have hd:=decide_eq_true hk
     have hWl:=ztr hk
     have hR:gR key=key.length/ 4+7:=rfl
     have hp5:box=box∧(List.replicate 16 (0:UInt8)).length=16∧1≤gR key∧gR key≤100∧16*gR key≤(gW key).length:=⟨rfl,List.length_replicate,by omega,by omega,by omega⟩
     have hel:=zjx (gW key) (gR key) (List.replicate 16 0)
     have htk:List.take 16 (List.drop (off []) (enc (gW key) (gR key) (List.replicate 16 0)))=enc (gW key) (gR key) (List.replicate 16 0):=List.take_of_length_le (Nat.le_of_eq hel)
     have hw:ks key (key.length/ 4) (4*gR key)=gW key:=by unfold gW gR;rfl
     repeat ((conv=>whnf);first|refine zn ?_|refine zf ?_|refine zg ?_|refine za ?_|refine zq (by first|exact hd) ?_|refine zi (by first|exact hd) ?_|refine zj (by first|exact hd) ?_)
     conv=>whnf
     rw [←hR,hw]
     refine wk ?_
     rw [htk,show ld (enc (gW key) (gR key) (List.replicate 16 0))=gH (gW key) (gR key) by unfold gH;rfl]
     conv=>whnf
     exact ze (hp':= [.mk 109 [.ptr 1 0 0 [],.u64 (gH (gW key) (gR key)).1,.u64 (gH (gW key) (gR key)).2],.mk 147 [.arr8 256 box,.sl 2 0 0 [] (gR key) (gR key)],.mk 103 [.arr8 (16*gR key) (gW key)]]) [3,0,1] h
    ·have h:=hn (decide_eq_false hk)
     have hd:=decide_eq_false hk
     repeat ((conv=>whnf);first|refine zn ?_|refine zf ?_|refine zg ?_|refine za ?_|refine zq (by first|exact hd) ?_|refine zi (by first|exact hd) ?_|refine zj (by first|exact hd) ?_)
     conv=>whnf
     exact ze (hp':= []) [] h
   ·exact h.elim
structure Xg (n:Nat) where
  t:Nat
  x:Nat
  k:Nat
  c:Nat
  hn:k+16*t=n∨(k=0∧n≤16*t)
  hx:0<k→x=16*t
  hc:k≤c
def zwy:Spec:=fun args hp K=>match args,hp with
  | [.ptr 0 0 0 [],.str nonce,.sl 3 0 0 [] n cap],[.mk t0 [.ptr 1 0 0 [],.u64 h1,.u64 h2],.mk t1 [.arr8 256 bx,.sl 2 0 0 [] R c],.mk t2 [.arr8 N W],.mk t [.arr8 m l]]=>
      Pre (bx=box∧nonce.length=12∧1≤R∧R≤100∧16*R≤W.length∧n≤l.length∧n≤cap∧n≤9223372036854775807)
      (K (.tup []) [.mk t0 [.ptr 1 0 0 [],.u64 h1,.u64 h2],.mk t1 [.arr8 256 bx,.sl 2 0 0 [] R c],.mk t2 [.arr8 N W],.mk t [.arr8 m (gst W R nonce 2 (l.take n)++l.drop n)]])
  |_,_=>False
set_option maxHeartbeats 4000000 in
theorem zy7:zp prog 47 zwy:=by
  refine zo xk (zd zkt (zd ziy zk)) rfl func47 rfl call47 (D:=z9k) ?_ ?_
  ·intro args hp K h
   unfold zwy at h
   split at h
   ·exact Nat.le_of_ble_eq_true rfl
   ·exact h.elim
  ·intro args hp K h
   unfold zwy at h
   split at h
   ·rename_i nonce n cap t0 h1 h2 t1 bx R c t2 N W t m l
    obtain ⟨⟨rfl,hnon,hR1,hR2,hW,hl,hcap,hmax⟩,h⟩:=zl h
    rw [←zxf hl] at h
    refine wk ?_
    refine zt (Option (Xg n)) (fun q=>match q with
      |none=>⟨[(0,.ptr 0 0 0 []),(1,.str nonce),(2,.sl 3 0 0 [] n cap),(6,.u32 2)],gkey t0 t1 t2 h1 h2 R c N W++ [.mk t [.arr8 m l]]⟩
      |some s=>⟨[(0,.ptr 0 0 0 []),(1,.str nonce),(2,.sl 3 0 0 [(s.x,1)] s.k s.c),(6,.u32 (2+UInt32.ofNat s.t))],gkey t0 t1 t2 h1 h2 R c N W++ [.mk t [.arr8 m (zgh W R nonce 2 l (n-s.k))]]⟩)
      (fun q=>match q with|none=>n+1|some s=>s.k) none [0,1,2,3] ?_ ?_
    ·repeat ((conv=>whnf);refine za ?_)
     exact trivial
    ·intro q
     cases q with
     |none=>
      by_cases h4:0<n
      ·skip
       skip
       have hmn:(min (n:Int) 16).toNat=min n 16:=by omega
       have hcl:=zpg hnon (2:UInt32)
       have hp5:box=box∧(ctr nonce (2:UInt32)).length=16∧1≤R∧R≤100∧16*R≤W.length:=⟨rfl,hcl,hR1,hR2,hW⟩
       have hkl:=zjx W R (ctr nonce (2:UInt32))
       refine wk ?_
       refine zt (Ix ((min n 16))) (fun r=>⟨[(0,.ptr 0 0 0 []),(1,.str nonce),(2,.sl 3 0 0 [] n cap),(6,.u32 (2:UInt32)),(7,.ptr 4 0 0 []),(8,.int (min (n:Int) 16)),(26,.int (min (n:Int) 16)),(27,.int r.i)],[.mk t0 [.ptr 1 0 0 [],.u64 h1,.u64 h2],.mk t1 [.arr8 256 box,.sl 2 0 0 [] R c],.mk t2 [.arr8 N W],.mk t [.arr8 m (zgh W R nonce 2 l (0+r.i))],.mk 103 [.arr8 16 (enc W R (ctr nonce (2:UInt32)))]]⟩) (fun r=>((min n 16))-r.i) ⟨0,Nat.zero_le _⟩ [0,1,2,3,4] ?_ ?_
       ·repeat ((conv=>whnf);refine za ?_)
        exact trivial
       ·intro r
        have hri:=r.hi
        have hlr:(zgh W R nonce 2 l (0+r.i)).length=l.length:=zke (by omega)
        have hR:((r.i:Int)).toNat=r.i:=Int.toNat_natCast _
        by_cases h5:r.i<min n 16
        ·refine wk ?_
         refine ⟨⟨r.i+1,h5⟩,[0,1,2,3,4],by show ((min n 16))-(r.i+1)<((min n 16))-r.i;omega,?_⟩
         repeat ((conv=>whnf);refine za ?_)
         conv=>whnf
         refine zh (congrArg (fun x=>SV.agg [SV.arr8 m x]) (yb (by omega) ?hv ?hkk)) ?_
         case hkk=>show r.i=0+(0+r.i);omega
         case hv=>
           show List.getD (ovr l 0 (stG W R nonce 2 l) (0+r.i)) (r.i) 0^^^List.getD (enc W R (ctr nonce (2:UInt32))) r.i 0=_
           rw [yt (by omega) _ (by omega)]
           unfold stG kb
           rw [show (0+r.i)/ 16=0 by omega,show (0+r.i)%16=r.i by omega,show (2:UInt32)+UInt32.ofNat 0=2 from rfl,Nat.zero_add]
         repeat ((conv=>whnf);refine za ?_)
         exact trivial
        ·have e5:r.i=min n 16:=by omega
         rw [e5]
         refine wk ?_
         rw [hmn]
         refine ⟨some ⟨0+1,slO cap (min n 16),n-min n 16,cap-min n 16,by omega,fun h0=>by
           have hne:cap≠min n 16:=by omega
           rw [xa hne];omega,by omega⟩,[0,1,2,3],by show n-min n 16<n+1;omega,?_⟩
         repeat ((conv=>whnf);refine za ?_)
         conv=>whnf
         refine zh (congrArg (fun k=>SV.agg [SV.arr8 m (zgh W R nonce 2 l k)]) (by show 0+min n 16=n-(n-min n 16);omega)) ?_
         repeat ((conv=>whnf);refine za ?_)
         skip
         exact trivial
      ·have e4:n=0:=by omega
       refine wk ?_
       refine yl (hp':= [.mk t0 [.ptr 1 0 0 [],.u64 h1,.u64 h2],.mk t1 [.arr8 256 box,.sl 2 0 0 [] R c],.mk t2 [.arr8 N W],.mk t [.arr8 m (zgh W R nonce 2 l n)]]) [0,1,2,3] h ?_
       repeat ((conv=>whnf);refine za ?_)
       conv=>whnf
       refine zh (congrArg (fun x=>SV.agg [SV.arr8 m x]) (by rw [e4];unfold zgh;exact (zbv _ _ _).symm)) ?_
       repeat ((conv=>whnf);refine za ?_)
       exact trivial
     |some s=>
      have hsn:=s.hn
      have hsx:=s.hx
      have hsc:=s.hc
      have hls:(zgh W R nonce 2 l (n-s.k)).length=l.length:=zke (by omega)
      by_cases h4:0<s.k
      ·have hX:=hsx h4
       have hD:n-s.k=16*s.t:=by omega
       have hmn:(min (s.k:Int) 16).toNat=min s.k 16:=by omega
       have hcl:=zpg hnon (2+UInt32.ofNat s.t)
       have hp5:box=box∧(ctr nonce (2+UInt32.ofNat s.t)).length=16∧1≤R∧R≤100∧16*R≤W.length:=⟨rfl,hcl,hR1,hR2,hW⟩
       have hkl:=zjx W R (ctr nonce (2+UInt32.ofNat s.t))
       refine wk ?_
       refine zt (Ix ((min s.k 16))) (fun r=>⟨[(0,.ptr 0 0 0 []),(1,.str nonce),(2,.sl 3 0 0 [(s.x,1)] s.k s.c),(6,.u32 (2+UInt32.ofNat s.t)),(7,.ptr 4 0 0 []),(8,.int (min (s.k:Int) 16)),(26,.int (min (s.k:Int) 16)),(27,.int r.i)],[.mk t0 [.ptr 1 0 0 [],.u64 h1,.u64 h2],.mk t1 [.arr8 256 box,.sl 2 0 0 [] R c],.mk t2 [.arr8 N W],.mk t [.arr8 m (zgh W R nonce 2 l ((n-s.k)+r.i))],.mk 103 [.arr8 16 (enc W R (ctr nonce (2+UInt32.ofNat s.t)))]]⟩) (fun r=>((min s.k 16))-r.i) ⟨0,Nat.zero_le _⟩ [0,1,2,3,4] ?_ ?_
       ·repeat ((conv=>whnf);refine za ?_)
        exact trivial
       ·intro r
        have hri:=r.hi
        have hlr:(zgh W R nonce 2 l ((n-s.k)+r.i)).length=l.length:=zke (by omega)
        have hR:((r.i:Int)).toNat=r.i:=Int.toNat_natCast _
        by_cases h5:r.i<min s.k 16
        ·refine wk ?_
         refine ⟨⟨r.i+1,h5⟩,[0,1,2,3,4],by show ((min s.k 16))-(r.i+1)<((min s.k 16))-r.i;omega,?_⟩
         repeat ((conv=>whnf);refine za ?_)
         conv=>whnf
         refine zh (congrArg (fun x=>SV.agg [SV.arr8 m x]) (yb (by omega) ?hv ?hkk)) ?_
         case hkk=>show s.x+r.i=0+((n-s.k)+r.i);omega
         case hv=>
           show List.getD (ovr l 0 (stG W R nonce 2 l) ((n-s.k)+r.i)) (s.x+r.i) 0^^^List.getD (enc W R (ctr nonce (2+UInt32.ofNat s.t))) r.i 0=_
           rw [yt (by omega) _ (by omega)]
           unfold stG kb
           rw [show ((n-s.k)+r.i)/ 16=s.t by omega,show ((n-s.k)+r.i)%16=r.i by omega,show s.x+r.i=n-s.k+r.i by omega]
         repeat ((conv=>whnf);refine za ?_)
         exact trivial
        ·have e5:r.i=min s.k 16:=by omega
         rw [e5]
         refine wk ?_
         rw [hmn]
         refine ⟨some ⟨s.t+1,s.x+slO s.c (min s.k 16),s.k-min s.k 16,s.c-min s.k 16,by omega,fun h0=>by
           have hne:s.c≠min s.k 16:=by omega
           rw [xa hne];omega,by omega⟩,[0,1,2,3],by show s.k-min s.k 16<s.k;omega,?_⟩
         repeat ((conv=>whnf);refine za ?_)
         conv=>whnf
         refine zh (congrArg (fun k=>SV.agg [SV.arr8 m (zgh W R nonce 2 l k)]) (by show (n-s.k)+min s.k 16=n-(s.k-min s.k 16);omega)) ?_
         repeat ((conv=>whnf);refine za ?_)
         conv=>whnf
         refine zh (congrArg SV.u32 (by show (2+UInt32.ofNat s.t)+UInt32.ofNat 1=2+UInt32.ofNat (s.t+1);exact Go.Sym.Gcm.u32_add _ _)) ?_
         repeat ((conv=>whnf);refine za ?_)
         exact trivial
      ·have e4:s.k=0:=by omega
       refine wk ?_
       refine yl (hp':= [.mk t0 [.ptr 1 0 0 [],.u64 h1,.u64 h2],.mk t1 [.arr8 256 box,.sl 2 0 0 [] R c],.mk t2 [.arr8 N W],.mk t [.arr8 m (zgh W R nonce 2 l n)]]) [0,1,2,3] h ?_
       repeat ((conv=>whnf);refine za ?_)
       conv=>whnf
       refine zh (congrArg (fun k=>SV.agg [SV.arr8 m (zgh W R nonce 2 l k)]) (by show n-s.k=n;omega)) ?_
       repeat ((conv=>whnf);refine za ?_)
       exact trivial
   ·exact h.elim
end Go.Sym.A

namespace Go.Sym.A
open Go Go.Proofs.Try Go.Sym.Lp Go.Sym.Gcm Go.Sym.Aes
set_option maxRecDepth 100000
attribute [local irreducible] ldE ld y7 hf4 zgv zcg x2 enc ks box ctr tb fl gaB wr zpt
def z9p:List (Nat×List PStep):= [(8,[⟨0,[]⟩,⟨1,[]⟩,⟨2,[]⟩,⟨3,[]⟩,⟨4,[0,1,2,3]⟩,⟨7,[0,1,2,3,4]⟩,⟨5,[0,1,2,3,7]⟩,⟨6,[7]⟩,⟨8,[]⟩]),(12,[⟨0,[]⟩,⟨1,[]⟩,⟨2,[]⟩,⟨3,[0,1,2]⟩,⟨4,[0,1,2]⟩,⟨5,[0,1,2]⟩,⟨6,[]⟩,⟨7,[]⟩,⟨8,[]⟩])]
def z9q:List (Nat×List PStep):= []
def gtg (W:List UInt8) (R:Nat) (h:El) (nonce aad b:List UInt8):List UInt8:=
  gst W R nonce 1 (wr (zpt h (zyd aad b) (gN aad b)))
def zxb:Spec:=fun args hp K=>match args,hp with
  | [.ptr 0 0 0 [],.str nonce,.str aad,.sl 3 0 0 [] n c],[.mk t0 [.ptr 1 0 0 [],.u64 h1,.u64 h2],.mk t1 [.arr8 256 bx,.sl 2 0 0 [] R cR],.mk t2 [.arr8 N W],.mk t [.arr8 m l]]=>
      Pre (bx=box∧nonce.length=12∧1≤R∧R≤100∧16*R≤W.length∧n≤l.length∧n≤c∧aad.length≤65536∧n≤70000)
      (K (.str (gtg W R (h1,h2) nonce aad (l.take n))) [.mk t0 [.ptr 1 0 0 [],.u64 h1,.u64 h2],.mk t1 [.arr8 256 bx,.sl 2 0 0 [] R cR],.mk t2 [.arr8 N W],.mk t [.arr8 m l]])
  |_,_=>False
set_option maxHeartbeats 4000000 in
theorem z01:zp prog 48 zxb:=by
  refine zo xk (zd z4i (zd z36 (zd z0m (zd z0l (zd zkt (zd ziy zk)))))) rfl func48 rfl call48 (D:=z9p) ?_ ?_
  ·intro args hp K h
   unfold zxb at h
   split at h
   ·exact Nat.le_of_ble_eq_true rfl
   ·exact h.elim
  ·intro args hp K h
   unfold zxb at h
   split at h
   ·rename_i nonce aad n c t0 h1 h2 t1 bx R cR t2 N W t m l
    obtain ⟨⟨rfl,hnon,hR1,hR2,hW,hl,hc,ha,hn⟩,h⟩:=zl h
    have hT:=z51 (h1,h2)
    have hF:fl.length=16:=by unfold fl;simp
    refine wk ?_
    refine yq fun tl=>?_
    have hw16:=zns (UInt64.ofInt (aad.length:Int)*UInt64.ofNat 8,UInt64.ofInt (n:Int)*UInt64.ofNat 8)
    have hpa:(tb (h1,h2)).length=32∧fl.length=16∧16≤16∧off []+16≤(wr (UInt64.ofInt (aad.length:Int)*UInt64.ofNat 8,UInt64.ofInt (n:Int)*UInt64.ofNat 8)).length:=⟨hT,hF,by decide,by rw [hw16];decide⟩
    have hcl:=zpg hnon 1
    have hpe:box=box∧(ctr nonce 1).length=16∧1≤R∧R≤100∧16*R≤W.length:=⟨rfl,hcl,hR1,hR2,hW⟩
    obtain ⟨O,hO⟩: ∃O,O=wr (zpt (h1,h2) (zyd aad (l.take n)) (gN aad (l.take n))):=⟨_,rfl⟩
    have hOl:O.length=16:=by rw [hO];exact zns _
    have hbl:(l.take n).length=n:=by rw [List.length_take];omega
    have hlen: ∀k:Nat,UInt64.ofInt (k:Int)*UInt64.ofNat 8=UInt64.ofNat (8*k):=fun k=>by
      rw [zvd,UInt64.ofNat_mul,UInt64.mul_comm]
    have hraw:wr (zcg (tb (h1,h2)) fl (xr (ld (List.take 16 (List.drop (off []) (wr (UInt64.ofInt (aad.length:Int)*UInt64.ofNat 8,UInt64.ofInt (n:Int)*UInt64.ofNat 8))))) (gaB (tb (h1,h2)) fl (gaB (tb (h1,h2)) fl (0,0) (List.take aad.length (aad++tl))) (List.take n l))))=O:=by
      have e1:List.take aad.length (aad++tl)=aad:=List.take_left' rfl
      have e2:List.take 16 (List.drop (off []) (wr (UInt64.ofInt (aad.length:Int)*UInt64.ofNat 8,UInt64.ofInt (n:Int)*UInt64.ofNat 8)))=wr (UInt64.ofInt (aad.length:Int)*UInt64.ofNat 8,UInt64.ofInt (n:Int)*UInt64.ofNat 8):=List.take_of_length_le (Nat.le_of_eq hw16)
      have e3:=z5l (h1,h2) aad (l.take n)
      rw [hbl] at e3
      rw [e1,e2,hlen,hlen,hO,←e3]
      rfl
    have hG:gtg W R (h1,h2) nonce aad (l.take n)=gst W R nonce 1 O:=by unfold gtg;rw [hO]
    rw [hG] at h
    have hkl:=zjx W R (ctr nonce 1)
    refine wk ?_
    refine zt (Ix (16)) (fun q=>⟨[(12,.ptr 4 0 0 []),(13,.ptr 5 0 0 []),(53,.int q.i)],[.mk t0 [.ptr 1 0 0 [],.u64 h1,.u64 h2],.mk t1 [.arr8 256 box,.sl 2 0 0 [] R cR],.mk t2 [.arr8 N W],.mk t [.arr8 m l],.mk 103 [.arr8 16 (ovr O 0 (stG W R nonce 1 O) q.i)],.mk 103 [.arr8 16 (enc W R (ctr nonce 1))]]⟩) (fun q=>(16)-q.i) ⟨0,Nat.zero_le _⟩ [0,1,2,3,8,9] ?_ ?_
    ·repeat ((conv=>whnf);refine za ?_)
     conv=>whnf
     refine zh (congrArg (fun x=>SV.agg [SV.arr8 16 x]) (hraw.trans (zbv _ _ _).symm)) ?_
     repeat ((conv=>whnf);refine za ?_)
     exact trivial
    ·intro q
     have hi:=q.hi
     have hlo:=yn (l:=O) (a:=0) (i:=q.i) (by omega) (stG W R nonce 1 O)
     have hI:((q.i:Int)).toNat=q.i:=Int.toNat_natCast _
     by_cases h4:q.i<16
     ·refine wk ?_
      refine ⟨⟨q.i+1,h4⟩,[0,1,2,3,4,5],by show (16)-(q.i+1)<(16)-q.i;omega,?_⟩
      repeat ((conv=>whnf);refine za ?_)
      conv=>whnf
      refine zh (congrArg (fun x=>SV.agg [SV.arr8 16 x]) (yb (by omega) ?hv ?hkk)) ?_
      case hkk=>show q.i=0+q.i;omega
      case hv=>
        show List.getD (ovr O 0 (stG W R nonce 1 O) q.i) q.i 0^^^List.getD (enc W R (ctr nonce 1)) q.i 0=_
        rw [yt (by omega) _ (by omega)]
        unfold stG kb
        rw [show q.i/ 16=0 by omega,show q.i%16=q.i by omega,show (1:UInt32)+UInt32.ofNat 0=1 from rfl]
      repeat ((conv=>whnf);refine za ?_)
      exact trivial
     ·have e4:q.i=16:=by omega
      have hfin:List.take 16 (List.drop (off []) (ovr O 0 (stG W R nonce 1 O) 16))=gst W R nonce 1 O:=by
        rw [xu hOl]
        unfold gst
        rw [hOl]
        exact List.take_of_length_le (by simp)
      rw [e4] at hlo
      rw [e4]
      refine wk ?_
      rw [hfin]
      conv=>whnf
      exact ze (hp':= [.mk t0 [.ptr 1 0 0 [],.u64 h1,.u64 h2],.mk t1 [.arr8 256 box,.sl 2 0 0 [] R cR],.mk t2 [.arr8 N W],.mk t [.arr8 m l]]) [0,1,2,3] h
   ·exact h.elim
def zz5:Spec:=fun args hp K=>match args,hp with
  | [.str nonce,.str aad,.int most,.int long],[]=>K (.bool (decide (nonce.length=12∧aad.length≤65536∧long≤most))) []
  |_,_=>False
theorem z30:zp prog 46 zz5:=by
  refine zo xk zk rfl func46 rfl call46 (D:=z9q) ?_ ?_
  ·intro args hp K h
   unfold zz5 at h
   split at h
   ·exact Nat.le_of_ble_eq_true rfl
   ·exact h.elim
  ·intro args hp K h
   unfold zz5 at h
   split at h
   ·rename_i nonce aad most long
    by_cases h1:nonce.length=12
    ·by_cases h2:aad.length≤65536
     ·by_cases h3:long≤most
      ·rw [decide_eq_true ⟨h1,h2,h3⟩] at h
       have d4:decide (long≤most)=true:=decide_eq_true h3
       refine wk ?_
       rw [d4]
       conv=>whnf
       exact ze (hp':= []) [] h
      ·rw [decide_eq_false fun hh=>h3 hh.2.2] at h
       have d4:decide (long≤most)=false:=decide_eq_false h3
       refine wk ?_
       rw [d4]
       conv=>whnf
       exact ze (hp':= []) [] h
     ·rw [decide_eq_false fun hh=>h2 hh.2.1] at h
      refine wk ?_
      exact ze (hp':= []) [] h
    ·rw [decide_eq_false fun hh=>h1 hh.1] at h
     refine wk ?_
     exact ze (hp':= []) [] h
   ·exact h.elim
end Go.Sym.A

namespace Go.Sym.A
open Go Go.Proofs.Try Go.Sym.Lp Go.Sym.Gcm Go.Sym.Aes
set_option maxRecDepth 100000
attribute [local irreducible] gst gtg gH gW enc ks box
def z9c:List (Nat×List PStep):= [(8,[⟨0,[]⟩,⟨1,[0]⟩,⟨2,[0,1]⟩,⟨3,[0,1,2]⟩,⟨5,[0,1,2,3]⟩,⟨6,[0,1,2,3,5]⟩,⟨7,[0,1,2,3]⟩,⟨4,[5,6,7]⟩,⟨8,[]⟩])]
def kl (key:List UInt8):Prop:=key.length=16∨key.length=32
instance (key:List UInt8):Decidable (kl key):=by unfold kl;exact inferInstance
def zgg (key nonce aad b:List UInt8):List UInt8:=gtg (gW key) (gR key) (gH (gW key) (gR key)) nonce aad b
theorem z0n (key nonce aad b:List UInt8):(zgg key nonce aad b).length=16:=by
  unfold zgg gtg;rw [zpa,zns]
def zfu (key nonce s:List UInt8):List UInt8:=gst (gW key) (gR key) nonce 2 s
theorem zlq (key nonce s:List UInt8):(zfu key nonce s).length=s.length:=zpa _ _ _ _ _
def zjg (key nonce aad s:List UInt8):List UInt8:=zfu key nonce s++zgg key nonce aad (zfu key nonce s)
def zmb:Spec:=fun args hp K=>match args,hp with
  | [.str key,.str nonce,.str aad,.str s],[]=>
      if (key.length=16∨key.length=32)∧nonce.length=12∧aad.length≤65536∧(s.length:Int)≤65552 then
       (if 16≤s.length∧zgg key nonce aad (s.take (s.length-16))=s.drop (s.length-16) then K (.tup [.str (zfu key nonce (s.take (s.length-16))),.int 0]) []
       else K (.tup [.str [],.int 501]) [])
      else K (.tup [.str [],.int 500]) []
  |_,_=>False
theorem z2a:zp prog 37 zmb:=by
  refine zo xk (zd zqo (zd z30 (zd zy7 (zd z01 zk)))) rfl func37 rfl call37 (D:=z9c) ?_ ?_
  ·intro args hp K h
   unfold zmb at h
   split at h
   ·exact Nat.le_of_ble_eq_true rfl
   ·exact h.elim
  ·intro args hp K h
   unfold zmb at h
   split at h
   ·rename_i key nonce aad s
    by_cases hk:key.length=16∨key.length=32
    ·have hdk:=decide_eq_true hk
     have hWl:=ztr hk
     have hR:gR key=key.length/ 4+7:=rfl
     by_cases h0:nonce.length=12∧aad.length≤65536∧(s.length:Int)≤65552
     ·rw [if_pos ⟨hk,h0⟩] at h
      have hd:=decide_eq_true h0
      by_cases h1:16≤s.length
      ·have hn:((s.length:Int)-16).toNat=s.length-16:=by omega
       have d1:decide ((s.length:Int)-16<0)=false:=decide_eq_false (by omega)
       repeat ((conv=>whnf);first|refine zn ?_|refine zf ?_|refine zg ?_|refine za ?_|refine zq (by first|exact hdk|exact hd|(rw [hd];rfl)) ?_|refine zi (by first|exact hdk|exact hd|(rw [hd];rfl)) ?_|refine zj (by first|exact hdk|exact hd|(rw [hd];rfl)) ?_)
       conv=>whnf
       refine yq fun t1=>?_
       repeat ((conv=>whnf);first|refine zn ?_|refine zf ?_|refine zg ?_|refine za ?_|refine zq (by first|exact hdk|exact hd|(rw [hd];rfl)) ?_|refine zi (by first|exact hdk|exact hd|(rw [hd];rfl)) ?_|refine zj (by first|exact hdk|exact hd|(rw [hd];rfl)) ?_)
       conv=>whnf
       have hTl:(List.take ((s.length:Int)-16).toNat s).length=s.length-16:=by rw [hn,List.length_take];omega
       have hTk:(List.take (List.take ((s.length:Int)-16).toNat s).length ((List.take ((s.length:Int)-16).toNat s)++t1))=s.take (s.length-16):=by rw [List.take_left' rfl,hn]
       by_cases hq:zgg key nonce aad (s.take (s.length-16))=s.drop (s.length-16)
       ·rw [if_pos ⟨h1,hq⟩] at h
        have hdq:decide (gtg (gW key) (gR key) ((gH (gW key) (gR key)).1,(gH (gW key) (gR key)).2) nonce aad (List.take (List.take ((s.length:Int)-16).toNat s).length ((List.take ((s.length:Int)-16).toNat s)++t1))=List.drop ((s.length:Int)-16).toNat s)=true:=decide_eq_true (by rw [hTk,hn];exact hq)
        repeat ((conv=>whnf);first|refine zn ?_|refine zf ?_|refine zg ?_|refine za ?_|refine zq (by first|exact hdq|(rw [hdq];rfl)) ?_|refine zi (by first|exact hdq|(rw [hdq];rfl)) ?_|refine zj (by first|exact hdq|(rw [hdq];rfl)) ?_)
        conv=>whnf
        have hX:(gst (gW key) (gR key) nonce 2 (List.take (List.take ((s.length:Int)-16).toNat s).length ((List.take ((s.length:Int)-16).toNat s)++t1))++List.drop (List.take ((s.length:Int)-16).toNat s).length ((List.take ((s.length:Int)-16).toNat s)++t1))=zfu key nonce (s.take (s.length-16))++t1:=by rw [hTk,List.drop_left' rfl];rfl
        have hp3:off []+(List.take ((s.length:Int)-16).toNat s).length≤(gst (gW key) (gR key) nonce 2 (List.take (List.take ((s.length:Int)-16).toNat s).length ((List.take ((s.length:Int)-16).toNat s)++t1))++List.drop (List.take ((s.length:Int)-16).toNat s).length ((List.take ((s.length:Int)-16).toNat s)++t1)).length:=by rw [hX,List.length_append,zlq,hTl,List.length_take];show 0+_≤_;omega
        have hF:List.take (List.take ((s.length:Int)-16).toNat s).length (List.drop (off []) (gst (gW key) (gR key) nonce 2 (List.take (List.take ((s.length:Int)-16).toNat s).length ((List.take ((s.length:Int)-16).toNat s)++t1))++List.drop (List.take ((s.length:Int)-16).toNat s).length ((List.take ((s.length:Int)-16).toNat s)++t1)))=zfu key nonce (s.take (s.length-16)):=by
          rw [hX,hTl];show List.take _ (List.drop 0 _)=_;rw [List.drop_zero];exact List.take_left' (by rw [zlq,List.length_take];omega)
        refine wk ?_
        conv=>whnf
        refine yl (hp':= []) [] h ?_
        repeat ((conv=>whnf);refine za ?_)
        conv=>whnf
        refine zh (congrArg (fun y=>SV.tup [SV.str y,SV.int 0]) hF) ?_
        repeat ((conv=>whnf);refine za ?_)
        exact trivial
       ·rw [if_neg fun hh=>hq hh.2] at h
        have hdq:decide (gtg (gW key) (gR key) ((gH (gW key) (gR key)).1,(gH (gW key) (gR key)).2) nonce aad (List.take (List.take ((s.length:Int)-16).toNat s).length ((List.take ((s.length:Int)-16).toNat s)++t1))=List.drop ((s.length:Int)-16).toNat s)=false:=decide_eq_false (by rw [hTk,hn];exact hq)
        repeat ((conv=>whnf);first|refine zn ?_|refine zf ?_|refine zg ?_|refine za ?_|refine zq (by first|exact hdq|(rw [hdq];rfl)) ?_|refine zi (by first|exact hdq|(rw [hdq];rfl)) ?_|refine zj (by first|exact hdq|(rw [hdq];rfl)) ?_)
        conv=>whnf
        exact ze (hp':= []) [] h
      ·rw [if_neg fun hh=>h1 hh.1] at h
       repeat ((conv=>whnf);first|refine zn ?_|refine zf ?_|refine zg ?_|refine za ?_|refine zq (by first|exact hdk|exact hd|(rw [hd];rfl)) ?_|refine zi (by first|exact hdk|exact hd|(rw [hd];rfl)) ?_|refine zj (by first|exact hdk|exact hd|(rw [hd];rfl)) ?_)
       conv=>whnf
       exact ze (hp':= []) [] h
     ·rw [if_neg fun hh=>h0 hh.2] at h
      have hd:=decide_eq_false h0
      repeat ((conv=>whnf);first|refine zn ?_|refine zf ?_|refine zg ?_|refine za ?_|refine zq (by first|exact hdk|exact hd|(rw [hd];rfl)) ?_|refine zi (by first|exact hdk|exact hd|(rw [hd];rfl)) ?_|refine zj (by first|exact hdk|exact hd|(rw [hd];rfl)) ?_)
      conv=>whnf
      exact ze (hp':= []) [] h
    ·rw [if_neg fun hh=>hk hh.1] at h
     have hdk:=decide_eq_false hk
     repeat ((conv=>whnf);first|refine zn ?_|refine zf ?_|refine zg ?_|refine za ?_|refine zq (by first|exact hdk|(rw [hdk];rfl)) ?_|refine zi (by first|exact hdk|(rw [hdk];rfl)) ?_|refine zj (by first|exact hdk|(rw [hdk];rfl)) ?_)
     conv=>whnf
     exact ze (hp':= []) [] h
   ·exact h.elim
end Go.Sym.A

namespace Go.Sym.Cha
open Go.Sym.Lp
def zi1 (x:UInt32) (n:Nat):UInt32:=x<<<UInt32.ofNat n|||x>>>UInt32.ofNat (32-n)
def g32 (x:List UInt32) (i:Nat):UInt32:=x.getD i 0
def qs (x:List UInt32) (a b d n:Nat):List UInt32:=
  let y:=x.set a (g32 x a+g32 x b)
  y.set d (zi1 (g32 y d^^^g32 y a) n)
def qr (x:List UInt32) (a b c d:Nat):List UInt32:=qs (qs (qs (qs x a b d 16) c d b 12) a b d 8) c d b 7
theorem z33 (x:List UInt32) (a b d n:Nat):(qs x a b d n).length=x.length:=by unfold qs;simp
theorem zyn (x:List UInt32) (a b c d:Nat):(qr x a b c d).length=x.length:=by unfold qr;simp [z33]
def zj4 (x:List UInt32):Nat→List UInt32
  |0=>x
  |i+1=>qr (zj4 x i) i (4+i) (8+i) (12+i)
def zls (x:List UInt32):Nat→List UInt32
  |0=>x
  |i+1=>qr (zls x i) i (4+(i+1)%4) (8+(i+2)%4) (12+(i+3)%4)
def zn0 (x:List UInt32):Nat→List UInt32
  |0=>x
  |r+1=>zls (zj4 (zn0 x r) 4) 4
theorem zix (x:List UInt32): ∀i,(zj4 x i).length=x.length
  |0=>rfl
  |i+1=>by simp only [zj4,zyn];exact zix x i
theorem zir (x:List UInt32): ∀i,(zls x i).length=x.length
  |0=>rfl
  |i+1=>by simp only [zls,zyn];exact zir x i
theorem zrq (x:List UInt32): ∀r,(zn0 x r).length=x.length
  |0=>rfl
  |r+1=>by simp only [zn0,zir,zix];exact zrq x r
def outG (x:List UInt32) (i:Nat):UInt8:=((g32 x (i/ 4)+g32 (zn0 x 10) (i/ 4))>>>UInt32.ofNat (8*(i%4))).toUInt8
def zw7 (x:List UInt32):List UInt8:=(List.range 64).map (outG x)
theorem zkh (x:List UInt32):(zw7 x).length=64:=z4 _ _
def wd (s:List UInt8) (a:Nat):UInt32:=(s.getD a 0).toUInt32|||(s.getD (a+1) 0).toUInt32<<<8|||(s.getD (a+2) 0).toUInt32<<<16|||(s.getD (a+3) 0).toUInt32<<<24
def z53 (key nonce:List UInt8) (n:UInt32) (i:Nat):UInt32:=
  if i=0 then 1634760805 else if i=1 then 857760878 else if i=2 then 2036477234 else if i=3 then 1797285236 else if i<12 then wd key (4*(i-4)) else if i=12 then n else wd nonce (4*(i-13))
def beg (key nonce:List UInt8) (n:UInt32):List UInt32:=(List.range 16).map (z53 key nonce n)
theorem zn1 (key nonce:List UInt8) (n:UInt32):(beg key nonce n).length=16:=z4 _ _
def blk (key nonce:List UInt8) (n:UInt32):List UInt8:=zw7 (beg key nonce n)
theorem zjo (key nonce:List UInt8) (n:UInt32):(blk key nonce n).length=64:=zkh _
def zgr (key nonce:List UInt8) (n:UInt32) (s:List UInt8) (i:Nat):UInt8:=s.getD i 0^^^(blk key nonce (n+UInt32.ofNat (i/ 64))).getD (i%64) 0
def xo (key nonce:List UInt8) (n:UInt32) (s:List UInt8):List UInt8:=(List.range s.length).map (zgr key nonce n s)
theorem zhl (key nonce:List UInt8) (n:UInt32) (s:List UInt8):(xo key nonce n s).length=s.length:=z4 _ _
theorem zyg {key nonce:List UInt8} {n:UInt32} {x:List UInt32} (h:x.length=16) (h0:x.getD 0 0=1634760805) (h1:x.getD 1 0=857760878) (h2:x.getD 2 0=2036477234) (h3:x.getD 3 0=1797285236):
    ovr ((ovr x 4 (fun i=>wd key (4*i)) 8).set 12 n) 13 (fun i=>wd nonce (4*i)) 3=beg key nonce n:=by
  have l1:=yn (l:=x) (a:=4) (i:=8) (by omega) (fun i=>wd key (4*i))
  have l2:((ovr x 4 (fun i=>wd key (4*i)) 8).set 12 n).length=16:=by rw [List.length_set,l1,h]
  have l3:=yn (l:=(ovr x 4 (fun i=>wd key (4*i)) 8).set 12 n) (a:=13) (i:=3) (by omega) (fun i=>wd nonce (4*i))
  unfold beg
  apply List.ext_getElem?
  intro j
  by_cases hj:j<16
  ·rw [List.getElem?_map,List.getElem?_range hj,Option.map_some,zbu (by omega),List.getElem?_set,zbu (by omega)]
   have g: ∀k v,k<16→x.getD k 0=v→x[k]?=some v:=fun k v hk hv=>by
     rw [List.getD_eq_getElem?_getD,List.getElem?_eq_getElem (by omega)] at hv
     rw [List.getElem?_eq_getElem (by omega)]
     exact congrArg some hv
   unfold z53
   by_cases a0:j=0
   ·subst a0;rw [if_neg (by omega),if_neg (by omega),if_neg (by omega),if_pos rfl];exact g 0 _ (by omega) h0
   by_cases a1:j=1
   ·subst a1;rw [if_neg (by omega),if_neg (by omega),if_neg (by omega),if_neg (by omega),if_pos rfl];exact g 1 _ (by omega) h1
   by_cases a2:j=2
   ·subst a2;rw [if_neg (by omega),if_neg (by omega),if_neg (by omega),if_neg (by omega),if_neg (by omega),if_pos rfl];exact g 2 _ (by omega) h2
   by_cases a3:j=3
   ·subst a3;rw [if_neg (by omega),if_neg (by omega),if_neg (by omega),if_neg (by omega),if_neg (by omega),if_neg (by omega),if_pos rfl];exact g 3 _ (by omega) h3
   rw [if_neg a0,if_neg a1,if_neg a2,if_neg a3]
   by_cases a4:j<12
   ·rw [if_neg (by omega),if_neg (by omega),if_pos (by omega),if_pos a4]
   by_cases a5:j=12
   ·subst a5;rw [if_neg (by omega),if_pos rfl,if_pos (by rw [l1];omega),if_neg (by omega),if_pos rfl]
   ·rw [if_pos (by omega),if_neg a4,if_neg a5]
  ·rw [List.getElem?_eq_none (by omega),List.getElem?_eq_none (by simp;omega)]
end Go.Sym.Cha
namespace Go.Sym.Cha
open Go.Sym.Lp
def c0:List UInt32:=1634760805 ::857760878 ::2036477234 ::1797285236 ::List.replicate 12 0
theorem z5s:c0.length=16:=rfl
theorem z5f (key nonce:List UInt8) (n:UInt32):ovr ((ovr c0 4 (fun i=>wd key (4*i)) 8).set 12 n) 13 (fun i=>wd nonce (4*i)) 3=beg key nonce n:=zyg rfl rfl rfl rfl rfl
theorem zvh (s:List UInt8) (a:Nat):wd (s.drop a) 0=wd s a:=by
  have g: ∀j,(s.drop a).getD j 0=s.getD (a+j) 0:=fun j=>by rw [List.getD_eq_getElem?_getD,List.getElem?_drop,List.getD_eq_getElem?_getD]
  unfold wd
  rw [g,g,g,g];rfl
end Go.Sym.Cha
namespace Go.Sym.Cha
open Go.Sym.Lp
def zi6 (key nonce:List UInt8) (n:UInt32) (l:List UInt8) (k:Nat):List UInt8:=ovr l 0 (zgr key nonce n l) k
theorem zyp {key nonce:List UInt8} {n:UInt32} {l:List UInt8} {k:Nat} (h:k≤l.length):zi6 key nonce n l k=xo key nonce n (l.take k)++l.drop k:=by
  unfold zi6 ovr xo
  rw [List.take_zero,List.nil_append,Nat.zero_add,List.length_take,Nat.min_eq_left h]
  congr 1
  refine y9 fun i hi=>?_
  have e:(l.take k).getD i 0=l.getD i 0:=by rw [List.getD_eq_getElem?_getD,List.getElem?_take_of_lt hi,←List.getD_eq_getElem?_getD]
  unfold zgr
  rw [e]
theorem u32_add (c:UInt32) (t:Nat):c+UInt32.ofNat t+1=c+UInt32.ofNat (t+1):=by
  rw [UInt32.add_assoc];congr 1
  rw [UInt32.ofNat_add];rfl
end Go.Sym.Cha
namespace Go.Sym.Cha
end Go.Sym.Cha

namespace Go.Sym.A
open Go Go.Proofs.Try Go.Sym.Lp Go.Sym.Cha
set_option maxRecDepth 100000
def z64:List (Nat×List PStep):= []
def z79:List (Nat×List PStep):= [(1,[⟨0,[]⟩,⟨1,[]⟩,⟨2,[]⟩,⟨3,[0,1,2]⟩,⟨4,[0,1,2]⟩,⟨5,[0,1,2]⟩,⟨6,[0,1,2]⟩,⟨7,[]⟩,⟨8,[0,1,2,3,4,5,6,7]⟩,⟨9,[0,1,2,3,4,5,6,7]⟩,⟨10,[0,1,2,3,4,5,6,7]⟩,⟨11,[0,1,2,3,4,5,6,7]⟩,⟨12,[]⟩,⟨13,[0,1,2,3,4,5,6,7,8,9,10,11,12]⟩,⟨14,[0,1,2,3,4,5,6,7,8,9,10,11,12]⟩,⟨15,[0,1,2,3,4,5,6,7,8,9,10,11,12]⟩,⟨16,[0,1,2,3,4,5,6,7,8,9,10,11,12]⟩,⟨17,[]⟩,⟨18,[]⟩])]
def z8x:List (Nat×List PStep):= []
def z6q:List (Nat×List PStep):= [(0,[⟨0,[]⟩,⟨1,[0]⟩,⟨2,[1]⟩,⟨3,[]⟩,⟨4,[]⟩,⟨5,[0,1,2,3,4]⟩,⟨6,[0,1,2,3,4,5]⟩,⟨7,[0,1,2,3,4,6]⟩,⟨8,[0,1,2,3,4]⟩,⟨9,[0,1,2,3,4]⟩,⟨10,[]⟩,⟨11,[1,2,3,4,5,6,7,8,9,10]⟩,⟨12,[]⟩,⟨13,[]⟩]),(1,[⟨0,[]⟩,⟨1,[0]⟩,⟨2,[0,1]⟩,⟨3,[0,1,2]⟩,⟨4,[0,1,3]⟩,⟨5,[0,1]⟩,⟨6,[0,1]⟩,⟨7,[0,1,2,3,4,5,6]⟩,⟨8,[0,1,2,3,4,5,6,7]⟩,⟨9,[0,1,2,3,4,5,6,8]⟩,⟨10,[0,1,2,3,4,5,6]⟩,⟨11,[0,1,2,3,4,5,6]⟩,⟨12,[0,1]⟩,⟨14,[1,2,3,4,5,6,7,8,9,10,11,12]⟩,⟨13,[0,1,14]⟩,⟨15,[]⟩,⟨16,[]⟩]),(2,[⟨0,[]⟩,⟨1,[0]⟩,⟨2,[1]⟩,⟨3,[]⟩,⟨4,[]⟩,⟨5,[0,1,2,3,4]⟩,⟨6,[0,1,2,3,4,5]⟩,⟨7,[0,1,2,3,4,6]⟩,⟨8,[0,1,2,3,4]⟩,⟨9,[0,1,2,3,4]⟩,⟨10,[]⟩,⟨11,[1,2,3,4,5,6,7,8,9,10]⟩,⟨12,[]⟩,⟨13,[]⟩]),(3,[⟨0,[]⟩,⟨1,[0]⟩,⟨2,[0,1]⟩,⟨3,[0,1,2]⟩,⟨4,[0,1,3]⟩,⟨5,[0,1]⟩,⟨6,[0,1]⟩,⟨7,[0,1,2,3,4,5,6]⟩,⟨8,[0,1,2,3,4,5,6,7]⟩,⟨9,[0,1,2,3,4,5,6,8]⟩,⟨10,[0,1,2,3,4,5,6]⟩,⟨11,[0,1,2,3,4,5,6]⟩,⟨12,[0,1]⟩,⟨14,[1,2,3,4,5,6,7,8,9,10,11,12]⟩,⟨13,[0,1,14]⟩,⟨15,[]⟩,⟨16,[]⟩]),(4,[⟨0,[]⟩,⟨1,[0]⟩,⟨2,[1]⟩,⟨3,[]⟩,⟨4,[]⟩,⟨5,[0,1,2,3,4]⟩,⟨6,[0,1,2,3,4,5]⟩,⟨7,[0,1,2,3,4,6]⟩,⟨8,[0,1,2,3,4]⟩,⟨9,[0,1,2,3,4]⟩,⟨10,[]⟩,⟨11,[1,2,3,4,5,6,7,8,9,10]⟩,⟨12,[]⟩,⟨13,[]⟩]),(5,[⟨0,[]⟩,⟨1,[0]⟩,⟨2,[0,1]⟩,⟨3,[0,1,2]⟩,⟨4,[0,1,3]⟩,⟨5,[0,1]⟩,⟨6,[0,1]⟩,⟨7,[0,1,2,3,4,5,6]⟩,⟨8,[0,1,2,3,4,5,6,7]⟩,⟨9,[0,1,2,3,4,5,6,8]⟩,⟨10,[0,1,2,3,4,5,6]⟩,⟨11,[0,1,2,3,4,5,6]⟩,⟨12,[0,1]⟩,⟨14,[1,2,3,4,5,6,7,8,9,10,11,12]⟩,⟨13,[0,1,14]⟩,⟨15,[]⟩,⟨16,[]⟩]),(6,[⟨0,[]⟩,⟨1,[0]⟩,⟨2,[1]⟩,⟨3,[]⟩,⟨4,[]⟩,⟨5,[0,1,2,3,4]⟩,⟨6,[0,1,2,3,4,5]⟩,⟨7,[0,1,2,3,4,6]⟩,⟨8,[0,1,2,3,4]⟩,⟨9,[0,1,2,3,4]⟩,⟨10,[]⟩,⟨11,[1,2,3,4,5,6,7,8,9,10]⟩,⟨12,[]⟩,⟨13,[]⟩]),(7,[⟨0,[]⟩,⟨1,[0]⟩,⟨2,[0,1]⟩,⟨3,[0,1,2]⟩,⟨4,[0,1,3]⟩,⟨5,[0,1]⟩,⟨6,[0,1]⟩,⟨7,[0,1,2,3,4,5,6]⟩,⟨8,[0,1,2,3,4,5,6,7]⟩,⟨9,[0,1,2,3,4,5,6,8]⟩,⟨10,[0,1,2,3,4,5,6]⟩,⟨11,[0,1,2,3,4,5,6]⟩,⟨12,[0,1]⟩,⟨14,[1,2,3,4,5,6,7,8,9,10,11,12]⟩,⟨13,[0,1,14]⟩,⟨15,[]⟩,⟨16,[]⟩])]
def z8t:List (Nat×List PStep):= [(19,[⟨0,[]⟩,⟨1,[0]⟩,⟨2,[0]⟩,⟨3,[0]⟩,⟨4,[0]⟩,⟨5,[0,1,2,3,4]⟩,⟨6,[0,1,2,3,4]⟩,⟨7,[0,1,2,3,4]⟩,⟨8,[0,1,2,3,4]⟩,⟨9,[0]⟩,⟨10,[0,1,2,3,4,5,6,7,8,9]⟩,⟨11,[0,1,2,3,4,5,6,7,8,9]⟩,⟨12,[0,1,2,3,4,5,6,7,8,9]⟩,⟨13,[0]⟩,⟨14,[0]⟩,⟨15,[]⟩,⟨16,[]⟩])]
def z7p:List (Nat×TyI):= [(3,ty3),(4,ty4),(5,ty5),(9,ty9),(34,zdh),(35,zdd),(93,zb7),(118,ze7),(119,ze4),(120,zet),(173,zff)]
theorem zbp: ∀t i,yw z7p t=some i→yp prog t i:=(zc ty3_ok (zc zc3 (zc zcz (zc ty9_ok (zc zbh (zc zbl (zc zcx (zc zzg (zc zxx (zc zy9 (zc zw6 zao)))))))))))
theorem z69 {k:Int}:(UInt64.ofInt k&&&UInt64.ofNat 31).toNat=(k%32).toNat:=by
  rw [UInt64.toNat_and,show (UInt64.ofNat 31).toNat=2^5-1 by decide,Nat.and_two_pow_sub_one_eq_mod]
  have h:(UInt64.ofInt k).toNat=(k%18446744073709551616).toNat:=by
    unfold UInt64.ofInt
    rw [UInt64.toNat_ofNat']
    have:=Int.emod_nonneg k (show (2^64:Int)≠0 by decide)
    have:=Int.emod_lt_of_pos k (show (0:Int)<2^64 by decide)
    omega
  rw [h]
  omega
def zrw:Spec:=fun args hp K=>match args,hp with
  | [.u32 x,.int k],[]=>Pre (k%32≠0) (K (.u32 (zi1 x (k%32).toNat)) [])
  |_,_=>False
theorem zt7:zp prog 119 zrw:=by
  refine zo zbp zk rfl func119 rfl call119 (D:=z64) ?_ ?_
  ·intro args hp K h
   unfold zrw at h
   split at h
   ·exact Nat.le_of_ble_eq_true rfl
   ·exact h.elim
  ·intro args hp K h
   unfold zrw at h
   split at h
   ·rename_i x k
    obtain ⟨hk,h⟩:=zl h
    have hs:=z69 (k:=k)
    have hm:=Int.emod_lt_of_pos k (show (0:Int)<32 by decide)
    have hm0:=Int.emod_nonneg k (show (32:Int)≠0 by decide)
    have hd:(UInt64.ofNat 32-(UInt64.ofInt k&&&UInt64.ofNat 31)).toNat=32-(k%32).toNat:=by
      rw [UInt64.toNat_sub_of_le _ _ (by rw [UInt64.le_iff_toNat_le,hs];show _≤32;omega),hs];rfl
    refine wk ?_
    rw [hs,hd]
    conv=>whnf
    exact ze (hp':= []) [] h
   ·exact h.elim
def zz9:Spec:=fun args hp K=>match args,hp with
  | [.str s],[]=>Pre (4≤s.length) (K (.u32 (wd s 0)) [])
  |_,_=>False
theorem z5j:zp prog 99 zz9:=by
  refine zo zbp zk rfl func99 rfl call99 (D:=z79) ?_ ?_
  ·intro args hp K h
   unfold zz9 at h
   split at h
   ·exact Nat.le_of_ble_eq_true rfl
   ·exact h.elim
  ·intro args hp K h
   unfold zz9 at h
   split at h
   ·rename_i s
    obtain ⟨hs,h⟩:=zl h
    refine wk ?_
    exact ze (hp':= []) [] h
   ·exact h.elim
def zlw:Spec:=fun args hp K=>match args,hp with
  | [.ptr 0 0 0 [],.int a,.int b,.int c,.int d],[.mk t [.arr32 16 x]]=>Pre (x.length=16∧(0≤a∧a<16)∧(0≤b∧b<16)∧(0≤c∧c<16)∧(0≤d∧d<16)) (K (.tup []) [.mk t [.arr32 16 (qr x a.toNat b.toNat c.toNat d.toNat)]])
  |_,_=>False
theorem zvp:zp prog 100 zlw:=by
  refine zo zbp (zd zt7 zk) rfl func100 rfl call100 (D:=z6q) ?_ ?_
  ·intro args hp K h
   unfold zlw at h
   split at h
   ·exact Nat.le_of_ble_eq_true rfl
   ·exact h.elim
  ·intro args hp K h
   unfold zlw at h
   split at h
   ·rename_i a b c d t x
    obtain ⟨⟨hx,ha,hb,hc,hd⟩,h⟩:=zl h
    refine wk ?_
    exact ze (hp':= [.mk t [.arr32 16 (qr x a.toNat b.toNat c.toNat d.toNat)]]) [0] h
   ·exact h.elim
def ztl:Spec:=fun args hp K=>match args,hp with
  | [.str key,.str nonce,.u32 n],[]=>Pre (key.length=32∧nonce.length=12) (K (.arr32 16 (beg key nonce n)) [])
  |_,_=>False
attribute [local irreducible] qr wd zi1
theorem ztv:zp prog 73 ztl:=by
  refine zo zbp (zd z5j zk) rfl func73 rfl call73 (D:=z8x) ?_ ?_
  ·intro args hp K h
   unfold ztl at h
   split at h
   ·exact Nat.le_of_ble_eq_true rfl
   ·exact h.elim
  ·intro args hp K h
   unfold ztl at h
   split at h
   ·rename_i key nonce n
    obtain ⟨⟨hk,hn⟩,h⟩:=zl h
    refine wk ?_
    refine zt (Ix (8)) (fun q=>⟨[(0,.str key),(1,.str nonce),(2,.u32 n),(6,.ptr 0 0 0 []),(7,.ptr 1 0 0 []),(11,.int q.i)],[.mk 120 [.arr32 16 (List.replicate 16 0)],.mk 120 [.arr32 16 (ovr c0 4 (fun i=>wd key (4*i)) q.i)]]⟩) (fun q=>(8)-q.i) ⟨0,Nat.zero_le _⟩ [0,1] ?_ ?_
    ·repeat ((conv=>whnf);refine za ?_)
     exact trivial
    ·intro q
     have hi:=q.hi
     have hI:((4:Int)+(q.i:Int)).toNat=4+q.i:=by omega
     have hl0:=z5s
     have hlo:=yn (l:=c0) (a:=4) (i:=q.i) (by omega) (fun i=>wd key (4*i))
     by_cases h4:q.i<8
     ·refine wk ?_
      refine ⟨⟨q.i+1,h4⟩,[0,1],by show (8)-(q.i+1)<(8)-q.i;omega,?_⟩
      repeat ((conv=>whnf);refine za ?_)
      conv=>whnf
      refine zh (congrArg (fun x=>SV.agg [SV.arr32 16 x]) (yb (by omega) ?hv ?hkk)) ?_
      case hkk=>show ((4:Int)+(q.i:Int)).toNat=4+q.i;omega
      case hv=>
        show wd (List.drop (4*(q.i:Int)).toNat key) 0=_
        rw [show (4*(q.i:Int)).toNat=4*q.i by omega,zvh]
      repeat ((conv=>whnf);refine za ?_)
      exact trivial
     ·have e4:q.i=8:=by omega
      rw [e4] at hlo
      rw [e4]
      have hl2:((ovr c0 4 (fun i=>wd key (4*i)) 8).set 12 n).length=16:=by rw [List.length_set,hlo];rfl
      refine wk ?_
      refine zt (Ix (3)) (fun r=>⟨[(0,.str key),(1,.str nonce),(2,.u32 n),(6,.ptr 0 0 0 []),(7,.ptr 1 0 0 []),(25,.int r.i)],[.mk 120 [.arr32 16 (List.replicate 16 0)],.mk 120 [.arr32 16 (ovr ((ovr c0 4 (fun i=>wd key (4*i)) 8).set 12 n) 13 (fun i=>wd nonce (4*i)) r.i)]]⟩) (fun r=>(3)-r.i) ⟨0,Nat.zero_le _⟩ [0,1] ?_ ?_
      ·repeat ((conv=>whnf);refine za ?_)
       exact trivial
      ·intro r
       have hri:=r.hi
       have hlr:=yn (l:=(ovr c0 4 (fun i=>wd key (4*i)) 8).set 12 n) (a:=13) (i:=r.i) (by omega) (fun i=>wd nonce (4*i))
       by_cases h5:r.i<3
       ·refine wk ?_
        refine ⟨⟨r.i+1,h5⟩,[0,1],by show (3)-(r.i+1)<(3)-r.i;omega,?_⟩
        repeat ((conv=>whnf);refine za ?_)
        conv=>whnf
        refine zh (congrArg (fun x=>SV.agg [SV.arr32 16 x]) (yb (by omega) ?hv ?hkk)) ?_
        case hkk=>show ((13:Int)+(r.i:Int)).toNat=13+r.i;omega
        case hv=>
          show wd (List.drop (4*(r.i:Int)).toNat nonce) 0=_
          rw [show (4*(r.i:Int)).toNat=4*r.i by omega,zvh]
        repeat ((conv=>whnf);refine za ?_)
        exact trivial
       ·have e5:r.i=3:=by omega
        rw [e5,z5f]
        refine wk ?_
        exact ze (hp':= []) [] h
   ·exact h.elim
def zsp:Spec:=fun args hp K=>match args,hp with
  | [.arr32 16 x],[]=>Pre (x.length=16) (K (.arr8 64 (zw7 x)) [])
  |_,_=>False
theorem zt4:zp prog 74 zsp:=by
  refine zo zbp (zd zvp zk) rfl func74 rfl call74 (D:=z8t) ?_ ?_
  ·intro args hp K h
   unfold zsp at h
   split at h
   ·exact Nat.le_of_ble_eq_true rfl
   ·exact h.elim
  ·intro args hp K h
   unfold zsp at h
   split at h
   ·rename_i x
    obtain ⟨hx,h⟩:=zl h
    refine wk ?_
    refine zt (Ix (10)) (fun q=>⟨[(0,.arr32 16 x),(1,.ptr 0 0 0 []),(2,.ptr 1 0 0 []),(3,.ptr 2 0 0 []),(9,.int q.i)],[.mk 120 [.arr32 16 x],.mk 118 [.arr8 64 (List.replicate 64 0)],.mk 120 [.arr32 16 (zn0 x q.i)]]⟩) (fun q=>(10)-q.i) ⟨0,Nat.zero_le _⟩ [0,1,2] ?_ ?_
    ·repeat ((conv=>whnf);refine za ?_)
     exact trivial
    ·intro q
     have hi:=q.hi
     have hX:=zrq x q.i
     by_cases h4:q.i<10
     ·refine wk ?_
      generalize hXe:zn0 x q.i=X at*
      refine zt (Ix (4)) (fun r=>⟨[(0,.arr32 16 x),(1,.ptr 0 0 0 []),(2,.ptr 1 0 0 []),(3,.ptr 2 0 0 []),(9,.int q.i),(11,.int r.i)],[.mk 120 [.arr32 16 x],.mk 118 [.arr8 64 (List.replicate 64 0)],.mk 120 [.arr32 16 (zj4 X r.i)]]⟩) (fun r=>(4)-r.i) ⟨0,Nat.zero_le _⟩ [0,1,2] ?_ ?_
      ·repeat ((conv=>whnf);refine za ?_)
       exact trivial
      ·intro r
       have hri:=r.hi
       have hc:=zix X r.i
       by_cases h5:r.i<4
       ·have e0:((r.i:Int)).toNat=r.i:=Int.toNat_natCast _
        have e1:((4:Int)+(r.i:Int)).toNat=4+r.i:=by omega
        have e2:((8:Int)+(r.i:Int)).toNat=8+r.i:=by omega
        have e3:((12:Int)+(r.i:Int)).toNat=12+r.i:=by omega
        have hp5:(zj4 X r.i).length=16∧(0≤(r.i:Int)∧(r.i:Int)<16)∧(0≤(4:Int)+(r.i:Int)∧(4:Int)+(r.i:Int)<16)∧(0≤(8:Int)+(r.i:Int)∧(8:Int)+(r.i:Int)<16)∧(0≤(12:Int)+(r.i:Int)∧(12:Int)+(r.i:Int)<16):=⟨by omega,by omega,by omega,by omega,by omega⟩
        refine wk ?_
        rw [e0,e1,e2,e3]
        conv=>whnf
        refine ⟨⟨r.i+1,h5⟩,[0,1,2],by show (4)-(r.i+1)<(4)-r.i;omega,?_⟩
        repeat ((conv=>whnf);refine za ?_)
        exact trivial
       ·have e5:r.i=4:=by omega
        rw [e5] at hc
        rw [e5]
        generalize hYe:zj4 X 4=Y at*
        refine wk ?_
        refine zt (Ix (4)) (fun u=>⟨[(0,.arr32 16 x),(1,.ptr 0 0 0 []),(2,.ptr 1 0 0 []),(3,.ptr 2 0 0 []),(9,.int q.i),(23,.int u.i)],[.mk 120 [.arr32 16 x],.mk 118 [.arr8 64 (List.replicate 64 0)],.mk 120 [.arr32 16 (zls Y u.i)]]⟩) (fun u=>(4)-u.i) ⟨0,Nat.zero_le _⟩ [0,1,2] ?_ ?_
        ·repeat ((conv=>whnf);refine za ?_)
         exact trivial
        ·intro u
         have hui:=u.hi
         have hd:=zir Y u.i
         by_cases h6:u.i<4
         ·have e0:((u.i:Int)).toNat=u.i:=Int.toNat_natCast _
          have e1:((4:Int)+((u.i:Int)+1).tmod 4).toNat=4+(u.i+1)%4:=by rw [Int.tmod_eq_emod_of_nonneg (by omega)];omega
          have e2:((8:Int)+((u.i:Int)+2).tmod 4).toNat=8+(u.i+2)%4:=by rw [Int.tmod_eq_emod_of_nonneg (by omega)];omega
          have e3:((12:Int)+((u.i:Int)+3).tmod 4).toNat=12+(u.i+3)%4:=by rw [Int.tmod_eq_emod_of_nonneg (by omega)];omega
          have n1:=Int.tmod_nonneg (a:=(u.i:Int)+1) 4 (by omega)
          have n2:=Int.tmod_nonneg (a:=(u.i:Int)+2) 4 (by omega)
          have n3:=Int.tmod_nonneg (a:=(u.i:Int)+3) 4 (by omega)
          have hp5:(zls Y u.i).length=16∧(0≤(u.i:Int)∧(u.i:Int)<16)∧(0≤(4:Int)+((u.i:Int)+1).tmod 4∧(4:Int)+((u.i:Int)+1).tmod 4<16)∧(0≤(8:Int)+((u.i:Int)+2).tmod 4∧(8:Int)+((u.i:Int)+2).tmod 4<16)∧(0≤(12:Int)+((u.i:Int)+3).tmod 4∧(12:Int)+((u.i:Int)+3).tmod 4<16):=⟨by omega,by omega,by omega,by omega,by omega⟩
          refine wk ?_
          rw [e0,e1,e2,e3]
          conv=>whnf
          refine ⟨⟨u.i+1,h6⟩,[0,1,2],by show (4)-(u.i+1)<(4)-u.i;omega,?_⟩
          repeat ((conv=>whnf);refine za ?_)
          exact trivial
         ·have e6:u.i=4:=by omega
          rw [e6,show zls Y 4=zn0 x (q.i+1) by rw [←hYe,←hXe];rfl]
          refine wk ?_
          refine ⟨⟨q.i+1,h4⟩,[0,1,2],by show (10)-(q.i+1)<(10)-q.i;omega,?_⟩
          repeat ((conv=>whnf);refine za ?_)
          exact trivial
     ·have e4:q.i=10:=by omega
      rw [e4] at hX
      rw [e4]
      refine wk ?_
      refine zt (Ix (64)) (fun u=>⟨[(0,.arr32 16 x),(1,.ptr 0 0 0 []),(2,.ptr 1 0 0 []),(3,.ptr 2 0 0 []),(6,.ptr 3 0 0 []),(42,.int u.i)],[.mk 120 [.arr32 16 x],.mk 118 [.arr8 64 (List.replicate 64 0)],.mk 120 [.arr32 16 (zn0 x 10)],.mk 118 [.arr8 64 (ovr (List.replicate 64 0) 0 (outG x) u.i)]]⟩) (fun u=>(64)-u.i) ⟨0,Nat.zero_le _⟩ [0,1,2,3] ?_ ?_
      ·repeat ((conv=>whnf);refine za ?_)
       exact trivial
      ·intro u
       have hui:=u.hi
       have hd4:(u.i:Int).tdiv 4=((u.i/ 4:Nat):Int):=by rw [Int.tdiv_eq_ediv_of_nonneg (by omega)];omega
       have hm4:(u.i:Int).tmod 4=((u.i%4:Nat):Int):=by rw [Int.tmod_eq_emod_of_nonneg (by omega)];omega
       have hpd:(4:Int)≠0∧yh ((u.i:Int).tdiv 4):=⟨by decide,by unfold yh;omega⟩
       have hlo:=yn (l:=List.replicate 64 (0:UInt8)) (a:=0) (i:=u.i) (by rw [List.length_replicate];omega) (outG x)
       rw [List.length_replicate] at hlo
       by_cases h6:u.i<64
       ·refine wk ?_
        refine ⟨⟨u.i+1,h6⟩,[0,1,2,3],by show (64)-(u.i+1)<(64)-u.i;omega,?_⟩
        repeat ((conv=>whnf);refine za ?_)
        conv=>whnf
        refine zh (congrArg (fun x=>SV.agg [SV.arr8 64 x]) (yb (by rw [List.length_replicate];omega) ?hv ?hkk)) ?_
        case hkk=>show ((u.i:Int)).toNat=0+u.i;omega
        case hv=>
          show ((g32 x ((u.i:Int).tdiv 4).toNat+g32 (zn0 x 10) ((u.i:Int).tdiv 4).toNat)>>>UInt32.ofNat (8*(u.i:Int).tmod 4).toNat).toUInt8=_
          rw [hd4,hm4,Int.toNat_natCast,show (8*((u.i%4:Nat):Int)).toNat=8*(u.i%4) by omega];rfl
        repeat ((conv=>whnf);refine za ?_)
        exact trivial
       ·have e6:u.i=64:=by omega
        rw [e6,xu (List.length_replicate)]
        refine wk ?_
        exact ze (hp':= []) [] h
   ·exact h.elim
end Go.Sym.A

namespace Go.Sym.A
open Go Go.Proofs.Try Go.Sym.Lp Go.Sym.Cha
set_option maxRecDepth 100000
attribute [local irreducible] blk beg zw7
def z7k:List (Nat×List PStep):= []
def z8v:List (Nat×List PStep):= []
def z9r:List (Nat×List PStep):= [(8,[⟨0,[]⟩,⟨1,[0]⟩,⟨2,[]⟩,⟨3,[]⟩,⟨4,[0,1,2,3]⟩,⟨5,[0,1,2,3]⟩,⟨6,[0,1,2,3]⟩,⟨7,[]⟩,⟨8,[]⟩,⟨9,[]⟩])]
def zpq:Spec:=fun args hp K=>match args,hp with
  | [.str key,.int c,.str nonce],[]=>K (.bool (decide (key.length=32∧(0≤c∧c≤4294967295)∧nonce.length=12))) []
  |_,_=>False
theorem zyo:zp prog 101 zpq:=by
  refine zo zbp zk rfl func101 rfl call101 (D:=z7k) ?_ ?_
  ·intro args hp K h
   unfold zpq at h
   split at h
   ·exact Nat.le_of_ble_eq_true rfl
   ·exact h.elim
  ·intro args hp K h
   unfold zpq at h
   split at h
   ·rename_i key c nonce
    by_cases h1:key.length=32
    ·by_cases h2:0≤c
     ·by_cases h3:c≤4294967295
      ·by_cases h4:nonce.length=12
       ·rw [decide_eq_true ⟨h1,⟨h2,h3⟩,h4⟩] at h
        have d4:decide ((nonce.length:Int)=12)=true:=decide_eq_true (by omega)
        refine wk ?_
        rw [d4]
        conv=>whnf
        exact ze (hp':= []) [] h
       ·rw [decide_eq_false fun hh=>h4 hh.2.2] at h
        have d4:decide ((nonce.length:Int)=12)=false:=decide_eq_false (by omega)
        refine wk ?_
        rw [d4]
        conv=>whnf
        exact ze (hp':= []) [] h
      ·rw [decide_eq_false fun hh=>h3 hh.2.1.2] at h
       refine wk ?_
       exact ze (hp':= []) [] h
     ·rw [decide_eq_false fun hh=>h2 hh.2.1.1] at h
      refine wk ?_
      exact ze (hp':= []) [] h
    ·rw [decide_eq_false fun hh=>h1 hh.1] at h
     refine wk ?_
     exact ze (hp':= []) [] h
   ·exact h.elim
def zik:Spec:=fun args hp K=>match args,hp with
  | [.str key,.int c,.str nonce],[]=>Pre (key.length=32∧(0≤c∧c≤4294967295)∧nonce.length=12) (K (.tup [.str (blk key nonce (UInt32.ofInt c)),.int 0]) [])
  |_,_=>False
theorem zse:zp prog 75 zik:=by
  refine zo zbp (zd zyo (zd ztv (zd zt4 zk))) rfl func75 rfl call75 (D:=z8v) ?_ ?_
  ·intro args hp K h
   unfold zik at h
   split at h
   ·exact Nat.le_of_ble_eq_true rfl
   ·exact h.elim
  ·intro args hp K h
   unfold zik at h
   split at h
   ·rename_i key c nonce
    obtain ⟨hp0,h⟩:=zl h
    have hd:=decide_eq_true hp0
    have hl:=zn1 key nonce (UInt32.ofInt c)
    have hk:key.length=32∧nonce.length=12:=⟨hp0.1,hp0.2.2⟩
    have hb:=zjo key nonce (UInt32.ofInt c)
    have e:List.take 64 (List.drop (off []) (zw7 (beg key nonce (UInt32.ofInt c))))=blk key nonce (UInt32.ofInt c):=by
      unfold blk;exact List.take_of_length_le (Nat.le_of_eq (zkh _))
    have hb2:=zkh (beg key nonce (UInt32.ofInt c))
    repeat ((conv=>whnf);first|refine zn ?_|refine zf ?_|refine zg ?_|refine za ?_|refine zq (by first|exact hd|(rw [hd];rfl)) ?_|refine zi (by first|exact hd|(rw [hd];rfl)) ?_|refine zj (by first|exact hd|(rw [hd];rfl)) ?_)
    conv=>whnf
    rw [e]
    conv=>whnf
    exact ze (hp':= []) [] h
   ·exact h.elim
structure Xs (n:Nat) where
  t:Nat
  x:Nat
  k:Nat
  c:Nat
  hn:k+64*t=n∨(k=0∧n≤64*t)
  hx:0<k→x=64*t
  hc:k≤c
def ztb:Spec:=fun args hp K=>match args,hp with
  | [.str key,.int c,.str nonce,.sl 0 0 0 [] n cap],[.mk t [.arr8 m l]]=>Pre (key.length=32∧nonce.length=12∧n≤l.length∧n≤cap∧n≤9223372036854775807)
      (K (.tup []) [.mk t [.arr8 m (xo key nonce (UInt32.ofInt c) (l.take n)++l.drop n)]])
  |_,_=>False
theorem zur:zp prog 50 ztb:=by
  refine zo zbp (zd ztv (zd zt4 zk)) rfl func50 rfl call50 (D:=z9r) ?_ ?_
  ·intro args hp K h
   unfold ztb at h
   split at h
   ·exact Nat.le_of_ble_eq_true rfl
   ·exact h.elim
  ·intro args hp K h
   unfold ztb at h
   split at h
   ·rename_i key c nonce n cap t m l
    obtain ⟨⟨hk,hn,hl,hcap,hmax⟩,h⟩:=zl h
    rw [←zyp hl] at h
    have hkn:key.length=32∧nonce.length=12:=⟨hk,hn⟩
    refine wk ?_
    refine zt (Option (Xs n)) (fun q=>match q with
      |none=>⟨[(0,.str key),(1,.int c),(2,.str nonce),(3,.sl 0 0 0 [] n cap),(8,.u32 (UInt32.ofInt c))],[.mk t [.arr8 m l]]⟩
      |some s=>⟨[(0,.str key),(1,.int c),(2,.str nonce),(3,.sl 0 0 0 [(s.x,1)] s.k s.c),(8,.u32 (UInt32.ofInt c+UInt32.ofNat s.t))],[.mk t [.arr8 m (zi6 key nonce (UInt32.ofInt c) l (n-s.k))]]⟩)
      (fun q=>match q with|none=>n+1|some s=>s.k) none [0] ?_ ?_
    ·repeat ((conv=>whnf);refine za ?_)
     exact trivial
    ·intro q
     cases q with
     |none=>
      by_cases h4:0<n
      ·have hD:64*0=0:=rfl
       have hct:UInt32.ofInt c+UInt32.ofNat 0=UInt32.ofInt c:=UInt32.add_zero _
       have hbg:=zn1 key nonce (UInt32.ofInt c)
       have hmn:(min (n:Int) 64).toNat=min n 64:=by omega
       refine wk ?_
       refine zt (Ix ((min n 64))) (fun r=>⟨[(0,.str key),(1,.int c),(2,.str nonce),(3,.sl 0 0 0 [] n cap),(8,.u32 (UInt32.ofInt c)),(9,.ptr 1 0 0 []),(10,.int (min (n:Int) 64)),(27,.int (min (n:Int) 64)),(28,.int r.i)],[.mk t [.arr8 m (zi6 key nonce (UInt32.ofInt c) l (0+r.i))],.mk 118 [.arr8 64 (blk key nonce (UInt32.ofInt c))]]⟩) (fun r=>((min n 64))-r.i) ⟨0,Nat.zero_le _⟩ [0,1] ?_ ?_
       ·repeat ((conv=>whnf);refine za ?_)
        conv=>whnf
        refine zh (congrArg (fun x=>SV.agg [SV.arr8 64 x]) (by unfold blk;rfl)) ?_
        repeat ((conv=>whnf);refine za ?_)
        exact trivial
       ·intro r
        have hri:=r.hi
        have hlr:(zi6 key nonce (UInt32.ofInt c) l (0+r.i)).length=l.length:=yn (l:=l) (a:=0) (i:=0+r.i) (by omega) (zgr key nonce (UInt32.ofInt c) l)
        have hbl:=zjo key nonce (UInt32.ofInt c)
        have hR:((r.i:Int)).toNat=r.i:=Int.toNat_natCast _
        by_cases h5:r.i<min n 64
        ·refine wk ?_
         refine ⟨⟨r.i+1,h5⟩,[0,1],by show ((min n 64))-(r.i+1)<((min n 64))-r.i;omega,?_⟩
         repeat ((conv=>whnf);refine za ?_)
         conv=>whnf
         refine zh (congrArg (fun x=>SV.agg [SV.arr8 m x]) (yb (by omega) ?hv ?hkk)) ?_
         case hkk=>show r.i=0+(0+r.i);omega
         case hv=>
           show List.getD (ovr l 0 (zgr key nonce (UInt32.ofInt c) l) (0+r.i)) (r.i) 0^^^List.getD (blk key nonce (UInt32.ofInt c)) r.i 0=_
           rw [yt (by omega) _ (by omega)]
           unfold zgr
           rw [show (0+r.i)/ 64=0 by omega,show (0+r.i)%64=r.i by omega,hct,Nat.zero_add]
         repeat ((conv=>whnf);refine za ?_)
         exact trivial
        ·have e5:r.i=min n 64:=by omega
         rw [e5]
         refine wk ?_
         rw [hmn]
         refine ⟨some ⟨0+1,slO cap (min n 64),n-min n 64,cap-min n 64,by omega,fun h0=>by
           have hne:cap≠min n 64:=by omega
           rw [xa hne];omega,by omega⟩,[0],by show n-min n 64<n+1;omega,?_⟩
         repeat ((conv=>whnf);refine za ?_)
         conv=>whnf
         refine zh (congrArg (fun k=>SV.agg [SV.arr8 m (zi6 key nonce (UInt32.ofInt c) l k)]) (by show 0+min n 64=n-(n-min n 64);omega)) ?_
         repeat ((conv=>whnf);refine za ?_)
         exact trivial
      ·have e4:n=0:=by omega
       refine wk ?_
       refine yl (hp':= [.mk t [.arr8 m (zi6 key nonce (UInt32.ofInt c) l n)]]) [0] h ?_
       repeat ((conv=>whnf);refine za ?_)
       conv=>whnf
       refine zh (congrArg (fun x=>SV.agg [SV.arr8 m x]) (by rw [e4];unfold zi6;exact (zbv _ _ _).symm)) ?_
       repeat ((conv=>whnf);refine za ?_)
       exact trivial
     |some s=>
      have hsn:=s.hn
      have hsx:=s.hx
      have hsc:=s.hc
      have hls:=yn (l:=l) (a:=0) (i:=n-s.k) (by omega) (zgr key nonce (UInt32.ofInt c) l)
      by_cases h4:0<s.k
      ·have hX:=hsx h4
       have hD:n-s.k=64*s.t:=by omega
       have hbg:=zn1 key nonce (UInt32.ofInt c+UInt32.ofNat s.t)
       have hmn:(min (s.k:Int) 64).toNat=min s.k 64:=by omega
       refine wk ?_
       refine zt (Ix ((min s.k 64))) (fun r=>⟨[(0,.str key),(1,.int c),(2,.str nonce),(3,.sl 0 0 0 [(s.x,1)] s.k s.c),(8,.u32 (UInt32.ofInt c+UInt32.ofNat s.t)),(9,.ptr 1 0 0 []),(10,.int (min (s.k:Int) 64)),(27,.int (min (s.k:Int) 64)),(28,.int r.i)],[.mk t [.arr8 m (zi6 key nonce (UInt32.ofInt c) l ((n-s.k)+r.i))],.mk 118 [.arr8 64 (blk key nonce (UInt32.ofInt c+UInt32.ofNat s.t))]]⟩) (fun r=>((min s.k 64))-r.i) ⟨0,Nat.zero_le _⟩ [0,1] ?_ ?_
       ·repeat ((conv=>whnf);refine za ?_)
        conv=>whnf
        refine zh (congrArg (fun x=>SV.agg [SV.arr8 64 x]) (by unfold blk;rfl)) ?_
        repeat ((conv=>whnf);refine za ?_)
        exact trivial
       ·intro r
        have hri:=r.hi
        have hlr:(zi6 key nonce (UInt32.ofInt c) l ((n-s.k)+r.i)).length=l.length:=yn (l:=l) (a:=0) (i:=(n-s.k)+r.i) (by omega) (zgr key nonce (UInt32.ofInt c) l)
        have hbl:=zjo key nonce (UInt32.ofInt c+UInt32.ofNat s.t)
        have hR:((r.i:Int)).toNat=r.i:=Int.toNat_natCast _
        by_cases h5:r.i<min s.k 64
        ·refine wk ?_
         refine ⟨⟨r.i+1,h5⟩,[0,1],by show ((min s.k 64))-(r.i+1)<((min s.k 64))-r.i;omega,?_⟩
         repeat ((conv=>whnf);refine za ?_)
         conv=>whnf
         refine zh (congrArg (fun x=>SV.agg [SV.arr8 m x]) (yb (by omega) ?hv ?hkk)) ?_
         case hkk=>show s.x+r.i=0+((n-s.k)+r.i);omega
         case hv=>
           show List.getD (ovr l 0 (zgr key nonce (UInt32.ofInt c) l) ((n-s.k)+r.i)) (s.x+r.i) 0^^^List.getD (blk key nonce (UInt32.ofInt c+UInt32.ofNat s.t)) r.i 0=_
           rw [yt (by omega) _ (by omega)]
           unfold zgr
           rw [show ((n-s.k)+r.i)/ 64=s.t by omega,show ((n-s.k)+r.i)%64=r.i by omega,show s.x+r.i=n-s.k+r.i by omega]
         repeat ((conv=>whnf);refine za ?_)
         exact trivial
        ·have e5:r.i=min s.k 64:=by omega
         rw [e5]
         refine wk ?_
         rw [hmn]
         refine ⟨some ⟨s.t+1,s.x+slO s.c (min s.k 64),s.k-min s.k 64,s.c-min s.k 64,by omega,fun h0=>by
           have hne:s.c≠min s.k 64:=by omega
           rw [xa hne];omega,by omega⟩,[0],by show s.k-min s.k 64<s.k;omega,?_⟩
         repeat ((conv=>whnf);refine za ?_)
         conv=>whnf
         refine zh (congrArg (fun k=>SV.agg [SV.arr8 m (zi6 key nonce (UInt32.ofInt c) l k)]) (by show (n-s.k)+min s.k 64=n-(s.k-min s.k 64);omega)) ?_
         repeat ((conv=>whnf);refine za ?_)
         conv=>whnf
         refine zh (congrArg SV.u32 (by show (UInt32.ofInt c+UInt32.ofNat s.t)+UInt32.ofNat 1=UInt32.ofInt c+UInt32.ofNat (s.t+1);exact u32_add _ _)) ?_
         repeat ((conv=>whnf);refine za ?_)
         exact trivial
      ·have e4:s.k=0:=by omega
       refine wk ?_
       refine yl (hp':= [.mk t [.arr8 m (zi6 key nonce (UInt32.ofInt c) l n)]]) [0] h ?_
       repeat ((conv=>whnf);refine za ?_)
       conv=>whnf
       refine zh (congrArg (fun k=>SV.agg [SV.arr8 m (zi6 key nonce (UInt32.ofInt c) l k)]) (by show n-s.k=n;omega)) ?_
       repeat ((conv=>whnf);refine za ?_)
       exact trivial
   ·exact h.elim
end Go.Sym.A

namespace Go.Sym.Pol
open Go.Sym.Lp
def ws:List UInt64→Nat
  | [a,b,c,d,e]=>a.toNat+67108864*b.toNat+4503599627370496*c.toNat+302231454903657293676544*d.toNat+20282409603651670423947251286016*e.toNat
  |_=>0
theorem z59 {x:List UInt64} (h:x.length=5): ∃a b c d e,x= [a,b,c,d,e]:=by
  match x,h with
  | [a,b,c,d,e],_=>exact ⟨a,b,c,d,e,rfl⟩
def M26:UInt64:=67108863
def g64 (x:List UInt64) (i:Nat):UInt64:=x.getD i 0
def zad (x:List UInt64):Nat→List UInt64
  |0=>x
  |i+1=>
   let y:=zad x i
   let c:=g64 y (i%5)>>>(26:UInt64)
   let z:=y.set (i%5) (g64 y (i%5)&&&M26)
   if i%5=4 then z.set 0 (g64 z 0+5*c) else z.set (i%5+1) (g64 z (i%5+1)+c)
theorem zit (x:List UInt64): ∀i,(zad x i).length=x.length
  |0=>rfl
  |i+1=>by
   simp only [zad]
   split<;>simp [zit x i]
def car (x:List UInt64):List UInt64:=zad x 6
def zyu (x r:List UInt64) (i k:Nat):UInt64:=if 5≤i+k then g64 x i*g64 r k*5 else g64 x i*g64 r k
def ze8 (x r:List UInt64):Nat→List UInt64
  |0=> [0,0,0,0,0]
  |n+1=>(ze8 x r n).set ((n/ 5+n%5)%5) (g64 (ze8 x r n) ((n/ 5+n%5)%5)+zyu x r (n/ 5) (n%5))
theorem zg4 (x r:List UInt64): ∀n,(ze8 x r n).length=5
  |0=>rfl
  |n+1=>by simp only [ze8,List.length_set];exact zg4 x r n
theorem z5k (x r:List UInt64) (n:Nat):ze8 x r (n+1)=(ze8 x r n).set ((n/ 5+n%5)%5) (g64 (ze8 x r n) ((n/ 5+n%5)%5)+zyu x r (n/ 5) (n%5)):=rfl
def zk3 (x r:List UInt64):List UInt64:=car (ze8 x r 25)
end Go.Sym.Pol
namespace Go.Sym.Pol
open Go.Sym.Lp
def zvw (x y:List UInt64):List UInt64:=(List.range 5).map fun i=>g64 x i+g64 y i
theorem zzy (x y:List UInt64):(zvw x y).length=5:=z4 _ _
theorem zb6 (x:List UInt64):(car x).length=x.length:=zit x 6
theorem zws (x r:List UInt64):(zk3 x r).length=5:=by unfold zk3;rw [zb6,zg4]
theorem zsg (x:List UInt64) (i:Nat) (h: ¬i%5=4):zad x (i+1)=((zad x i).set (i%5) (g64 (zad x i) (i%5)&&&M26)).set (i%5+1) (g64 ((zad x i).set (i%5) (g64 (zad x i) (i%5)&&&M26)) (i%5+1)+g64 (zad x i) (i%5)>>>(26:UInt64)):=by
  simp only [zad];rw [if_neg h]
theorem zr8 (x:List UInt64) (i:Nat) (h:i%5=4):zad x (i+1)=((zad x i).set (i%5) (g64 (zad x i) (i%5)&&&M26)).set 0 (g64 ((zad x i).set (i%5) (g64 (zad x i) (i%5)&&&M26)) 0+5*g64 (zad x i) (i%5)>>>(26:UInt64)):=by
  simp only [zad];rw [if_pos h]
def zh2 (b:List UInt8):Nat→List UInt64
  |0=> [0,0,0]
  |i+1=>(zh2 b i).set (i/ 8) (g64 (zh2 b i) (i/ 8)|||(b.getD i 0).toUInt64<<<UInt64.ofNat (8*(i%8)))
theorem zrb (b:List UInt8): ∀i,(zh2 b i).length=3
  |0=>rfl
  |i+1=>by simp only [zh2,List.length_set];exact zrb b i
def ldW (b:List UInt8):List UInt64:=(zh2 b b.length).set (b.length/ 8) (g64 (zh2 b b.length) (b.length/ 8)|||(1:UInt64)<<<UInt64.ofNat (8*(b.length%8)))
def z8l (w:List UInt64):List UInt64:=
  [g64 w 0&&&M26,g64 w 0>>>(26:UInt64)&&&M26,(g64 w 0>>>(52:UInt64)|||g64 w 1<<<(12:UInt64))&&&M26,g64 w 1>>>(14:UInt64)&&&M26,g64 w 1>>>(40:UInt64)|||g64 w 2<<<(24:UInt64)]
def zfn (b:List UInt8):List UInt64:=z8l (ldW b)
theorem zie (b:List UInt8):(zfn b).length=5:=rfl
def ztp (r x:List UInt64) (b:List UInt8):List UInt64:=zk3 (zvw x (zfn b)) r
theorem zyj (r x:List UInt64) (b:List UInt8):(ztp r x b).length=5:=zws _ _
end Go.Sym.Pol
namespace Go.Sym.Pol
theorem z2s (x r:List UInt64) {i k:Nat} (hk:k<5):ze8 x r (5*i+k+1)=(ze8 x r (5*i+k)).set ((i+k)%5) (g64 (ze8 x r (5*i+k)) ((i+k)%5)+zyu x r i k):=by
  rw [z5k,show (5*i+k)/ 5=i by omega,show (5*i+k)%5=k by omega]
end Go.Sym.Pol
namespace Go.Sym.Pol
open Go.Sym.Lp
def zjd (r x:List UInt64) (B:List UInt8):Nat→List UInt64
  |0=>x
  |t+1=>ztp r (zjd r x B t) ((B.drop (16*t)).take 16)
def zdt (r x:List UInt64) (B:List UInt8):List UInt64:=zjd r x B ((B.length+15)/ 16)
theorem ziw {r x:List UInt64} (hx:x.length=5) (B:List UInt8): ∀t,(zjd r x B t).length=5
  |0=>hx
  |_+1=>zyj _ _ _
theorem zkc {r x:List UInt64} (hx:x.length=5) (B:List UInt8):(zdt r x B).length=5:=ziw hx B _
theorem z3j {l:List UInt8} {n a:Nat}:((l.take n).drop a).take 16=(l.drop a).take (min 16 (n-a)):=by
  rw [List.drop_take,List.take_take]
def za0 (x:List UInt64):Nat→List UInt64
  |0=>x.set 0 (g64 x 0+5)
  |i+1=>((za0 x i).set (i+1) (g64 (za0 x i) (i+1)+g64 (za0 x i) i>>>(26:UInt64))).set i (g64 ((za0 x i).set (i+1) (g64 (za0 x i) (i+1)+g64 (za0 x i) i>>>(26:UInt64))) i&&&M26)
theorem zio (x:List UInt64): ∀i,(za0 x i).length=x.length
  |0=>by simp [za0]
  |i+1=>by simp only [za0,List.length_set];exact zio x i
def zau (x:List UInt64):List UInt64:=
  if 0<(g64 (za0 (car (car x)) 4) 4>>>(26:UInt64)).toNat then (za0 (car (car x)) 4).set 4 (g64 (za0 (car (car x)) 4) 4&&&M26) else car (car x)
theorem zwc {x:List UInt64} (h:x.length=5):(zau x).length=5:=by
  unfold zau;split
  ·rw [List.length_set,zio,zb6,zb6,h]
  ·rw [zb6,zb6,h]
def zwv (x:List UInt64):UInt64:=g64 x 0|||g64 x 1<<<(26:UInt64)|||g64 x 2<<<(52:UInt64)
def zmz (x:List UInt64):UInt64:=g64 x 2>>>(12:UInt64)|||g64 x 3<<<(14:UInt64)|||g64 x 4<<<(40:UInt64)
def zbb (lo hi:UInt64) (key:List UInt8):Nat→List UInt8×UInt64
  |0=>(List.replicate 16 0,0)
  |i+1=>
   let c:=(zbb lo hi key i).2+(((if 8≤i then hi else lo)>>>UInt64.ofNat (8*(i%8))&&&255)+(key.getD (16+i) 0).toUInt64)
   ((zbb lo hi key i).1.set i c.toUInt8,c>>>(8:UInt64))
theorem zkx (lo hi:UInt64) (key:List UInt8): ∀i,(zbb lo hi key i).1.length=16
  |0=>rfl
  |i+1=>by simp only [zbb,List.length_set];exact zkx lo hi key i
def zh6 (x:List UInt64) (key:List UInt8):List UInt8:=(zbb (zwv (zau x)) (zmz (zau x)) key 16).1
theorem zvx (x:List UInt64) (key:List UInt8):(zh6 x key).length=16:=zkx _ _ _ 16
end Go.Sym.Pol
namespace Go.Sym.Pol
section
variable (lo hi:UInt64) (key:List UInt8) {i:Nat}
theorem zu7:zbb lo hi key 0=(List.replicate 16 0,0):=rfl
theorem z3p (h:8≤i):zbb lo hi key (i+1)=((zbb lo hi key i).1.set i ((zbb lo hi key i).2+((hi>>>UInt64.ofNat (8*(i%8))&&&255)+(key.getD (16+i) 0).toUInt64)).toUInt8,((zbb lo hi key i).2+((hi>>>UInt64.ofNat (8*(i%8))&&&255)+(key.getD (16+i) 0).toUInt64))>>>(8:UInt64)):=by
  simp only [zbb];rw [if_pos h]
theorem z3h (h: ¬8≤i):zbb lo hi key (i+1)=((zbb lo hi key i).1.set i ((zbb lo hi key i).2+((lo>>>UInt64.ofNat (8*(i%8))&&&255)+(key.getD (16+i) 0).toUInt64)).toUInt8,((zbb lo hi key i).2+((lo>>>UInt64.ofNat (8*(i%8))&&&255)+(key.getD (16+i) 0).toUInt64))>>>(8:UInt64)):=by
  simp only [zbb];rw [if_neg h]
end
end Go.Sym.Pol
namespace Go.Sym.Pol
open Go.Sym.Lp
def cA (b:List UInt8):Nat→List UInt8
  |0=>b
  |j+1=>(cA b j).set (3+4*j) ((cA b j).getD (3+4*j) 0&&&UInt8.ofNat 15)
def cC (b:List UInt8):Nat→List UInt8
  |0=>b
  |j+1=>(cC b j).set (4+4*j) ((cC b j).getD (4+4*j) 0&&&UInt8.ofNat 252)
theorem zxt (b:List UInt8): ∀j,(cA b j).length=b.length
  |0=>rfl
  |j+1=>by simp only [cA,List.length_set];exact zxt b j
theorem zx6 (b:List UInt8): ∀j,(cC b j).length=b.length
  |0=>rfl
  |j+1=>by simp only [cC,List.length_set];exact zx6 b j
theorem zna {b tl:List UInt8} {k:Nat} (h:k<b.length) (m:UInt8):(b++tl).set k ((b++tl).getD k 0&&&m)=b.set k (b.getD k 0&&&m)++tl:=by
  rw [List.set_append_left _ _ h,List.getD_eq_getElem?_getD,List.getElem?_append_left h,←List.getD_eq_getElem?_getD]
def rOf (key:List UInt8):List UInt64:=(zfn (cC (cA (key.take 16) 4) 3)).set 4 (g64 (zfn (cC (cA (key.take 16) 4) 3)) 4&&&UInt64.ofNat 16777215)
theorem z2p (key:List UInt8):(rOf key).length=5:=by unfold rOf;rw [List.length_set];exact zie _
def zeh (n:Nat):List UInt8:=List.replicate ((16-n%16)%16) 0
def zij (n:Nat):List UInt8:= [UInt8.ofInt (n:Int),UInt8.ofInt ((n:Int)/ 2^8),UInt8.ofInt ((n:Int)/ 2^16),UInt8.ofInt ((n:Int)/ 2^24),0,0,0,0]
def zw5 (r:List UInt64) (aad b:List UInt8):List UInt64:=
  zdt r (zdt r (zdt r [0,0,0,0,0] (aad++zeh aad.length)) (b.take (b.length-b.length%16))) (b.drop (b.length-b.length%16)++zeh b.length++zij aad.length++zij b.length)
end Go.Sym.Pol
namespace Go.Sym.Pol
theorem zib (n:Nat):(zeh n).length=(16-n%16)%16:=by unfold zeh;exact List.length_replicate
theorem zho (n:Nat):(zij n).length=8:=rfl
end Go.Sym.Pol

namespace Go.Sym.A
open Go Go.Proofs.Try Go.Sym.Lp Go.Sym.Pol
set_option maxRecDepth 100000
attribute [local irreducible] zh2 zad ze8
def z66:List (Nat×List PStep):= [(4,[⟨0,[]⟩,⟨1,[0]⟩,⟨2,[0]⟩,⟨3,[1,2]⟩,⟨4,[]⟩,⟨5,[]⟩,⟨6,[]⟩,⟨7,[1,2,3,4,5,6]⟩,⟨8,[]⟩,⟨9,[]⟩]),(6,[⟨0,[]⟩,⟨1,[]⟩,⟨2,[]⟩,⟨3,[]⟩,⟨4,[0,1,2,3]⟩,⟨5,[0,1,2,3]⟩,⟨6,[]⟩,⟨7,[1,2,3,4,5,6]⟩,⟨8,[]⟩,⟨9,[]⟩]),(7,[⟨0,[]⟩,⟨1,[0]⟩,⟨2,[0]⟩,⟨3,[0]⟩,⟨4,[1,2,3]⟩,⟨5,[]⟩,⟨6,[]⟩,⟨7,[0,1,2,3,4,5,6]⟩,⟨8,[]⟩,⟨9,[1,2,3,4,5,6,7,8]⟩,⟨10,[]⟩,⟨11,[]⟩])]
def z67:List (Nat×List PStep):= [(7,[⟨0,[]⟩,⟨1,[0]⟩,⟨2,[1]⟩,⟨3,[]⟩,⟨4,[]⟩,⟨5,[0,1,2,3,4]⟩,⟨6,[0,1,2,3,4,5]⟩,⟨7,[0,1,2,3,4,6]⟩,⟨8,[0,1,2,3,4]⟩,⟨9,[0,1,2,3,4]⟩,⟨10,[]⟩,⟨11,[]⟩])]
def z6w:List (Nat×List PStep):= [(5,[⟨0,[]⟩,⟨1,[]⟩,⟨2,[]⟩,⟨3,[]⟩,⟨4,[0,1,2,3]⟩,⟨5,[0,1,2,3]⟩,⟨6,[0,1,2,3,4,5]⟩,⟨7,[0,1,2,3,4,5]⟩,⟨8,[0,1,2,3,4,5]⟩,⟨9,[0,1,2,3]⟩,⟨10,[]⟩,⟨11,[]⟩,⟨12,[]⟩]),(7,[⟨0,[]⟩,⟨1,[]⟩,⟨2,[]⟩,⟨3,[]⟩,⟨4,[]⟩,⟨5,[0,1,2,3,4]⟩,⟨6,[0,1,2,3,4]⟩,⟨7,[0,1,2,3,4]⟩,⟨8,[0,1,2,3,4]⟩,⟨9,[0,1,2,3,4]⟩,⟨10,[]⟩,⟨11,[]⟩,⟨12,[]⟩])]
def z54:List (Nat×List PStep):= [(4,[⟨0,[]⟩,⟨1,[0]⟩,⟨2,[1]⟩,⟨3,[1]⟩,⟨4,[]⟩,⟨5,[]⟩,⟨6,[0,1,2,3,4,5]⟩,⟨7,[0,1,2,3,4,5]⟩,⟨8,[0,1,2,3,4,5]⟩,⟨9,[]⟩,⟨10,[1,2,3,4,5,6,7,8,9]⟩,⟨11,[1,2,3,4,5,6,7,8,9]⟩,⟨12,[]⟩,⟨13,[]⟩]),(6,[⟨0,[]⟩,⟨1,[]⟩,⟨2,[]⟩,⟨3,[0,1,2]⟩,⟨4,[0,1,2]⟩,⟨5,[0,1,2]⟩,⟨6,[]⟩])]
def z62:List (Nat×TyI):= [(3,ty3),(4,ty4),(5,ty5),(9,ty9),(34,zdh),(91,x4),(35,zdd),(103,zcq),(153,zez),(177,zep),(156,zfw),(124,ze0),(175,zft),(152,zeu)]
theorem xv: ∀t i,yw z62 t=some i→yp prog t i:=(zc ty3_ok (zc zc3 (zc zcz (zc ty9_ok (zc zbh (zc zcy (zc zbl (zc zgz (zc zxz (zc zzt (zc zyf (zc z0z (zc zx7 (zc zx8 zao))))))))))))))
def zsm:Spec:=fun args hp K=>match args,hp with
  | [.ptr 0 0 0 []],[.mk t [.arr64 5 x]]=>Pre (x.length=5) (K (.tup []) [.mk t [.arr64 5 (car x)]])
  |_,_=>False
theorem zuy:zp prog 121 zsm:=by
  refine zo xv zk rfl func121 rfl call121 (D:=z66) ?_ ?_
  ·intro args hp K h
   unfold zsm at h
   split at h
   ·exact Nat.le_of_ble_eq_true rfl
   ·exact h.elim
  ·intro args hp K h
   unfold zsm at h
   split at h
   ·rename_i t x
    obtain ⟨hx,h⟩:=zl h
    refine wk ?_
    refine zt (Ix (6)) (fun q=>⟨[(0,.ptr 0 0 0 []),(4,.int q.i)],[.mk t [.arr64 5 (zad x q.i)]]⟩) (fun q=>(6)-q.i) ⟨0,Nat.zero_le _⟩ [0] ?_ ?_
    ·repeat ((conv=>whnf);refine za ?_)
     conv=>whnf
     refine zh (congrArg (fun x=>SV.agg [SV.arr64 5 x]) (show x=zad x 0 by unfold zad;rfl)) ?_
     repeat ((conv=>whnf);refine za ?_)
     exact trivial
    ·intro q
     have hi:=q.hi
     have hl:=zit x q.i
     have hm:(q.i:Int).tmod 5=((q.i%5:Nat):Int):=by rw [Int.tmod_eq_emod_of_nonneg (by omega)];omega
     have hI:((q.i:Int).tmod 5).toNat=q.i%5:=by omega
     have hJ:((q.i:Int).tmod 5+1).toNat=q.i%5+1:=by omega
     by_cases h4:q.i<6
     ·by_cases h5:q.i%5=4
      ·refine wk ?_
       rw [hI]
       conv=>whnf
       refine ⟨⟨q.i+1,h4⟩,[0],by show (6)-(q.i+1)<(6)-q.i;omega,?_⟩
       repeat ((conv=>whnf);refine za ?_)
       conv=>whnf
       refine zh (congrArg (fun x=>SV.agg [SV.arr64 5 x]) (zr8 x q.i h5).symm) ?_
       repeat ((conv=>whnf);refine za ?_)
       exact trivial
      ·refine wk ?_
       rw [hI,hJ]
       conv=>whnf
       refine ⟨⟨q.i+1,h4⟩,[0],by show (6)-(q.i+1)<(6)-q.i;omega,?_⟩
       repeat ((conv=>whnf);refine za ?_)
       conv=>whnf
       refine zh (congrArg (fun x=>SV.agg [SV.arr64 5 x]) (zsg x q.i h5).symm) ?_
       repeat ((conv=>whnf);refine za ?_)
       exact trivial
     ·have e4:q.i=6:=by omega
      rw [e4,show zad x 6=car x by unfold car;rfl]
      refine wk ?_
      exact ze (hp':= [.mk t [.arr64 5 (car x)]]) [0] h
   ·exact h.elim
def zx0:Spec:=fun args hp K=>match args,hp with
  | [.sl 0 0 0 o n c],[.mk t [.arr8 m l]]=>Pre (n≤16∧off o+n≤l.length) (K (.arr64 5 (zfn ((l.drop (off o)).take n))) [.mk t [.arr8 m l]])
  |_,_=>False
theorem z0q:zp prog 102 zx0:=by
  refine zo xv zk rfl func102 rfl call102 (D:=z6w) ?_ ?_
  ·intro args hp K h
   unfold zx0 at h
   split at h
   ·exact Nat.le_of_ble_eq_true rfl
   ·exact h.elim
  ·intro args hp K h
   unfold zx0 at h
   split at h
   ·rename_i o n c t m l
    obtain ⟨⟨hn,hl⟩,h⟩:=zl h
    have hB:((l.drop (off o)).take n).length=n:=by rw [List.length_take,List.length_drop];omega
    refine wk ?_
    refine zt (Ix (n)) (fun q=>⟨[(0,.sl 0 0 0 o n c),(2,.ptr 1 0 0 []),(3,.ptr 2 0 0 []),(6,.sl 0 0 0 o n c),(7,.int n),(8,.int q.i)],[.mk t [.arr8 m l],.mk 153 [.arr64 5 [0,0,0,0,0]],.mk 175 [.arr64 3 (zh2 ((l.drop (off o)).take n) q.i)]]⟩) (fun q=>(n)-q.i) ⟨0,Nat.zero_le _⟩ [0,1,2] ?_ ?_
    ·repeat ((conv=>whnf);refine za ?_)
     conv=>whnf
     refine zh (congrArg (fun x=>SV.agg [SV.arr64 3 x]) (show [0,0,0]=zh2 _ 0 by unfold zh2;rfl)) ?_
     repeat ((conv=>whnf);refine za ?_)
     exact trivial
    ·intro q
     have hi:=q.hi
     have hw:=zrb ((l.drop (off o)).take n) q.i
     have hI:((q.i:Int)).toNat=q.i:=Int.toNat_natCast _
     have hd8:(q.i:Int).tdiv 8=((q.i/ 8:Nat):Int):=by rw [Int.tdiv_eq_ediv_of_nonneg (by omega)];omega
     have hm8:(q.i:Int).tmod 8=((q.i%8:Nat):Int):=by rw [Int.tmod_eq_emod_of_nonneg (by omega)];omega
     have hpd:(8:Int)≠0∧yh ((q.i:Int).tdiv 8):=⟨by decide,by unfold yh;omega⟩
     by_cases h4:q.i<n
     ·refine wk ?_
      refine ⟨⟨q.i+1,h4⟩,[0,1,2],by show (n)-(q.i+1)<(n)-q.i;omega,?_⟩
      repeat ((conv=>whnf);refine za ?_)
      conv=>whnf
      refine zh (congrArg (fun x=>SV.agg [SV.arr64 3 x]) ?hv) ?_
      case hv=>
        show (zh2 _ q.i).set ((q.i:Int).tdiv 8).toNat (g64 (zh2 _ q.i) ((q.i:Int).tdiv 8).toNat|||(l.getD (off (yc o q.i 1)) 0).toUInt64<<<UInt64.ofNat (8*(q.i:Int).tmod 8).toNat)=zh2 _ (q.i+1)
        rw [zv,hd8,hm8,Int.toNat_natCast,show (8*((q.i%8:Nat):Int)).toNat=8*(q.i%8) by omega,Nat.mul_one,←zhp (n:=n) h4]
        simp only [zh2]
      repeat ((conv=>whnf);refine za ?_)
      exact trivial
     ·have e4:q.i=n:=by omega
      have hn8:(n:Int).tdiv 8=((n/ 8:Nat):Int):=by rw [Int.tdiv_eq_ediv_of_nonneg (by omega)];omega
      have hk8:(n:Int).tmod 8=((n%8:Nat):Int):=by rw [Int.tmod_eq_emod_of_nonneg (by omega)];omega
      have hpn:(8:Int)≠0∧yh ((n:Int).tdiv 8):=⟨by decide,by unfold yh;omega⟩
      rw [e4] at hw
      rw [e4]
      have hnn:((n:Int).tdiv 8).toNat=n/ 8:=by omega
      have hnk:(8*(n:Int).tmod 8).toNat=8*(n%8):=by omega
      refine wk ?_
      rw [hnn,hnk]
      conv=>whnf
      refine yl (hp':= [.mk t [.arr8 m l]]) [0] h ?_
      repeat ((conv=>whnf);refine za ?_)
      conv=>whnf
      refine zh (congrArg (SV.arr64 5) (show _=zfn ((l.drop (off o)).take n) by unfold zfn ldW;rw [hB];rfl)) ?_
      repeat ((conv=>whnf);refine za ?_)
      exact trivial
   ·exact h.elim
def zr7:Spec:=fun args hp K=>match args,hp with
  | [.ptr 0 1 5 [],.ptr 0 0 0 []],[.mk t [.arr64 5 r,.arr64 5 x]]=>Pre (r.length=5∧x.length=5) (K (.tup []) [.mk t [.arr64 5 r,.arr64 5 (zk3 x r)]])
  |_,_=>False
theorem z1s:zp prog 120 zr7:=by
  refine zo xv (zd zuy zk) rfl func120 rfl call120 (D:=z67) ?_ ?_
  ·intro args hp K h
   unfold zr7 at h
   split at h
   ·exact Nat.le_of_ble_eq_true rfl
   ·exact h.elim
  ·intro args hp K h
   unfold zr7 at h
   split at h
   ·rename_i t r x
    obtain ⟨⟨hr,hx⟩,h⟩:=zl h
    refine wk ?_
    refine zt (Ix (5)) (fun q=>⟨[(0,.ptr 0 1 5 []),(1,.ptr 0 0 0 []),(4,.ptr 1 0 0 []),(8,.int q.i)],[.mk t [.arr64 5 r,.arr64 5 x],.mk 153 [.arr64 5 (ze8 x r (5*q.i))]]⟩) (fun q=>(5)-q.i) ⟨0,Nat.zero_le _⟩ [0,1] ?_ ?_
    ·repeat ((conv=>whnf);refine za ?_)
     conv=>whnf
     refine zh (congrArg (fun x=>SV.agg [SV.arr64 5 x]) (show [0,0,0,0,0]=ze8 x r 0 by unfold ze8;rfl)) ?_
     repeat ((conv=>whnf);refine za ?_)
     exact trivial
    ·intro q
     have hi:=q.hi
     by_cases h4:q.i<5
     ·refine wk ?_
      refine zt (Ix (5)) (fun k=>⟨[(0,.ptr 0 1 5 []),(1,.ptr 0 0 0 []),(4,.ptr 1 0 0 []),(8,.int q.i),(5,.int q.i),(11,.int k.i)],[.mk t [.arr64 5 r,.arr64 5 x],.mk 153 [.arr64 5 (ze8 x r (5*q.i+k.i))]]⟩) (fun k=>(5)-k.i) ⟨0,Nat.zero_le _⟩ [0,1] ?_ ?_
      ·repeat ((conv=>whnf);refine za ?_)
       exact trivial
      ·intro k
       have hki:=k.hi
       have hl:=zg4 x r (5*q.i+k.i)
       have hm:((q.i:Int)+(k.i:Int)).tmod 5=(((q.i+k.i)%5:Nat):Int):=by rw [Int.tmod_eq_emod_of_nonneg (by omega)];omega
       have hI:(((q.i:Int)+(k.i:Int)).tmod 5).toNat=(q.i+k.i)%5:=by omega
       by_cases h5:k.i<5
       ·have hat:=z2s x r (i:=q.i) (k:=k.i) h5
        by_cases h6:5≤q.i+k.i
        ·unfold zyu at hat
         rw [if_pos h6] at hat
         refine wk ?_
         rw [hI]
         conv=>whnf
         refine ⟨⟨k.i+1,h5⟩,[0,1],by show (5)-(k.i+1)<(5)-k.i;omega,?_⟩
         repeat ((conv=>whnf);refine za ?_)
         conv=>whnf
         refine zh (congrArg (fun x=>SV.agg [SV.arr64 5 x]) hat.symm) ?_
         repeat ((conv=>whnf);refine za ?_)
         exact trivial
        ·unfold zyu at hat
         rw [if_neg h6] at hat
         refine wk ?_
         rw [hI]
         conv=>whnf
         refine ⟨⟨k.i+1,h5⟩,[0,1],by show (5)-(k.i+1)<(5)-k.i;omega,?_⟩
         repeat ((conv=>whnf);refine za ?_)
         conv=>whnf
         refine zh (congrArg (fun x=>SV.agg [SV.arr64 5 x]) hat.symm) ?_
         repeat ((conv=>whnf);refine za ?_)
         exact trivial
       ·have e5:k.i=5:=by omega
        rw [e5,show 5*q.i+5=5*(q.i+1) by omega]
        refine wk ?_
        refine ⟨⟨q.i+1,h4⟩,[0,1],by show (5)-(q.i+1)<(5)-q.i;omega,?_⟩
        repeat ((conv=>whnf);refine za ?_)
        exact trivial
     ·have e4:q.i=5:=by omega
      have hl:=zg4 x r (5*5)
      have hcl:(car (ze8 x r (5*5))).length=5:=by rw [zb6];exact hl
      rw [e4]
      refine wk ?_
      exact ze (hp':= [.mk t [.arr64 5 r,.arr64 5 (zk3 x r)]]) [0] h
   ·exact h.elim
def z5v:Spec:=fun args hp K=>match args,hp with
  | [.ptr 0 0 0 [],.sl 1 0 0 o n c],[.mk t0 [.arr64 5 r,.arr64 5 x],.mk t [.arr8 m l]]=>Pre (r.length=5∧x.length=5∧n≤16∧off o+n≤l.length) (K (.tup []) [.mk t0 [.arr64 5 r,.arr64 5 (ztp r x ((l.drop (off o)).take n))],.mk t [.arr8 m l]])
  |_,_=>False
theorem z4n:zp prog 103 z5v:=by
  refine zo xv (zd z0q (zd z1s zk)) rfl func103 rfl call103 (D:=z54) ?_ ?_
  ·intro args hp K h
   unfold z5v at h
   split at h
   ·exact Nat.le_of_ble_eq_true rfl
   ·exact h.elim
  ·intro args hp K h
   unfold z5v at h
   split at h
   ·rename_i o n c t0 r x t m l
    obtain ⟨⟨hr,hx,hn,hl⟩,h⟩:=zl h
    obtain ⟨y,hy⟩: ∃y,y=zfn ((l.drop (off o)).take n):=⟨_,rfl⟩
    have hyl:y.length=5:=by rw [hy];exact zie _
    have hA:ztp r x ((l.drop (off o)).take n)=zk3 (zvw x y) r:=by unfold ztp;rw [hy]
    rw [hA] at h
    refine wk ?_
    rw [←hy]
    refine zt (Ix (5)) (fun q=>⟨[(0,.ptr 0 0 0 []),(1,.sl 1 0 0 o n c),(4,.ptr 2 0 0 []),(8,.int q.i)],[.mk t0 [.arr64 5 r,.arr64 5 (ovr x 0 (fun i=>g64 x i+g64 y i) q.i)],.mk t [.arr8 m l],.mk 153 [.arr64 5 y]]⟩) (fun q=>(5)-q.i) ⟨0,Nat.zero_le _⟩ [0,1,2] ?_ ?_
    ·repeat ((conv=>whnf);refine za ?_)
     exact trivial
    ·intro q
     have hi:=q.hi
     have hlo:=yn (l:=x) (a:=0) (i:=q.i) (by omega) (fun i=>g64 x i+g64 y i)
     by_cases h4:q.i<5
     ·refine wk ?_
      refine ⟨⟨q.i+1,h4⟩,[0,1,2],by show (5)-(q.i+1)<(5)-q.i;omega,?_⟩
      repeat ((conv=>whnf);refine za ?_)
      conv=>whnf
      refine zh (congrArg (fun z=>SV.agg [SV.arr64 5 r,SV.arr64 5 z]) (yb (by omega) ?hv ?hkk)) ?_
      case hkk=>show q.i=0+q.i;omega
      case hv=>
        show g64 (ovr x 0 _ q.i) q.i+g64 y q.i=g64 x q.i+g64 y q.i
        unfold g64
        rw [yt (by omega) _ (by omega)]
      repeat ((conv=>whnf);refine za ?_)
      exact trivial
     ·have e4:q.i=5:=by omega
      have hal:=zzy x y
      rw [e4,xu hx,show (List.range 5).map (fun i=>g64 x i+g64 y i)=zvw x y by unfold zvw;rfl]
      refine wk ?_
      exact ze (hp':= [.mk t0 [.arr64 5 r,.arr64 5 (zk3 (zvw x y) r)],.mk t [.arr8 m l]]) [0,1] h
   ·exact h.elim
end Go.Sym.A

namespace Go.Sym.A
open Go Go.Proofs.Try Go.Sym.Lp Go.Sym.Pol
set_option maxRecDepth 100000
attribute [local irreducible] ztp car zau zbb
def z8r:List (Nat×List PStep):= []
def z6i:List (Nat×List PStep):= [(8,[⟨0,[]⟩,⟨1,[]⟩,⟨2,[]⟩,⟨3,[]⟩,⟨4,[0,1,2,3]⟩,⟨5,[0,1,2,3]⟩,⟨6,[0,1,2,3]⟩,⟨7,[0,1,2,3]⟩,⟨8,[]⟩,⟨9,[]⟩,⟨10,[]⟩])]
def z9m:List (Nat×List PStep):= [(12,[⟨0,[]⟩,⟨1,[0]⟩,⟨2,[0,1]⟩,⟨3,[0,1]⟩,⟨4,[0,1]⟩,⟨5,[0]⟩,⟨6,[0]⟩,⟨7,[0,1,2,3,4,5,6]⟩,⟨8,[0,1,2,3,4,5,6,7]⟩,⟨9,[0,1,2,3,4,5,6,7]⟩,⟨10,[0,1,2,3,4,5,6]⟩,⟨11,[0,1,2,3,4,5,6]⟩,⟨12,[0]⟩,⟨13,[]⟩,⟨14,[]⟩])]
structure Ps (n:Nat) where
  t:Nat
  x:Nat
  k:Nat
  c:Nat
  hn:k+16*t=n∨(k=0∧t=(n+15)/ 16)
  hx:0<k→x=16*t
  hc:k≤c
def z4m:Spec:=fun args hp K=>match args,hp with
  | [.ptr 0 0 0 [],.sl 1 0 0 [] n c],[.mk t0 [.arr64 5 r,.arr64 5 x],.mk t [.arr8 m l]]=>Pre (r.length=5∧x.length=5∧n≤l.length∧n≤c) (K (.tup []) [.mk t0 [.arr64 5 r,.arr64 5 (zdt r x (l.take n))],.mk t [.arr8 m l]])
  |_,_=>False
theorem z4o:zp prog 77 z4m:=by
  refine zo xv (zd z4n zk) rfl func77 rfl call77 (D:=z8r) ?_ ?_
  ·intro args hp K h
   unfold z4m at h
   split at h
   ·exact Nat.le_of_ble_eq_true rfl
   ·exact h.elim
  ·intro args hp K h
   unfold z4m at h
   split at h
   ·rename_i n c t0 r x t m l
    obtain ⟨⟨hr,hx,hl,hc⟩,h⟩:=zl h
    have hB:(l.take n).length=n:=by rw [List.length_take];omega
    refine wk ?_
    refine zt (Option (Ps n)) (fun q=>match q with
      |none=>⟨[(0,.ptr 0 0 0 []),(1,.sl 1 0 0 [] n c)],[.mk t0 [.arr64 5 r,.arr64 5 x],.mk t [.arr8 m l]]⟩
      |some s=>⟨[(0,.ptr 0 0 0 []),(1,.sl 1 0 0 [(s.x,1)] s.k s.c)],[.mk t0 [.arr64 5 r,.arr64 5 (zjd r x (l.take n) s.t)],.mk t [.arr8 m l]]⟩)
      (fun q=>match q with|none=>n+1|some s=>s.k) none [0,1] ?_ ?_
    ·repeat ((conv=>whnf);refine za ?_)
     exact trivial
    ·intro q
     cases q with
     |none=>
      by_cases h4:0<n
      ·have hmn:(min (n:Int) 16).toNat=min n 16:=by omega
       have hD:16*0=0:=rfl
       have hxl:=ziw (r:=r) hx (l.take n) 0
       have hp4:r.length=5∧(zjd r x (l.take n) 0).length=5∧min n 16≤16∧off []+min n 16≤l.length:=⟨hr,hxl,by omega,by show 0+_≤_;omega⟩
       refine wk ?_
       rw [hmn]
       refine wk ?_
       rw [show (l.drop (off [])).take (min n 16)=((l.take n).drop (16*0)).take 16 by
        rw [z3j,show 16*0=0 by omega,show min 16 (n-0)=min n 16 by omega]
        rfl]
       refine ⟨some ⟨0+1,slO c (min n 16),n-min n 16,c-min n 16,by omega,fun h0=>by
         have hne:c≠min n 16:=by omega
         rw [xa hne];omega,by omega⟩,[0,1],by show n-min n 16<n+1;omega,?_⟩
       repeat ((conv=>whnf);refine za ?_)
       exact trivial
      ·have e4:n=0:=by omega
       refine wk ?_
       refine yl (hp':= [.mk t0 [.arr64 5 r,.arr64 5 (zdt r x (l.take n))],.mk t [.arr8 m l]]) [0,1] h ?_
       repeat ((conv=>whnf);refine za ?_)
       conv=>whnf
       refine zh (congrArg (fun y=>SV.agg [SV.arr64 5 r,SV.arr64 5 y]) (show zjd r x (l.take n) 0=zdt r x (l.take n) by unfold zdt;rw [hB];congr 1;omega)) ?_
       repeat ((conv=>whnf);refine za ?_)
       exact trivial
     |some s=>
      have hsn:=s.hn
      have hsx:=s.hx
      have hsc:=s.hc
      by_cases h4:0<s.k
      ·have hmn:(min (s.k:Int) 16).toNat=min s.k 16:=by omega
       have hX:=hsx h4
       have hxl:=ziw (r:=r) hx (l.take n) s.t
       have hp4:r.length=5∧(zjd r x (l.take n) s.t).length=5∧min s.k 16≤16∧off [(s.x,1)]+min s.k 16≤l.length:=⟨hr,hxl,by omega,by show s.x+_≤_;omega⟩
       refine wk ?_
       rw [hmn]
       refine wk ?_
       rw [show (l.drop (off [(s.x,1)])).take (min s.k 16)=((l.take n).drop (16*s.t)).take 16 by
        rw [z3j,show 16*s.t=s.x by omega,show min 16 (n-s.x)=min s.k 16 by omega]
        rfl]
       refine ⟨some ⟨s.t+1,s.x+slO s.c (min s.k 16),s.k-min s.k 16,s.c-min s.k 16,by omega,fun h0=>by
         have hne:s.c≠min s.k 16:=by omega
         rw [xa hne];omega,by omega⟩,[0,1],by show s.k-min s.k 16<s.k;omega,?_⟩
       repeat ((conv=>whnf);refine za ?_)
       exact trivial
      ·have e4:s.k=0:=by omega
       refine wk ?_
       refine yl (hp':= [.mk t0 [.arr64 5 r,.arr64 5 (zdt r x (l.take n))],.mk t [.arr8 m l]]) [0,1] h ?_
       repeat ((conv=>whnf);refine za ?_)
       conv=>whnf
       refine zh (congrArg (fun y=>SV.agg [SV.arr64 5 r,SV.arr64 5 y]) (show zjd r x (l.take n) s.t=zdt r x (l.take n) by unfold zdt;rw [hB];congr 1;omega)) ?_
       repeat ((conv=>whnf);refine za ?_)
       exact trivial
   ·exact h.elim
def zsa:Spec:=fun args hp K=>match args,hp with
  | [.arr64 5 x],[]=>Pre (x.length=5) (K (.arr64 5 (zau x)) [])
  |_,_=>False
theorem z1f:zp prog 105 zsa:=by
  refine zo xv (zd zuy zk) rfl func105 rfl call105 (D:=z6i) ?_ ?_
  ·intro args hp K h
   unfold zsa at h
   split at h
   ·exact Nat.le_of_ble_eq_true rfl
   ·exact h.elim
  ·intro args hp K h
   unfold zsa at h
   split at h
   ·rename_i x
    obtain ⟨hx,h⟩:=zl h
    obtain ⟨y,hy⟩: ∃y,y=car (car x):=⟨_,rfl⟩
    have hxl:(car x).length=5:=by rw [zb6];exact hx
    have hyl:y.length=5:=by rw [hy,zb6,zb6];exact hx
    have hw:zau x=if 0<(g64 (za0 y 4) 4>>>(26:UInt64)).toNat then (za0 y 4).set 4 (g64 (za0 y 4) 4&&&M26) else y:=by unfold zau;rw [←hy]
    rw [hw] at h
    refine wk ?_
    rw [←hy]
    refine wk ?_
    refine zt (Ix (4)) (fun q=>⟨[(0,.arr64 5 x),(1,.ptr 0 0 0 []),(2,.ptr 1 0 0 []),(3,.ptr 2 0 0 []),(12,.int q.i)],[.mk 153 [.arr64 5 y],.mk 153 [.arr64 5 [0,0,0,0,0]],.mk 153 [.arr64 5 (za0 y q.i)]]⟩) (fun q=>(4)-q.i) ⟨0,Nat.zero_le _⟩ [0,1,2] ?_ ?_
    ·repeat ((conv=>whnf);refine za ?_)
     exact trivial
    ·intro q
     have hi:=q.hi
     have hl:=zio y q.i
     have hI:((q.i:Int)+1).toNat=q.i+1:=by omega
     have hJ:((q.i:Int)).toNat=q.i:=Int.toNat_natCast _
     by_cases h4:q.i<4
     ·refine wk ?_
      refine ⟨⟨q.i+1,h4⟩,[0,1,2],by show (4)-(q.i+1)<(4)-q.i;omega,?_⟩
      repeat ((conv=>whnf);refine za ?_)
      exact trivial
     ·have e4:q.i=4:=by omega
      rw [e4] at hl
      rw [e4]
      by_cases h5:0<(g64 (za0 y 4) 4>>>(26:UInt64)).toNat
      ·rw [if_pos h5] at h
       have hd:decide (UInt64.ofNat 0<g64 (za0 y 4) 4>>>(26:UInt64))=true:=decide_eq_true (by rw [UInt64.lt_iff_toNat_lt];exact h5)
       repeat ((conv=>whnf);first|refine zn ?_|refine zf ?_|refine zg ?_|refine za ?_|refine zq (by first|exact hd) ?_|refine zi (by first|exact hd) ?_|refine zj (by first|exact hd) ?_)
       conv=>whnf
       exact ze (hp':= []) [] h
      ·rw [if_neg h5] at h
       have hd:decide (UInt64.ofNat 0<g64 (za0 y 4) 4>>>(26:UInt64))=false:=decide_eq_false (by rw [UInt64.lt_iff_toNat_lt];exact h5)
       repeat ((conv=>whnf);first|refine zn ?_|refine zf ?_|refine zg ?_|refine za ?_|refine zq (by first|exact hd) ?_|refine zi (by first|exact hd) ?_|refine zj (by first|exact hd) ?_)
       conv=>whnf
       exact ze (hp':= []) [] h
   ·exact h.elim
def zze:Spec:=fun args hp K=>match args,hp with
  | [.ptr 0 0 0 [],.str key],[.mk t0 [.arr64 5 r,.arr64 5 x]]=>Pre (x.length=5∧key.length=32) (K (.str (zh6 x key)) [.mk t0 [.arr64 5 r,.arr64 5 x]])
  |_,_=>False
theorem z4h:zp prog 80 zze:=by
  refine zo xv (zd z1f zk) rfl func80 rfl call80 (D:=z9m) ?_ ?_
  ·intro args hp K h
   unfold zze at h
   split at h
   ·exact Nat.le_of_ble_eq_true rfl
   ·exact h.elim
  ·intro args hp K h
   unfold zze at h
   split at h
   ·rename_i key t0 r x
    obtain ⟨⟨hx,hk⟩,h⟩:=zl h
    have hwl:=zwc hx
    refine wk ?_
    refine zt (Ix (16)) (fun q=>⟨[(0,.ptr 0 0 0 []),(1,.str key),(6,.u64 (zwv (zau x))),(7,.u64 (zmz (zau x))),(8,.sl 2 0 0 [] 16 16),(9,.u64 (zbb (zwv (zau x)) (zmz (zau x)) key q.i).2),(40,.int 16),(41,.int q.i)],[.mk t0 [.arr64 5 r,.arr64 5 x],.mk 153 [.arr64 5 (zau x)],.mk 5 [.arr8 16 (zbb (zwv (zau x)) (zmz (zau x)) key q.i).1]]⟩) (fun q=>(16)-q.i) ⟨0,Nat.zero_le _⟩ [0,1,2] ?_ ?_
    ·repeat ((conv=>whnf);refine za ?_)
     conv=>whnf
     refine zh (by show _=SV.agg [SV.arr8 16 (zbb _ _ _ 0).1];rw [zu7];rfl) ?_
     repeat ((conv=>whnf);refine za ?_)
     conv=>whnf
     refine zh (by show _=SV.u64 (zbb _ _ _ 0).2;rw [zu7];rfl) ?_
     repeat ((conv=>whnf);refine za ?_)
     exact trivial
    ·intro q
     have hi:=q.hi
     have hl:=zkx (zwv (zau x)) (zmz (zau x)) key q.i
     have hm8:(q.i:Int).tmod 8=((q.i%8:Nat):Int):=by rw [Int.tmod_eq_emod_of_nonneg (by omega)];omega
     have hk8:(8*(q.i:Int).tmod 8).toNat=8*(q.i%8):=by omega
     have hI:((16:Int)+(q.i:Int)).toNat=16+q.i:=by omega
     by_cases h4:q.i<16
     ·by_cases h5:8≤q.i
      ·refine wk ?_
       rw [hk8,hI]
       conv=>whnf
       refine ⟨⟨q.i+1,h4⟩,[0,1,2],by show (16)-(q.i+1)<(16)-q.i;omega,?_⟩
       repeat ((conv=>whnf);refine za ?_)
       conv=>whnf
       refine zh (by show _=SV.agg [SV.arr8 16 (zbb _ _ _ (q.i+1)).1];rw [z3p _ _ _ h5];rfl) ?_
       repeat ((conv=>whnf);refine za ?_)
       conv=>whnf
       refine zh (by show _=SV.u64 (zbb _ _ _ (q.i+1)).2;rw [z3p _ _ _ h5];rfl) ?_
       repeat ((conv=>whnf);refine za ?_)
       exact trivial
      ·refine wk ?_
       rw [hk8,hI]
       conv=>whnf
       refine ⟨⟨q.i+1,h4⟩,[0,1,2],by show (16)-(q.i+1)<(16)-q.i;omega,?_⟩
       repeat ((conv=>whnf);refine za ?_)
       conv=>whnf
       refine zh (by show _=SV.agg [SV.arr8 16 (zbb _ _ _ (q.i+1)).1];rw [z3h _ _ _ h5];rfl) ?_
       repeat ((conv=>whnf);refine za ?_)
       conv=>whnf
       refine zh (by show _=SV.u64 (zbb _ _ _ (q.i+1)).2;rw [z3h _ _ _ h5];rfl) ?_
       repeat ((conv=>whnf);refine za ?_)
       exact trivial
     ·have e4:q.i=16:=by omega
      rw [e4] at hl
      have hT:List.take 16 (List.drop (off []) (zbb (zwv (zau x)) (zmz (zau x)) key 16).1)=zh6 x key:=by unfold zh6;exact List.take_of_length_le (Nat.le_of_eq hl)
      rw [e4]
      refine wk ?_
      rw [hT]
      conv=>whnf
      exact ze (hp':= [.mk t0 [.arr64 5 r,.arr64 5 x]]) [0] h
   ·exact h.elim
end Go.Sym.A

namespace Go.Sym.A
open Go Go.Proofs.Try Go.Sym.Lp Go.Sym.Pol Go.Sym.Cha
set_option maxRecDepth 100000
attribute [local irreducible] ztp car zau zbb zfn zdt blk
def z8e:List (Nat×List PStep):= []
def z8c:List (Nat×List PStep):= []
def z9o:List (Nat×List PStep):= [(2,[⟨0,[]⟩,⟨1,[]⟩,⟨2,[]⟩,⟨3,[0,1,2]⟩,⟨4,[0,1,2]⟩,⟨5,[0,1,2]⟩,⟨6,[0,1,2,3,4,5]⟩,⟨7,[0,1,2,3,4,5]⟩,⟨8,[0,1,2,3,4,5]⟩,⟨9,[0,1,2,3,4,5,6,7,8]⟩,⟨10,[0,1,2,3,4,5,6,7,8]⟩,⟨11,[0,1,2,3,4,5,6,7,8]⟩,⟨12,[]⟩,⟨13,[]⟩,⟨14,[]⟩])]
def z3l:List (Nat×List PStep):= []
def zn5:Spec:=fun args hp K=>match args,hp with
  | [.str key],[]=>Pre (16≤key.length) (K (.ptr 0 0 0 []) [.mk 156 [.arr64 5 (rOf key),.arr64 5 [0,0,0,0,0]]])
  |_,_=>False
theorem zz6:zp prog 76 zn5:=by
  refine zo xv (zd z0q zk) rfl func76 rfl call76 (D:=z8e) ?_ ?_
  ·intro args hp K h
   unfold zn5 at h
   split at h
   ·exact Nat.le_of_ble_eq_true rfl
   ·exact h.elim
  ·intro args hp K h
   unfold zn5 at h
   split at h
   ·rename_i key
    obtain ⟨hk,h⟩:=zl h
    obtain ⟨b,hb⟩: ∃b,b=key.take (Int.toNat 16):=⟨_,rfl⟩
    have hbl:b.length=16:=by rw [hb,List.length_take];show min 16 _=16;omega
    refine wk ?_
    refine yq fun tl=>?_
    refine wk ?_
    rw [←hb]
    refine zt (Ix (4)) (fun q=>⟨[(0,.str key),(3,.sl 0 0 0 [] b.length (b.length+tl.length)),(4,.int (3+4*(q.i:Int)))],[.mk 5 [.arr8 (b.length+tl.length) (cA b q.i++tl)]]⟩) (fun q=>(4)-q.i) ⟨0,Nat.zero_le _⟩ [0] ?_ ?_
    ·repeat ((conv=>whnf);refine za ?_)
     exact trivial
    ·intro q
     have hi:=q.hi
     have hl:=zxt b q.i
     have hI:((3:Int)+4*(q.i:Int)).toNat=3+4*q.i:=by omega
     by_cases h4:q.i<4
     ·refine wk ?_
      refine ⟨⟨q.i+1,h4⟩,[0],by show (4)-(q.i+1)<(4)-q.i;omega,?_⟩
      repeat ((conv=>whnf);refine za ?_)
      conv=>whnf
      refine zh (congrArg (fun x=>SV.agg [SV.arr8 (b.length+tl.length) x]) ?hv) ?_
      case hv=>
        show (cA b q.i++tl).set ((3:Int)+4*(q.i:Int)).toNat ((cA b q.i++tl).getD ((3:Int)+4*(q.i:Int)).toNat 0&&&UInt8.ofNat 15)=cA b (q.i+1)++tl
        rw [hI,zna (by omega)]
        simp only [cA]
      repeat ((conv=>whnf);refine za ?_)
      exact trivial
     ·have e4:q.i=4:=by omega
      rw [e4] at hl
      rw [e4]
      refine wk ?_
      refine zt (Ix (3)) (fun r=>⟨[(0,.str key),(3,.sl 0 0 0 [] b.length (b.length+tl.length)),(5,.int (4+4*(r.i:Int)))],[.mk 5 [.arr8 (b.length+tl.length) (cC (cA b 4) r.i++tl)]]⟩) (fun r=>(3)-r.i) ⟨0,Nat.zero_le _⟩ [0] ?_ ?_
      ·repeat ((conv=>whnf);refine za ?_)
       exact trivial
      ·intro r
       have hri:=r.hi
       have hlr:=zx6 (cA b 4) r.i
       by_cases h5:r.i<3
       ·have hI:((4:Int)+4*(r.i:Int)).toNat=4+4*r.i:=by omega
        refine wk ?_
        refine ⟨⟨r.i+1,h5⟩,[0],by show (3)-(r.i+1)<(3)-r.i;omega,?_⟩
        repeat ((conv=>whnf);refine za ?_)
        conv=>whnf
        refine zh (congrArg (fun x=>SV.agg [SV.arr8 (b.length+tl.length) x]) ?hv) ?_
        case hv=>
          show (cC (cA b 4) r.i++tl).set ((4:Int)+4*(r.i:Int)).toNat ((cC (cA b 4) r.i++tl).getD ((4:Int)+4*(r.i:Int)).toNat 0&&&UInt8.ofNat 252)=cC (cA b 4) (r.i+1)++tl
          rw [hI,zna (by omega)]
          simp only [cC]
        repeat ((conv=>whnf);refine za ?_)
        exact trivial
       ·have e5:r.i=3:=by omega
        rw [e5] at hlr
        have hP:16≤16∧0+16≤(cC (cA b 4) 3++tl).length:=⟨by omega,by rw [List.length_append];omega⟩
        have hT:List.take b.length (List.drop (off []) (cC (cA b 4) 3++tl))=cC (cA b 4) 3:=by
          show List.take b.length (cC (cA b 4) 3++tl)=_
          exact List.take_left' (by omega)
        have hrO:(zfn (cC (cA b 4) 3)).set 4 (g64 (zfn (cC (cA b 4) 3)) 4&&&UInt64.ofNat 16777215)=rOf key:=by rw [hb];rfl
        have hll:=zie (cC (cA b 4) 3)
        rw [e5]
        refine wk ?_
        rw [hT]
        refine wk ?_
        refine yl (hp':= [.mk 156 [.arr64 5 (rOf key),.arr64 5 [0,0,0,0,0]]]) [2] h ?_
        repeat ((conv=>whnf);refine za ?_)
        conv=>whnf
        refine zh (congrArg (fun y=>SV.agg [SV.arr64 5 y,SV.arr64 5 [0,0,0,0,0]]) hrO) ?_
        repeat ((conv=>whnf);refine za ?_)
        exact trivial
   ·exact h.elim
def zxs:Spec:=fun args hp K=>match args,hp with
  | [.int n],[]=>Pre (0≤n) (K (.str (zeh n.toNat)) [])
  |_,_=>False
theorem z34:zp prog 78 zxs:=by
  refine zo xv zk rfl func78 rfl call78 (D:=z8c) ?_ ?_
  ·intro args hp K h
   unfold zxs at h
   split at h
   ·exact Nat.le_of_ble_eq_true rfl
   ·exact h.elim
  ·intro args hp K h
   unfold zxs at h
   split at h
   ·rename_i n
    obtain ⟨hn,h⟩:=zl h
    have hm:n.tmod 16=((n.toNat%16:Nat):Int):=by rw [Int.tmod_eq_emod_of_nonneg hn];omega
    have hm2:((16:Int)-n.tmod 16).tmod 16=(((16-n.toNat%16)%16:Nat):Int):=by rw [hm,Int.tmod_eq_emod_of_nonneg (by omega)];omega
    refine wk ?_
    rw [hm2,Int.toNat_natCast]
    conv=>whnf
    refine yl (hp':= []) [] h ?_
    repeat ((conv=>whnf);refine za ?_)
    conv=>whnf
    refine zh (congrArg SV.str (by unfold zeh;show List.take _ (List.drop 0 (List.replicate _ 0))=_;rw [List.drop_zero];exact List.take_of_length_le (by rw [List.length_replicate];exact Nat.le_refl _))) ?_
    repeat ((conv=>whnf);refine za ?_)
    exact trivial
   ·exact h.elim
theorem zhw (v:UInt8):List.take 1 (List.drop (off []) ((List.replicate 1 0).set (off [(0,ty5.sz)]) v))= [v]:=rfl
def zp1:Spec:=fun args hp K=>match args,hp with
  | [.int x,.int k],[]=>Pre (k=4∨k=2) (K (.str (if k=4 then [UInt8.ofInt (x/ 2^24),UInt8.ofInt (x/ 2^16),UInt8.ofInt (x/ 2^8),UInt8.ofInt x] else [UInt8.ofInt (x/ 2^8),UInt8.ofInt x])) [])
  |_,_=>False
theorem zme:zp prog 104 zp1:=by
  refine zo xv zk rfl func104 rfl call104 (D:=z3l) ?_ ?_
  ·intro args hp K h
   unfold zp1 at h
   split at h
   ·exact Nat.le_of_ble_eq_true rfl
   ·exact h.elim
  ·intro args hp K h
   unfold zp1 at h
   split at h
   ·rename_i x k
    obtain ⟨hk,h⟩:=zl h
    rcases hk with rfl|rfl
    ·rw [if_pos rfl] at h
     refine wk ?_
     refine yq fun t1=>?_
     rw [zhw]
     refine wk ?_
     rw [zhw]
     refine zq ⟨by simp,by simp<;>omega,by simp<;>omega⟩ ?_
     refine wk ?_
     refine yq fun t2=>?_
     refine wk ?_
     rw [zhw]
     refine yq fun t3=>?_
     refine wk ?_
     rw [zhw]
     refine yq fun t4=>?_
     refine wk ?_
     exact ze (hp':= []) [] h
    ·rw [if_neg (by decide)] at h
     refine wk ?_
     refine yq fun t1=>?_
     rw [zhw]
     refine wk ?_
     rw [zhw]
     refine zq ⟨by simp,by simp<;>omega,by simp<;>omega⟩ ?_
     refine wk ?_
     refine yq fun t2=>?_
     refine wk ?_
     exact ze (hp':= []) [] h
   ·exact h.elim
def zpy:Spec:=fun args hp K=>match args,hp with
  | [.int n],[]=>Pre (0≤n) (K (.str (zij n.toNat)) [])
  |_,_=>False
theorem zxi:zp prog 79 zpy:=by
  refine zo xv (zd zme zk) rfl func79 rfl call79 (D:=z9o) ?_ ?_
  ·intro args hp K h
   unfold zpy at h
   split at h
   ·exact Nat.le_of_ble_eq_true rfl
   ·exact h.elim
  ·intro args hp K h
   unfold zpy at h
   split at h
   ·rename_i n
    obtain ⟨hn,h⟩:=zl h
    obtain ⟨k,rfl⟩:=Int.eq_ofNat_of_zero_le hn
    rw [Int.toNat_natCast] at h
    refine wk ?_
    refine yq fun tl=>?_
    rw [if_pos rfl]
    refine wk ?_
    exact ze (hp':= []) [] h
   ·exact h.elim
end Go.Sym.A

namespace Go.Sym.A
open Go Go.Proofs.Try Go.Sym.Lp Go.Sym.Pol Go.Sym.Cha
set_option maxRecDepth 100000
attribute [local irreducible] zdt blk zh6 rOf zeh zij xo
def z8h:List (Nat×List PStep):= []
def z8m:List (Nat×List PStep):= [(6,[⟨0,[]⟩,⟨1,[0]⟩,⟨2,[0,1]⟩,⟨3,[0,1]⟩,⟨4,[0,1,2,3]⟩,⟨5,[0,1,2,3]⟩,⟨6,[0,1,2,3]⟩,⟨7,[0,1]⟩,⟨8,[0]⟩,⟨9,[0]⟩,⟨10,[0,1,2,3,4,5,6,7,8,9]⟩,⟨11,[0,1,2,3,4,5,6,7,8,9]⟩,⟨14,[0,1,2,3,4,5,6,7,8,9,10,11]⟩,⟨15,[0,1,2,3,4,5,6,7,8,9,10,11]⟩,⟨18,[0,1,2,3,4,5,6,7,8,9,10,11,14,15]⟩,⟨19,[0,1,2,3,4,5,6,7,8,9,10,11,14,15]⟩,⟨12,[0,1,2,3,4,5,6,7,8,9,14,15,18,19]⟩,⟨13,[0,14,15,18,19]⟩,⟨16,[0,1,2,3,4,5,6,7,8,9,18,19,13]⟩,⟨17,[0,18,19]⟩,⟨20,[0,1,2,3,4,5,6,7,8,9,13,17]⟩,⟨21,[0]⟩,⟨22,[0]⟩,⟨23,[]⟩])]
def z8p:List (Nat×List PStep):= [(5,[⟨0,[]⟩,⟨1,[0]⟩,⟨2,[0,1]⟩,⟨3,[0,1,2]⟩,⟨5,[0,1,2,3]⟩,⟨6,[0,1,2,3,5]⟩,⟨7,[0,1,2,3]⟩,⟨4,[5,6,7]⟩,⟨8,[]⟩])]
def yr (key nonce aad b:List UInt8):List UInt8:=
  zh6 (zw5 (rOf ((blk key nonce 0).take 32)) aad b) ((blk key nonce 0).take 32)
def zj5:Spec:=fun args hp K=>match args,hp with
  | [.str key,.str nonce,.str aad,.sl 0 0 0 [] n c],[.mk t [.arr8 m l]]=>Pre (key.length=32∧nonce.length=12∧aad.length≤65536∧n≤65536∧n≤l.length∧n≤c)
      (K (.str (yr key nonce aad (l.take n))) [.mk t [.arr8 m l]])
  |_,_=>False
theorem zzb:zp prog 51 zj5:=by
  refine zo xv (zd zse (zd zz6 (zd z4o (zd z34 (zd zxi (zd z4h zk)))))) rfl func51 rfl call51 (D:=z8m) ?_ ?_
  ·intro args hp K h
   unfold zj5 at h
   split at h
   ·exact Nat.le_of_ble_eq_true rfl
   ·exact h.elim
  ·intro args hp K h
   unfold zj5 at h
   split at h
   ·rename_i key nonce aad n c t m l
    obtain ⟨⟨hk,hn,ha,hn2,hl,hc⟩,h⟩:=zl h
    have hkn:key.length=32∧(0≤(0:Int)∧(0:Int)≤4294967295)∧nonce.length=12:=⟨hk,by decide,hn⟩
    have hbl:=zjo key nonce (UInt32.ofInt 0)
    obtain ⟨own,ho⟩: ∃own,own=(blk key nonce (UInt32.ofInt 0)).take (Int.toNat 32):=⟨_,rfl⟩
    have hol:own.length=32:=by rw [ho,List.length_take,hbl];rfl
    have hB:(l.take n).length=n:=by rw [List.length_take];omega
    have hG:yr key nonce aad (l.take n)=zh6 (zw5 (rOf own) aad (l.take n)) own:=by rw [ho];unfold yr;rfl
    rw [hG] at h
    have hrl:=z2p own
    have hm:(n:Int).tmod 16=((n%16:Nat):Int):=by rw [Int.tmod_eq_emod_of_nonneg (by omega)];omega
    have hA:((aad.length:Int)).toNat=aad.length:=Int.toNat_natCast _
    have hN:((n:Int)).toNat=n:=Int.toNat_natCast _
    have hfa:=zib aad.length
    have hfn:=zib n
    have h8a:=zho aad.length
    have h8n:=zho n
    refine wk ?_
    rw [←ho,hA]
    clear hbl
    unfold zw5 at h
    rw [hB] at h
    obtain ⟨rest,hrest⟩: ∃rest,rest=(l.take n).drop (n-n%16):=⟨_,rfl⟩
    have ht2:(l.take n).take (n-n%16)=l.take (n-n%16):=by rw [List.take_take,Nat.min_eq_left (by omega)]
    rw [←hrest,ht2] at h
    generalize hbe:blk key nonce (UInt32.ofInt 0)=BB at*
    clear hG
    generalize rOf own=r at*
    generalize zeh aad.length=fa at*
    obtain ⟨s1,hs1⟩: ∃s1,s1=aad++fa:=⟨_,rfl⟩
    have hs1l:s1.length≤65600:=by rw [hs1,List.length_append,hfa];omega
    have z5:([0,0,0,0,0]:List UInt64).length=5:=rfl
    refine zq (by rw [hfa];omega) ?_
    rw [←hs1]
    refine wk ?_
    refine yq fun t1=>?_
    have e1:List.take s1.length (s1++t1)=s1:=List.take_left' rfl
    have hk2:((n:Int)-(n:Int).tmod 16).toNat=n-n%16:=by omega
    have hsl:=z5h c ((n:Int)-(n:Int).tmod 16).toNat
    have hx1:=zkc (r:=r) z5 (List.take s1.length (s1++t1))
    have hx2:=zkc (r:=r) hx1 (List.take ((n:Int)-(n:Int).tmod 16).toNat l)
    have hp1:r.length=5∧([0,0,0,0,0]:List UInt64).length=5∧s1.length≤(s1++t1).length∧s1.length≤s1.length+t1.length:=⟨hrl,rfl,by rw [List.length_append];omega,by omega⟩
    have hp2:r.length=5∧(zdt r [0,0,0,0,0] (List.take s1.length (s1++t1))).length=5∧((n:Int)-(n:Int).tmod 16).toNat≤l.length∧((n:Int)-(n:Int).tmod 16).toNat≤c:=⟨hrl,hx1,by omega,by omega⟩
    have hp3:off (yc [] (slO c ((n:Int)-(n:Int).tmod 16).toNat) ty5.sz)+(n-((n:Int)-(n:Int).tmod 16).toNat)≤l.length:=by
      show slO c ((n:Int)-(n:Int).tmod 16).toNat+_≤_;omega
    have hrl3:(List.take (n-((n:Int)-(n:Int).tmod 16).toNat) (List.drop (off (yc [] (slO c ((n:Int)-(n:Int).tmod 16).toNat) ty5.sz)) l)).length≤16:=by
      rw [List.length_take];omega
    have hf1:(zeh ((n:Int)).toNat).length≤16:=by rw [zib];omega
    have h81:(zij ((aad.length:Int)).toNat).length=8:=zho _
    have h82:(zij ((n:Int)).toNat).length=8:=zho _
    have hn0:0≤(n:Int):=by omega
    have ha0:0≤(aad.length:Int):=by omega
    have hRR:List.take (n-((n:Int)-(n:Int).tmod 16).toNat) (List.drop (off (yc [] (slO c ((n:Int)-(n:Int).tmod 16).toNat) ty5.sz)) l)=rest:=by
      rw [hk2,hrest,List.drop_take]
      show List.take _ (List.drop (slO c (n-n%16)) l)=_
      by_cases hc2:c=n-n%16
      ·rw [show n-(n-n%16)=0 by omega,List.take_zero,List.take_zero]
      ·rw [xa hc2]
    refine wk ?_
    refine yq fun t2=>?_
    refine wk ?_
    refine zq ⟨zkc hx2 _,hol⟩ ?_
    refine wk ?_
    have hS:List.take s1.length (s1++t1)=aad++fa:=by rw [e1,hs1]
    have hfin:zh6 (zdt r (zdt r (zdt r [0,0,0,0,0] (List.take s1.length (s1++t1))) (List.take ((n:Int)-(n:Int).tmod 16).toNat l)) (List.take (List.take (n-((n:Int)-(n:Int).tmod 16).toNat) (List.drop (off (yc [] (slO c ((n:Int)-(n:Int).tmod 16).toNat) ty5.sz)) l)++zeh ((n:Int)).toNat++zij ((aad.length:Int)).toNat++zij ((n:Int)).toNat).length ((List.take (n-((n:Int)-(n:Int).tmod 16).toNat) (List.drop (off (yc [] (slO c ((n:Int)-(n:Int).tmod 16).toNat) ty5.sz)) l)++zeh ((n:Int)).toNat++zij ((aad.length:Int)).toNat++zij ((n:Int)).toNat)++t2))) own=zh6 (zdt r (zdt r (zdt r [0,0,0,0,0] (aad++fa)) (l.take (n-n%16))) (rest++zeh n++zij aad.length++zij n)) own:=by
      rw [List.take_left' (l₂:=t2) rfl,hRR,hS,hk2,hA,hN]
    conv=>whnf
    refine yl (hp':= [.mk t [.arr8 m l]]) [0] h ?_
    repeat ((conv=>whnf);refine za ?_)
    conv=>whnf
    refine zh (congrArg SV.str hfin) ?_
    repeat ((conv=>whnf);refine za ?_)
    exact trivial
   ·exact h.elim
def zwx:Spec:=fun args hp K=>match args,hp with
  | [.str key,.str nonce,.str aad,.int most,.int long],[]=>K (.bool (decide (key.length=32∧nonce.length=12∧aad.length≤65536∧long≤most))) []
  |_,_=>False
theorem z4j:zp prog 49 zwx:=by
  refine zo xv zk rfl func49 rfl call49 (D:=z8h) ?_ ?_
  ·intro args hp K h
   unfold zwx at h
   split at h
   ·exact Nat.le_of_ble_eq_true rfl
   ·exact h.elim
  ·intro args hp K h
   unfold zwx at h
   split at h
   ·rename_i key nonce aad most long
    by_cases h1:key.length=32
    ·by_cases h2:nonce.length=12
     ·by_cases h3:aad.length≤65536
      ·by_cases h4:long≤most
       ·rw [decide_eq_true ⟨h1,h2,h3,h4⟩] at h
        have d4:decide (long≤most)=true:=decide_eq_true h4
        refine wk ?_
        rw [d4]
        conv=>whnf
        exact ze (hp':= []) [] h
       ·rw [decide_eq_false fun hh=>h4 hh.2.2.2] at h
        have d4:decide (long≤most)=false:=decide_eq_false h4
        refine wk ?_
        rw [d4]
        conv=>whnf
        exact ze (hp':= []) [] h
      ·rw [decide_eq_false fun hh=>h3 hh.2.2.1] at h
       refine wk ?_
       exact ze (hp':= []) [] h
     ·rw [decide_eq_false fun hh=>h2 hh.2.1] at h
      refine wk ?_
      exact ze (hp':= []) [] h
    ·rw [decide_eq_false fun hh=>h1 hh.1] at h
     refine wk ?_
     exact ze (hp':= []) [] h
   ·exact h.elim
end Go.Sym.A

namespace Go.Sym.A
open Go Go.Proofs.Try Go.Sym.Lp Go.Sym.Pol Go.Sym.Cha
set_option maxRecDepth 100000
attribute [local irreducible] yr xo blk
def zbr (key nonce aad s:List UInt8):List UInt8:=
  xo key nonce 1 s++yr key nonce aad (xo key nonce 1 s)
theorem zqp (key nonce aad b:List UInt8):(yr key nonce aad b).length=16:=by
  unfold yr
  exact zvx _ _
def zdg:Spec:=fun args hp K=>match args,hp with
  | [.str key,.str nonce,.str aad,.str s],[]=>Pre (s.length<9223372036854775808) <|
      if (key.length=32∧nonce.length=12∧aad.length≤65536∧(s.length:Int)-16≤65536)∧16≤s.length∧yr key nonce aad (s.take (s.length-16))=s.drop (s.length-16) then
       K (.tup [.str (xo key nonce 1 (s.take (s.length-16))),.int 0]) []
      else K (.tup [.str [],.int 700]) []
  |_,_=>False
theorem zry:zp prog 23 zdg:=by
  refine zo xv (zd z4j (zd zur (zd zzb zk))) rfl func23 rfl call23 (D:=z8p) ?_ ?_
  ·intro args hp K h
   unfold zdg at h
   split at h
   ·exact Nat.le_of_ble_eq_true rfl
   ·exact h.elim
  ·intro args hp K h
   unfold zdg at h
   split at h
   ·rename_i key nonce aad s
    obtain ⟨hs63,h⟩:=zl h
    by_cases h0:key.length=32∧nonce.length=12∧aad.length≤65536∧(s.length:Int)-16≤65536
    ·have hd:=decide_eq_true h0
     by_cases h1:16≤s.length
     ·have hn:((s.length:Int)-16).toNat=s.length-16:=by omega
      have d1:decide ((s.length:Int)-16<0)=false:=decide_eq_false (by omega)
      obtain ⟨B,hB⟩: ∃B,B=s.take (s.length-16):=⟨_,rfl⟩
      have hBl:B.length=s.length-16:=by rw [hB,List.length_take];omega
      rw [←hB] at h
      repeat ((conv=>whnf);first|refine zn ?_|refine zf ?_|refine zg ?_|refine za ?_|refine zq (by first|exact hd|(rw [hd];rfl)) ?_|refine zi (by first|exact hd|(rw [hd];rfl)) ?_|refine zj (by first|exact hd|(rw [hd];rfl)) ?_)
      conv=>whnf
      refine yq fun t1=>?_
      have hT:(List.take ((s.length:Int)-16).toNat s)=B:=by rw [hB,hn]
      have hTl:(List.take ((s.length:Int)-16).toNat s).length=s.length-16:=by rw [hT,hBl]
      have hp1:key.length=32∧nonce.length=12∧aad.length≤65536∧(List.take ((s.length:Int)-16).toNat s).length≤65536∧(List.take ((s.length:Int)-16).toNat s).length≤((List.take ((s.length:Int)-16).toNat s)++t1).length∧(List.take ((s.length:Int)-16).toNat s).length≤(List.take ((s.length:Int)-16).toNat s).length+t1.length:=⟨h0.1,h0.2.1,h0.2.2.1,by omega,by rw [List.length_append];omega,by omega⟩
      have hp2:key.length=32∧nonce.length=12∧(List.take ((s.length:Int)-16).toNat s).length≤((List.take ((s.length:Int)-16).toNat s)++t1).length∧(List.take ((s.length:Int)-16).toNat s).length≤(List.take ((s.length:Int)-16).toNat s).length+t1.length∧(List.take ((s.length:Int)-16).toNat s).length≤9223372036854775807:=⟨h0.1,h0.2.1,by rw [List.length_append];omega,by omega,by omega⟩
      refine wk ?_
      have hTk:List.take (List.take ((s.length:Int)-16).toNat s).length ((List.take ((s.length:Int)-16).toNat s)++t1)=B:=by rw [List.take_left' rfl];exact hT
      by_cases hq:yr key nonce aad B=s.drop (s.length-16)
      ·rw [if_pos ⟨h0,h1,hq⟩] at h
       have hdq:decide (yr key nonce aad (List.take (List.take ((s.length:Int)-16).toNat s).length ((List.take ((s.length:Int)-16).toNat s)++t1))=List.drop ((s.length:Int)-16).toNat s)=true:=decide_eq_true (by rw [hTk,hn];exact hq)
       repeat ((conv=>whnf);first|refine zn ?_|refine zf ?_|refine zg ?_|refine za ?_|refine zq (by first|exact hdq|(rw [hdq];rfl)) ?_|refine zi (by first|exact hdq|(rw [hdq];rfl)) ?_|refine zj (by first|exact hdq|(rw [hdq];rfl)) ?_)
       conv=>whnf
       have hX:(xo key nonce (UInt32.ofInt 1) (List.take (List.take ((s.length:Int)-16).toNat s).length ((List.take ((s.length:Int)-16).toNat s)++t1))++List.drop (List.take ((s.length:Int)-16).toNat s).length ((List.take ((s.length:Int)-16).toNat s)++t1))=xo key nonce 1 B++t1:=by rw [hTk,List.drop_left' rfl];rfl
       have hp3:off []+(List.take ((s.length:Int)-16).toNat s).length≤(xo key nonce (UInt32.ofInt 1) (List.take (List.take ((s.length:Int)-16).toNat s).length ((List.take ((s.length:Int)-16).toNat s)++t1))++List.drop (List.take ((s.length:Int)-16).toNat s).length ((List.take ((s.length:Int)-16).toNat s)++t1)).length:=by rw [hX,List.length_append,zhl,hBl,hTl];show 0+_≤_;omega
       have hF:List.take (List.take ((s.length:Int)-16).toNat s).length (List.drop (off []) (xo key nonce (UInt32.ofInt 1) (List.take (List.take ((s.length:Int)-16).toNat s).length ((List.take ((s.length:Int)-16).toNat s)++t1))++List.drop (List.take ((s.length:Int)-16).toNat s).length ((List.take ((s.length:Int)-16).toNat s)++t1)))=xo key nonce 1 B:=by
         rw [hX,hTl];show List.take _ (List.drop 0 _)=_;rw [List.drop_zero];exact List.take_left' (by rw [zhl,hBl])
       refine wk ?_
       conv=>whnf
       refine yl (hp':= []) [] h ?_
       repeat ((conv=>whnf);refine za ?_)
       conv=>whnf
       refine zh (congrArg (fun y=>SV.tup [SV.str y,SV.int 0]) hF) ?_
       repeat ((conv=>whnf);refine za ?_)
       exact trivial
      ·rw [if_neg fun hh=>hq hh.2.2] at h
       have hdq:decide (yr key nonce aad (List.take (List.take ((s.length:Int)-16).toNat s).length ((List.take ((s.length:Int)-16).toNat s)++t1))=List.drop ((s.length:Int)-16).toNat s)=false:=decide_eq_false (by rw [hTk,hn];exact hq)
       repeat ((conv=>whnf);first|refine zn ?_|refine zf ?_|refine zg ?_|refine za ?_|refine zq (by first|exact hdq|(rw [hdq];rfl)) ?_|refine zi (by first|exact hdq|(rw [hdq];rfl)) ?_|refine zj (by first|exact hdq|(rw [hdq];rfl)) ?_)
       conv=>whnf
       exact ze (hp':= []) [] h
     ·rw [if_neg fun hh=>h1 hh.2.1] at h
      repeat ((conv=>whnf);first|refine zn ?_|refine zf ?_|refine zg ?_|refine za ?_|refine zq (by first|exact hd|(rw [hd];rfl)) ?_|refine zi (by first|exact hd|(rw [hd];rfl)) ?_|refine zj (by first|exact hd|(rw [hd];rfl)) ?_)
      conv=>whnf
      exact ze (hp':= []) [] h
    ·rw [if_neg fun hh=>h0 hh.1] at h
     have hd:=decide_eq_false h0
     repeat ((conv=>whnf);first|refine zn ?_|refine zf ?_|refine zg ?_|refine za ?_|refine zq (by first|exact hd|(rw [hd];rfl)) ?_|refine zi (by first|exact hd|(rw [hd];rfl)) ?_|refine zj (by first|exact hd|(rw [hd];rfl)) ?_)
     conv=>whnf
     exact ze (hp':= []) [] h
   ·exact h.elim
end Go.Sym.A

namespace Go.Sym.A
open Go Go.Proofs.Try Go.Sym.Lp Go.Sym.Gcm Go.Sym.Aes Go.Sym.Pol Go.Sym.Cha
set_option maxRecDepth 100000
def z77:List (Nat×List PStep):= []
def z8d:List (Nat×List PStep):= []
def z9h:List (Nat×List PStep):= []
def z7z:List (Nat×List PStep):= []
attribute [local irreducible] zbr yr zjg zgg zfu xo
def zf9 (w:Int) (n:Nat):Prop:=w=4865∧n=16∨w=4866∧n=32∨w=4867∧n=32
instance (w:Int) (n:Nat):Decidable (zf9 w n):=by unfold zf9;exact inferInstance
def xl (w:Int) (key nonce aad s:List UInt8):List UInt8:=if w=4867 then zbr key nonce aad s else zjg key nonce aad s
def zap (w:Int) (key nonce aad s:List UInt8):List UInt8:=if w=4867 then yr key nonce aad s else zgg key nonce aad s
def yv (w:Int) (key nonce s:List UInt8):List UInt8:=if w=4867 then xo key nonce 1 s else zfu key nonce s
theorem xc (w:Int) (key nonce s:List UInt8):(yv w key nonce s).length=s.length:=by
  unfold yv;split
  ·exact zhl _ _ _ _
  ·exact zlq _ _ _
theorem zaz (w:Int) (key nonce aad s:List UInt8):(zap w key nonce aad s).length=16:=by
  unfold zap;split
  ·exact zqp _ _ _ _
  ·exact z0n _ _ _ _
theorem zav (w:Int) (key nonce aad s:List UInt8):xl w key nonce aad s=yv w key nonce s++zap w key nonce aad (yv w key nonce s):=by
  unfold xl yv zap
  split
  ·unfold zbr;rfl
  ·unfold zjg;rfl
def zs6:Spec:=fun args hp K=>match args,hp with
  | [.int w],[]=>zr (decide (w=4865)) (K (.tup [.int 16,.int 256,.int 0]) []) (zr (decide (w=4866)) (K (.tup [.int 32,.int 384,.int 0]) []) (zr (decide (w=4867)) (K (.tup [.int 32,.int 256,.int 0]) []) (K (.tup [.int 0,.int 0,.int 800]) [])))
  |_,_=>False
theorem zoc:zp prog 11 zs6:=by
  refine zo xk zk rfl func11 rfl call11 (D:=z77) ?_ ?_
  ·intro args hp K h
   unfold zs6 at h
   split at h
   ·exact Nat.le_of_ble_eq_true rfl
   ·exact h.elim
  ·intro args hp K h
   unfold zs6 at h
   split at h
   ·rename_i w
    obtain ⟨ht,hn⟩:=zu h
    by_cases h1:w=4865
    ·have h:=ht (decide_eq_true h1)
     refine wk ?_
     exact ze (hp':= []) [] h
    ·have h:=hn (decide_eq_false h1)
     obtain ⟨ht,hn⟩:=zu h
     by_cases h2:w=4866
     ·have h:=ht (decide_eq_true h2)
      refine wk ?_
      exact ze (hp':= []) [] h
     ·have h:=hn (decide_eq_false h2)
      obtain ⟨ht,hn⟩:=zu h
      by_cases h3:w=4867
      ·have h:=ht (decide_eq_true h3)
       refine wk ?_
       exact ze (hp':= []) [] h
      ·have h:=hn (decide_eq_false h3)
       refine wk ?_
       exact ze (hp':= []) [] h
   ·exact h.elim
def zt2:Spec:=fun args hp K=>match args,hp with
  | [.int e],[]=>K (.int e) []
  |_,_=>False
theorem zxd:zp prog 17 zt2:=by
  refine zo xk zk rfl func17 rfl call17 (D:=z7z) ?_ ?_
  ·intro args hp K h
   unfold zt2 at h
   split at h
   ·exact Nat.le_of_ble_eq_true rfl
   ·exact h.elim
  ·intro args hp K h
   unfold zt2 at h
   split at h
   ·rename_i e
    refine wk ?_
    exact ze (hp':= []) [] h
   ·exact h.elim
def zyz:Spec:=fun args hp K=>match args,hp with
  | [.int w,.str key,.str nonce,.str aad,.int long],[]=>K (.bool (decide (zf9 w key.length∧nonce.length=12∧aad.length≤65536∧long≤65536))) []
  |_,_=>False
set_option maxHeartbeats 4000000 in
theorem z0b:zp prog 34 zyz:=by
  refine zo xk (zd zoc zk) rfl func34 rfl call34 (D:=z8d) ?_ ?_
  ·intro args hp K h
   unfold zyz at h
   split at h
   ·exact Nat.le_of_ble_eq_true rfl
   ·exact h.elim
  ·intro args hp K h
   unfold zyz at h
   split at h
   ·rename_i w key nonce aad long
    have four:w=4865∨w=4866∨w=4867∨(w≠4865∧w≠4866∧w≠4867):=by omega
    by_cases hk:zf9 w key.length
    ·have hk':=hk
     unfold zf9 at hk'
     by_cases h2:nonce.length=12
     ·by_cases h3:aad.length≤65536
      ·have hd:decide (zf9 w key.length∧nonce.length=12∧aad.length≤65536∧long≤65536)=decide (long≤65536):=by
         by_cases h4:long≤65536
         ·rw [decide_eq_true h4];exact decide_eq_true ⟨hk,h2,h3,h4⟩
         ·rw [decide_eq_false h4];exact decide_eq_false fun hh=>h4 hh.2.2.2
       rw [hd] at h
       rcases hk' with ⟨h0,h1⟩|⟨h0,h1⟩|⟨h0,h1⟩
       ·refine wk ?_
        exact ze (hp':= []) [] h
       ·refine wk ?_
        exact ze (hp':= []) [] h
       ·refine wk ?_
        exact ze (hp':= []) [] h
      ·rw [decide_eq_false fun hh=>h3 hh.2.2.1] at h
       rcases hk' with ⟨h0,h1⟩|⟨h0,h1⟩|⟨h0,h1⟩
       ·refine wk ?_
        exact ze (hp':= []) [] h
       ·refine wk ?_
        exact ze (hp':= []) [] h
       ·refine wk ?_
        exact ze (hp':= []) [] h
     ·rw [decide_eq_false fun hh=>h2 hh.2.1] at h
      rcases hk' with ⟨h0,h1⟩|⟨h0,h1⟩|⟨h0,h1⟩
      ·refine wk ?_
       exact ze (hp':= []) [] h
      ·refine wk ?_
       exact ze (hp':= []) [] h
      ·refine wk ?_
       exact ze (hp':= []) [] h
    ·rw [decide_eq_false fun hh=>hk hh.1] at h
     unfold zf9 at hk
     rcases four with h0|h0|h0|⟨h0,h1,h2⟩
     ·refine wk ?_
      exact ze (hp':= []) [] h
     ·refine wk ?_
      exact ze (hp':= []) [] h
     ·refine wk ?_
      exact ze (hp':= []) [] h
     ·refine wk ?_
      exact ze (hp':= []) [] h
   ·exact h.elim
theorem zxg {P:Program} {f:FuncId} {S S':Spec} (h:zp P f S) (hs: ∀args hp K,S' args hp K→S args hp K):zp P f S':=fun args hp K h1=>h args hp K (hs args hp K h1)
def zs8:Spec:=fun args hp K=>match args,hp with
  | [.str key,.str nonce,.str aad,.str s],[]=>Pre (key.length=32∧nonce.length=12∧aad.length≤65536∧(s.length:Int)-16≤65536)
      (zr (decide (16≤s.length∧yr key nonce aad (s.take (s.length-16))=s.drop (s.length-16))) (K (.tup [.str (xo key nonce 1 (s.take (s.length-16))),.int 0]) []) (K (.tup [.str [],.int 700]) []))
  |_,_=>False
def zss:Spec:=fun args hp K=>match args,hp with
  | [.str key,.str nonce,.str aad,.str s],[]=>Pre ((key.length=16∨key.length=32)∧nonce.length=12∧aad.length≤65536∧(s.length:Int)-16≤65536)
      (zr (decide (16≤s.length∧zgg key nonce aad (s.take (s.length-16))=s.drop (s.length-16))) (K (.tup [.str (zfu key nonce (s.take (s.length-16))),.int 0]) []) (K (.tup [.str [],.int 501]) []))
  |_,_=>False
theorem z1w: ∀args hp K,zs8 args hp K→zdg args hp K:=by
  intro args hp K h
  unfold zs8 at h
  unfold zdg
  split at h
  ·obtain ⟨h0,h⟩:=zl h
   obtain ⟨ht,hn⟩:=zu h
   try dsimp only
   refine zq (by omega) ?_
   split
   ·rename_i hc;exact ht (decide_eq_true hc.2)
   ·rename_i hc;exact hn (decide_eq_false fun hh=>hc ⟨h0,hh⟩)
  ·exact h.elim
theorem z21: ∀args hp K,zss args hp K→zmb args hp K:=by
  intro args hp K h
  unfold zss at h
  unfold zmb
  split at h
  ·obtain ⟨h0,h⟩:=zl h
   obtain ⟨ht,hn⟩:=zu h
   try dsimp only
   rw [if_pos ⟨h0.1,h0.2.1,h0.2.2.1,by omega⟩]
   split
   ·rename_i hc;exact ht (decide_eq_true hc)
   ·rename_i hc;exact hn (decide_eq_false hc)
  ·exact h.elim
theorem z0g:zp prog 23 zs8:=zxg zry z1w
theorem zxo:zp prog 37 zss:=zxg z2a z21
def zsd:Spec:=fun args hp K=>match args,hp with
  | [.int w,.str key,.str nonce,.str aad,.str s],[]=>Pre (s.length<9223372036854775808)
      (zr (decide (zf9 w key.length∧nonce.length=12∧aad.length≤65536∧(s.length:Int)-16≤65536))
        (zr (decide (16≤s.length∧zap w key nonce aad (s.take (s.length-16))=s.drop (s.length-16))) (K (.tup [.str (yv w key nonce (s.take (s.length-16))),.int 0]) []) (K (.tup [.str [],.int 801]) []))
        (K (.tup [.str [],.int 800]) []))
  |_,_=>False
end Go.Sym.A
