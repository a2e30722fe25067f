/-
  Contracts of functions of the program, each said of symbolic values, and plain laws; no condition beyond each statement's own.
-/
import Derived.Test.YtmmpgjcpielefaaGreatGLStreamActs19
set_option linter.unusedSimpArgs false
set_option linter.unusedVariables false
namespace Go.Sym.Z
open Go Go.Proofs.Tryz Go.Sym.Lp Go.Sym.Cha Go.Sym.Sha
set_option maxRecDepth 100000
attribute [local irreducible] xb KC HB za1 wrH wrR bk
def ykj:List (Nat×List PStep):= []
theorem zg0 (n:Nat):UInt64.ofInt (n:Int)=UInt64.ofNat n:=by
  apply UInt64.toNat_inj.1
  unfold UInt64.ofInt
  rw [UInt64.toNat_ofNat',UInt64.toNat_ofNat']
  omega
theorem zsk (n:Int) (k h:List UInt64) (R s:List UInt8) {b:Nat} (hb:bk n=b):wrH n k h R s=xb n k h (R++s) ((R++s).length/ b):=by unfold wrH;rw [hb]
theorem zum (n:Int) (R s:List UInt8) {b:Nat} (hb:bk n=b):wrR n R s=(R++s).drop (b*((R++s).length/ b)):=by unfold wrR;rw [hb]
theorem zny (n:Int) (k h:List UInt64) (B:List UInt8):xb n k h B 0=h:=by unfold xb;rfl
theorem zt3 (n:Int) (k h:List UInt64) (B:List UInt8) (t:Nat) {b:Nat} (hb:bk n=b):xb n k h B (t+1)=za1 n k (xb n k h B t) ((B.drop (b*t)).take b):=by simp only [xb];rw [hb]
def zsv:Spec:=fun args hp K=>match args,hp with
  | [.ptr 0 0 0 [],.str s],[.mk t0 [.int m,.arr64 8 H,.arr64 80 k,.nilsl,.u64 all]]=>Pre (H.length=8∧k.length=80∧s.length≤140737488351232)
      (ye (decide ((wrR m [] s).length=0)) (K (.tup []) [.mk t0 [.int m,.arr64 8 (wrH m k H [] s),.arr64 80 k,.nilsl,.u64 (all+UInt64.ofNat s.length)]])
        (zaz fun tl:List UInt8=>K (.tup []) [.mk t0 [.int m,.arr64 8 (wrH m k H [] s),.arr64 80 k,.sl 1 0 0 [] (wrR m [] s).length ((wrR m [] s).length+tl.length),.u64 (all+UInt64.ofNat s.length)],.mk 5 [.arr8 ((wrR m [] s).length+tl.length) (wrR m [] s++tl)]]))
  | [.ptr 0 0 0 [],.str s],[.mk t0 [.int m,.arr64 8 H,.arr64 80 k,.sl 1 0 0 [] r c,.u64 all],.mk t [.arr8 L l]]=>Pre (H.length=8∧k.length=80∧s.length≤140737488351232∧0<r∧r≤c∧r≤128∧c=l.length∧L=c)
      (ye (decide ((wrR m (l.take r) s).length=0)) (K (.tup []) [.mk t0 [.int m,.arr64 8 (wrH m k H (l.take r) s),.arr64 80 k,.nilsl,.u64 (all+UInt64.ofNat s.length)],.dead])
        (zaz fun tl:List UInt8=>K (.tup []) [.mk t0 [.int m,.arr64 8 (wrH m k H (l.take r) s),.arr64 80 k,.sl 2 0 0 [] (wrR m (l.take r) s).length ((wrR m (l.take r) s).length+tl.length),.u64 (all+UInt64.ofNat s.length)],.dead,.mk 5 [.arr8 ((wrR m (l.take r) s).length+tl.length) (wrR m (l.take r) s++tl)]]))
  |_,_=>False
set_option maxHeartbeats 8000000 in
theorem zkl:zp prog 172 zsv:=by
  refine zm zaw (zd zv6 (zd ybb zi)) rfl func172 rfl call172 (D:=ykj) ?_ ?_
  ·intro args hp K h
   unfold zsv at h
   split at h
   ·exact Nat.le_of_ble_eq_true rfl
   ·exact Nat.le_of_ble_eq_true rfl
   ·exact h.elim
  ·intro args hp K h
   unfold zsv at h
   split at h
   ·rename_i s t0 m H k all
    obtain ⟨⟨hH,hk,hs⟩,h⟩:=zq h
    obtain ⟨ht,hf⟩:=z8 h
    by_cases h0:s.length=0
    ·have e0:s= []:=List.length_eq_zero_iff.1 h0
     have hR0:wrR m [] s= []:=by unfold wrR;rw [e0];simp
     have hW0:wrH m k H [] s=H:=by unfold wrH;rw [e0,List.append_nil,List.length_nil,Nat.zero_div,zny]
     have hb:0<bk m:=zy7 m
     have h:=ht (decide_eq_true (by rw [hR0];rfl))
     rw [hW0] at h
     have hal:all+UInt64.ofInt (s.length:Int)=all+UInt64.ofNat s.length:=by rw [zg0]
     refine za ?_
     rw [hal]
     refine zt (Ix (0)) (fun q=>⟨[(0,.ptr 0 0 0 []),(4,.int (bk m:Nat)),(5,.int 0)],[.mk t0 [.int m,.arr64 8 H,.arr64 80 k,.nilsl,.u64 (all+UInt64.ofNat s.length)]]⟩) (fun q=>(0)-q.i) ⟨0,Nat.zero_le _⟩ [0] ?_ ?_
     ·exact zn
     ·intro q
      refine za ?_
      refine zr (by unfold zn4;exact ⟨rfl,trivial,trivial⟩) ?_
      refine za ?_
      exact zf [0] h
    ·refine za ?_
     refine yi fun t1=>?_
     refine za ?_
     by_cases hm:m=256
     ·have hb:bk m=64:=by unfold bk;rw [if_pos hm]
      have hRl:s.length=s.length:=by rfl
      have hLl:(s++t1).length=(s.length+t1.length):=by rw [List.length_append,hRl]
      have hW:wrH m k H [] s=xb m k H s (s.length/ 64):=by rw [zsk m k H [] s hb,List.nil_append]
      have hRr:wrR m [] s=s.drop (64*(s.length/ 64)):=by rw [zum m [] s hb,List.nil_append]
      have hRrl:(wrR m [] s).length=s.length-64*(s.length/ 64):=by rw [hRr,List.length_drop,hRl]
      rw [hb]
      refine zt (Ix ((s.length/ 64))) (fun q=>⟨[(0,.ptr 0 0 0 []),(4,.int 64),(5,.int (64*(q.i:Int)))],[.mk t0 [.int m,.arr64 8 (xb m k H s q.i),.arr64 80 k,.sl 1 0 0 [] s.length (s.length+t1.length),.u64 (all+UInt64.ofNat s.length)],.mk 5 [.arr8 (s.length+t1.length) (s++t1)]]⟩) (fun q=>((s.length/ 64))-q.i) ⟨0,Nat.zero_le _⟩ [0,1] ?_ ?_
      ·repeat ((conv=>whnf);refine zb ?_)
       conv=>whnf
       exact zo (show SV.agg [SV.int m,SV.arr64 8 H,SV.arr64 80 k,SV.sl 1 0 0 [] s.length (s.length+t1.length),SV.u64 (all+UInt64.ofInt (s.length:Int))]=SV.agg [SV.int m,SV.arr64 8 (xb m k H s 0),SV.arr64 80 k,SV.sl 1 0 0 [] s.length (s.length+t1.length),SV.u64 (all+UInt64.ofNat s.length)] by rw [zny,zg0])
      ·intro q
       have hi:=q.hi
       have htl:=zfj (n:=m) (k:=k) hH s q.i
       by_cases h4:q.i<s.length/ 64
       ·have hof:(off (yb [] (slO (s.length+t1.length) (64*(q.i:Int)).toNat) ty5.sz))=64*q.i:=by rw [zy,y7 (by omega)];show 0+(64*(q.i:Int)).toNat*1=_;omega
        have hpc:(xb m k H s q.i).length=8∧k.length=80∧bk m≤(64*(q.i:Int)+64).toNat-(64*(q.i:Int)).toNat∧(off (yb [] (slO (s.length+t1.length) (64*(q.i:Int)).toNat) ty5.sz))+((64*(q.i:Int)+64).toNat-(64*(q.i:Int)).toNat)≤(s++t1).length∧(64*(q.i:Int)+64).toNat-(64*(q.i:Int)).toNat≤(s.length+t1.length)-(64*(q.i:Int)).toNat:=⟨htl,hk,by omega,by rw [hof,hLl];omega,by omega⟩
        have hps:(off (yb [] (slO (s.length+t1.length) (64*(q.i:Int)).toNat) ty5.sz))+((64*(q.i:Int)+64).toNat-(64*(q.i:Int)).toNat)≤(s++t1).length:=hpc.2.2.2.1
        refine za ?_
        refine ⟨⟨q.i+1,h4⟩,[0,1],by show ((s.length/ 64))-(q.i+1)<((s.length/ 64))-q.i;omega,?_⟩
        repeat ((conv=>whnf);refine zb ?_)
        conv=>whnf
        exact zo (congrArg (fun x=>SV.agg [SV.int m,SV.arr64 8 x,SV.arr64 80 k,SV.sl 1 0 0 [] s.length (s.length+t1.length),SV.u64 (all+UInt64.ofNat s.length)]) (show za1 m k (xb m k H s q.i) (List.take (bk m) (List.drop (off (yb [] (slO (s.length+t1.length) (64*(q.i:Int)).toNat) ty5.sz)) (s++t1)))=xb m k H s (q.i+1) by rw [zt3 m k H s q.i hb,hof,hb,List.drop_append_of_le_length (by omega),List.take_append_of_le_length (by rw [List.length_drop];omega)]))
       ·have e4:q.i=s.length/ 64:=by omega
        have hpe:(off (yb [] (slO (s.length+t1.length) (64*(q.i:Int)).toNat) ty5.sz))+(s.length-(64*(q.i:Int)).toNat)≤(s++t1).length:=by
          rw [zy,hLl]
          show 0+slO _ _*1+_≤_
          by_cases e:(s.length+t1.length)=(64*(q.i:Int)).toNat
          ·unfold slO;split<;>omega
          ·rw [y7 e];omega
        have hraw:List.take (s.length-(64*(q.i:Int)).toNat) (List.drop (off (yb [] (slO (s.length+t1.length) (64*(q.i:Int)).toNat) ty5.sz)) (s++t1))=wrR m [] s:=by
          rw [hRr,show (64*(q.i:Int)).toNat=64*(s.length/ 64) by omega]
          by_cases e:s.length-64*(s.length/ 64)=0
          ·rw [e,List.take_zero]
           exact (List.drop_eq_nil_of_le (by omega)).symm
          ·rw [zy,y7 (show (s.length+t1.length)≠64*(s.length/ 64) by omega)]
           show List.take _ (List.drop (0+64*(s.length/ 64)*1) _)=_
           rw [Nat.zero_add,Nat.mul_one,List.drop_append_of_le_length (by omega),List.take_left' (by rw [List.length_drop]<;>omega)]
        have hH2:xb m k H s q.i=wrH m k H [] s:=by rw [hW,e4]
        rw [hH2]
        clear htl
        have hwl:=zbr (n:=m) (k:=k) hH [] s
        by_cases hz:(wrR m [] s).length=0
        ·have h:=ht (decide_eq_true hz)
         refine za ?_
         exact zf [0] h
        ·have h:=hf (decide_eq_false hz)
         refine za ?_
         rw [hraw]
         refine za ?_
         refine yi fun t2=>?_
         have h:=x0 h t2
         refine za ?_
         conv=>whnf
         exact zf [0,2] h
     ·have hb:bk m=128:=by unfold bk;rw [if_neg hm]
      have hRl:s.length=s.length:=by rfl
      have hLl:(s++t1).length=(s.length+t1.length):=by rw [List.length_append,hRl]
      have hW:wrH m k H [] s=xb m k H s (s.length/ 128):=by rw [zsk m k H [] s hb,List.nil_append]
      have hRr:wrR m [] s=s.drop (128*(s.length/ 128)):=by rw [zum m [] s hb,List.nil_append]
      have hRrl:(wrR m [] s).length=s.length-128*(s.length/ 128):=by rw [hRr,List.length_drop,hRl]
      rw [hb]
      refine zt (Ix ((s.length/ 128))) (fun q=>⟨[(0,.ptr 0 0 0 []),(4,.int 128),(5,.int (128*(q.i:Int)))],[.mk t0 [.int m,.arr64 8 (xb m k H s q.i),.arr64 80 k,.sl 1 0 0 [] s.length (s.length+t1.length),.u64 (all+UInt64.ofNat s.length)],.mk 5 [.arr8 (s.length+t1.length) (s++t1)]]⟩) (fun q=>((s.length/ 128))-q.i) ⟨0,Nat.zero_le _⟩ [0,1] ?_ ?_
      ·repeat ((conv=>whnf);refine zb ?_)
       conv=>whnf
       exact zo (show SV.agg [SV.int m,SV.arr64 8 H,SV.arr64 80 k,SV.sl 1 0 0 [] s.length (s.length+t1.length),SV.u64 (all+UInt64.ofInt (s.length:Int))]=SV.agg [SV.int m,SV.arr64 8 (xb m k H s 0),SV.arr64 80 k,SV.sl 1 0 0 [] s.length (s.length+t1.length),SV.u64 (all+UInt64.ofNat s.length)] by rw [zny,zg0])
      ·intro q
       have hi:=q.hi
       have htl:=zfj (n:=m) (k:=k) hH s q.i
       by_cases h4:q.i<s.length/ 128
       ·have hof:(off (yb [] (slO (s.length+t1.length) (128*(q.i:Int)).toNat) ty5.sz))=128*q.i:=by rw [zy,y7 (by omega)];show 0+(128*(q.i:Int)).toNat*1=_;omega
        have hpc:(xb m k H s q.i).length=8∧k.length=80∧bk m≤(128*(q.i:Int)+128).toNat-(128*(q.i:Int)).toNat∧(off (yb [] (slO (s.length+t1.length) (128*(q.i:Int)).toNat) ty5.sz))+((128*(q.i:Int)+128).toNat-(128*(q.i:Int)).toNat)≤(s++t1).length∧(128*(q.i:Int)+128).toNat-(128*(q.i:Int)).toNat≤(s.length+t1.length)-(128*(q.i:Int)).toNat:=⟨htl,hk,by omega,by rw [hof,hLl];omega,by omega⟩
        have hps:(off (yb [] (slO (s.length+t1.length) (128*(q.i:Int)).toNat) ty5.sz))+((128*(q.i:Int)+128).toNat-(128*(q.i:Int)).toNat)≤(s++t1).length:=hpc.2.2.2.1
        refine za ?_
        refine ⟨⟨q.i+1,h4⟩,[0,1],by show ((s.length/ 128))-(q.i+1)<((s.length/ 128))-q.i;omega,?_⟩
        repeat ((conv=>whnf);refine zb ?_)
        conv=>whnf
        exact zo (congrArg (fun x=>SV.agg [SV.int m,SV.arr64 8 x,SV.arr64 80 k,SV.sl 1 0 0 [] s.length (s.length+t1.length),SV.u64 (all+UInt64.ofNat s.length)]) (show za1 m k (xb m k H s q.i) (List.take (bk m) (List.drop (off (yb [] (slO (s.length+t1.length) (128*(q.i:Int)).toNat) ty5.sz)) (s++t1)))=xb m k H s (q.i+1) by rw [zt3 m k H s q.i hb,hof,hb,List.drop_append_of_le_length (by omega),List.take_append_of_le_length (by rw [List.length_drop];omega)]))
       ·have e4:q.i=s.length/ 128:=by omega
        have hpe:(off (yb [] (slO (s.length+t1.length) (128*(q.i:Int)).toNat) ty5.sz))+(s.length-(128*(q.i:Int)).toNat)≤(s++t1).length:=by
          rw [zy,hLl]
          show 0+slO _ _*1+_≤_
          by_cases e:(s.length+t1.length)=(128*(q.i:Int)).toNat
          ·unfold slO;split<;>omega
          ·rw [y7 e];omega
        have hraw:List.take (s.length-(128*(q.i:Int)).toNat) (List.drop (off (yb [] (slO (s.length+t1.length) (128*(q.i:Int)).toNat) ty5.sz)) (s++t1))=wrR m [] s:=by
          rw [hRr,show (128*(q.i:Int)).toNat=128*(s.length/ 128) by omega]
          by_cases e:s.length-128*(s.length/ 128)=0
          ·rw [e,List.take_zero]
           exact (List.drop_eq_nil_of_le (by omega)).symm
          ·rw [zy,y7 (show (s.length+t1.length)≠128*(s.length/ 128) by omega)]
           show List.take _ (List.drop (0+128*(s.length/ 128)*1) _)=_
           rw [Nat.zero_add,Nat.mul_one,List.drop_append_of_le_length (by omega),List.take_left' (by rw [List.length_drop]<;>omega)]
        have hH2:xb m k H s q.i=wrH m k H [] s:=by rw [hW,e4]
        rw [hH2]
        clear htl
        have hwl:=zbr (n:=m) (k:=k) hH [] s
        by_cases hz:(wrR m [] s).length=0
        ·have h:=ht (decide_eq_true hz)
         refine za ?_
         exact zf [0] h
        ·have h:=hf (decide_eq_false hz)
         refine za ?_
         rw [hraw]
         refine za ?_
         refine yi fun t2=>?_
         have h:=x0 h t2
         refine za ?_
         conv=>whnf
         exact zf [0,2] h
   ·rename_i s t0 m H k r c all t L l
    obtain ⟨⟨hH,hk,hs,hr0,hr,hr2,hc,hL⟩,h⟩:=zq h
    obtain ⟨ht,hf⟩:=z8 h
    refine za ?_
    refine yi fun t1=>?_
    refine za ?_
    by_cases hm:m=256
    ·have hb:bk m=64:=by unfold bk;rw [if_pos hm]
     have hRl:(l.take r++s).length=(r+s.length):=by rw [List.length_append,List.length_take];omega
     have hLl:((l.take r++s)++t1).length=((r+s.length)+t1.length):=by rw [List.length_append,hRl]
     have hW:wrH m k H (l.take r) s=xb m k H (l.take r++s) ((r+s.length)/ 64):=by rw [zsk m k H (l.take r) s hb,hRl]
     have hRr:wrR m (l.take r) s=(l.take r++s).drop (64*((r+s.length)/ 64)):=by rw [zum m (l.take r) s hb,hRl]
     have hRrl:(wrR m (l.take r) s).length=(r+s.length)-64*((r+s.length)/ 64):=by rw [hRr,List.length_drop,hRl]
     rw [hb]
     refine zt (Ix (((r+s.length)/ 64))) (fun q=>⟨[(0,.ptr 0 0 0 []),(4,.int 64),(5,.int (64*(q.i:Int)))],[.mk t0 [.int m,.arr64 8 (xb m k H (l.take r++s) q.i),.arr64 80 k,.sl 2 0 0 [] (r+s.length) ((r+s.length)+t1.length),.u64 (all+UInt64.ofNat s.length)],.dead,.mk 5 [.arr8 ((r+s.length)+t1.length) ((l.take r++s)++t1)]]⟩) (fun q=>(((r+s.length)/ 64))-q.i) ⟨0,Nat.zero_le _⟩ [0,1,2] ?_ ?_
     ·repeat ((conv=>whnf);refine zb ?_)
      conv=>whnf
      exact zo (show SV.agg [SV.int m,SV.arr64 8 H,SV.arr64 80 k,SV.sl 2 0 0 [] (r+s.length) ((r+s.length)+t1.length),SV.u64 (all+UInt64.ofInt (s.length:Int))]=SV.agg [SV.int m,SV.arr64 8 (xb m k H (l.take r++s) 0),SV.arr64 80 k,SV.sl 2 0 0 [] (r+s.length) ((r+s.length)+t1.length),SV.u64 (all+UInt64.ofNat s.length)] by rw [zny,zg0])
     ·intro q
      have hi:=q.hi
      have htl:=zfj (n:=m) (k:=k) hH (l.take r++s) q.i
      by_cases h4:q.i<(r+s.length)/ 64
      ·have hof:(off (yb [] (slO ((r+s.length)+t1.length) (64*(q.i:Int)).toNat) ty5.sz))=64*q.i:=by rw [zy,y7 (by omega)];show 0+(64*(q.i:Int)).toNat*1=_;omega
       have hpc:(xb m k H (l.take r++s) q.i).length=8∧k.length=80∧bk m≤(64*(q.i:Int)+64).toNat-(64*(q.i:Int)).toNat∧(off (yb [] (slO ((r+s.length)+t1.length) (64*(q.i:Int)).toNat) ty5.sz))+((64*(q.i:Int)+64).toNat-(64*(q.i:Int)).toNat)≤((l.take r++s)++t1).length∧(64*(q.i:Int)+64).toNat-(64*(q.i:Int)).toNat≤((r+s.length)+t1.length)-(64*(q.i:Int)).toNat:=⟨htl,hk,by omega,by rw [hof,hLl];omega,by omega⟩
       have hps:(off (yb [] (slO ((r+s.length)+t1.length) (64*(q.i:Int)).toNat) ty5.sz))+((64*(q.i:Int)+64).toNat-(64*(q.i:Int)).toNat)≤((l.take r++s)++t1).length:=hpc.2.2.2.1
       refine za ?_
       refine ⟨⟨q.i+1,h4⟩,[0,1,2],by show (((r+s.length)/ 64))-(q.i+1)<(((r+s.length)/ 64))-q.i;omega,?_⟩
       repeat ((conv=>whnf);refine zb ?_)
       conv=>whnf
       exact zo (congrArg (fun x=>SV.agg [SV.int m,SV.arr64 8 x,SV.arr64 80 k,SV.sl 2 0 0 [] (r+s.length) ((r+s.length)+t1.length),SV.u64 (all+UInt64.ofNat s.length)]) (show za1 m k (xb m k H (l.take r++s) q.i) (List.take (bk m) (List.drop (off (yb [] (slO ((r+s.length)+t1.length) (64*(q.i:Int)).toNat) ty5.sz)) ((l.take r++s)++t1)))=xb m k H (l.take r++s) (q.i+1) by rw [zt3 m k H (l.take r++s) q.i hb,hof,hb,List.drop_append_of_le_length (by omega),List.take_append_of_le_length (by rw [List.length_drop];omega)]))
      ·have e4:q.i=(r+s.length)/ 64:=by omega
       have hpe:(off (yb [] (slO ((r+s.length)+t1.length) (64*(q.i:Int)).toNat) ty5.sz))+((r+s.length)-(64*(q.i:Int)).toNat)≤((l.take r++s)++t1).length:=by
         rw [zy,hLl]
         show 0+slO _ _*1+_≤_
         by_cases e:((r+s.length)+t1.length)=(64*(q.i:Int)).toNat
         ·unfold slO;split<;>omega
         ·rw [y7 e];omega
       have hraw:List.take ((r+s.length)-(64*(q.i:Int)).toNat) (List.drop (off (yb [] (slO ((r+s.length)+t1.length) (64*(q.i:Int)).toNat) ty5.sz)) ((l.take r++s)++t1))=wrR m (l.take r) s:=by
         rw [hRr,show (64*(q.i:Int)).toNat=64*((r+s.length)/ 64) by omega]
         by_cases e:(r+s.length)-64*((r+s.length)/ 64)=0
         ·rw [e,List.take_zero]
          exact (List.drop_eq_nil_of_le (by omega)).symm
         ·rw [zy,y7 (show ((r+s.length)+t1.length)≠64*((r+s.length)/ 64) by omega)]
          show List.take _ (List.drop (0+64*((r+s.length)/ 64)*1) _)=_
          rw [Nat.zero_add,Nat.mul_one,List.drop_append_of_le_length (by omega),List.take_left' (by rw [List.length_drop]<;>omega)]
       have hH2:xb m k H (l.take r++s) q.i=wrH m k H (l.take r) s:=by rw [hW,e4]
       rw [hH2]
       clear htl
       have hwl:=zbr (n:=m) (k:=k) hH (l.take r) s
       by_cases hz:(wrR m (l.take r) s).length=0
       ·have h:=ht (decide_eq_true hz)
        refine za ?_
        exact zf [0,1] h
       ·have h:=hf (decide_eq_false hz)
        refine za ?_
        rw [hraw]
        refine za ?_
        refine yi fun t2=>?_
        have h:=x0 h t2
        refine za ?_
        conv=>whnf
        exact zf [0,1,3] h
    ·have hb:bk m=128:=by unfold bk;rw [if_neg hm]
     have hRl:(l.take r++s).length=(r+s.length):=by rw [List.length_append,List.length_take];omega
     have hLl:((l.take r++s)++t1).length=((r+s.length)+t1.length):=by rw [List.length_append,hRl]
     have hW:wrH m k H (l.take r) s=xb m k H (l.take r++s) ((r+s.length)/ 128):=by rw [zsk m k H (l.take r) s hb,hRl]
     have hRr:wrR m (l.take r) s=(l.take r++s).drop (128*((r+s.length)/ 128)):=by rw [zum m (l.take r) s hb,hRl]
     have hRrl:(wrR m (l.take r) s).length=(r+s.length)-128*((r+s.length)/ 128):=by rw [hRr,List.length_drop,hRl]
     rw [hb]
     refine zt (Ix (((r+s.length)/ 128))) (fun q=>⟨[(0,.ptr 0 0 0 []),(4,.int 128),(5,.int (128*(q.i:Int)))],[.mk t0 [.int m,.arr64 8 (xb m k H (l.take r++s) q.i),.arr64 80 k,.sl 2 0 0 [] (r+s.length) ((r+s.length)+t1.length),.u64 (all+UInt64.ofNat s.length)],.dead,.mk 5 [.arr8 ((r+s.length)+t1.length) ((l.take r++s)++t1)]]⟩) (fun q=>(((r+s.length)/ 128))-q.i) ⟨0,Nat.zero_le _⟩ [0,1,2] ?_ ?_
     ·repeat ((conv=>whnf);refine zb ?_)
      conv=>whnf
      exact zo (show SV.agg [SV.int m,SV.arr64 8 H,SV.arr64 80 k,SV.sl 2 0 0 [] (r+s.length) ((r+s.length)+t1.length),SV.u64 (all+UInt64.ofInt (s.length:Int))]=SV.agg [SV.int m,SV.arr64 8 (xb m k H (l.take r++s) 0),SV.arr64 80 k,SV.sl 2 0 0 [] (r+s.length) ((r+s.length)+t1.length),SV.u64 (all+UInt64.ofNat s.length)] by rw [zny,zg0])
     ·intro q
      have hi:=q.hi
      have htl:=zfj (n:=m) (k:=k) hH (l.take r++s) q.i
      by_cases h4:q.i<(r+s.length)/ 128
      ·have hof:(off (yb [] (slO ((r+s.length)+t1.length) (128*(q.i:Int)).toNat) ty5.sz))=128*q.i:=by rw [zy,y7 (by omega)];show 0+(128*(q.i:Int)).toNat*1=_;omega
       have hpc:(xb m k H (l.take r++s) q.i).length=8∧k.length=80∧bk m≤(128*(q.i:Int)+128).toNat-(128*(q.i:Int)).toNat∧(off (yb [] (slO ((r+s.length)+t1.length) (128*(q.i:Int)).toNat) ty5.sz))+((128*(q.i:Int)+128).toNat-(128*(q.i:Int)).toNat)≤((l.take r++s)++t1).length∧(128*(q.i:Int)+128).toNat-(128*(q.i:Int)).toNat≤((r+s.length)+t1.length)-(128*(q.i:Int)).toNat:=⟨htl,hk,by omega,by rw [hof,hLl];omega,by omega⟩
       have hps:(off (yb [] (slO ((r+s.length)+t1.length) (128*(q.i:Int)).toNat) ty5.sz))+((128*(q.i:Int)+128).toNat-(128*(q.i:Int)).toNat)≤((l.take r++s)++t1).length:=hpc.2.2.2.1
       refine za ?_
       refine ⟨⟨q.i+1,h4⟩,[0,1,2],by show (((r+s.length)/ 128))-(q.i+1)<(((r+s.length)/ 128))-q.i;omega,?_⟩
       repeat ((conv=>whnf);refine zb ?_)
       conv=>whnf
       exact zo (congrArg (fun x=>SV.agg [SV.int m,SV.arr64 8 x,SV.arr64 80 k,SV.sl 2 0 0 [] (r+s.length) ((r+s.length)+t1.length),SV.u64 (all+UInt64.ofNat s.length)]) (show za1 m k (xb m k H (l.take r++s) q.i) (List.take (bk m) (List.drop (off (yb [] (slO ((r+s.length)+t1.length) (128*(q.i:Int)).toNat) ty5.sz)) ((l.take r++s)++t1)))=xb m k H (l.take r++s) (q.i+1) by rw [zt3 m k H (l.take r++s) q.i hb,hof,hb,List.drop_append_of_le_length (by omega),List.take_append_of_le_length (by rw [List.length_drop];omega)]))
      ·have e4:q.i=(r+s.length)/ 128:=by omega
       have hpe:(off (yb [] (slO ((r+s.length)+t1.length) (128*(q.i:Int)).toNat) ty5.sz))+((r+s.length)-(128*(q.i:Int)).toNat)≤((l.take r++s)++t1).length:=by
         rw [zy,hLl]
         show 0+slO _ _*1+_≤_
         by_cases e:((r+s.length)+t1.length)=(128*(q.i:Int)).toNat
         ·unfold slO;split<;>omega
         ·rw [y7 e];omega
       have hraw:List.take ((r+s.length)-(128*(q.i:Int)).toNat) (List.drop (off (yb [] (slO ((r+s.length)+t1.length) (128*(q.i:Int)).toNat) ty5.sz)) ((l.take r++s)++t1))=wrR m (l.take r) s:=by
         rw [hRr,show (128*(q.i:Int)).toNat=128*((r+s.length)/ 128) by omega]
         by_cases e:(r+s.length)-128*((r+s.length)/ 128)=0
         ·rw [e,List.take_zero]
          exact (List.drop_eq_nil_of_le (by omega)).symm
         ·rw [zy,y7 (show ((r+s.length)+t1.length)≠128*((r+s.length)/ 128) by omega)]
          show List.take _ (List.drop (0+128*((r+s.length)/ 128)*1) _)=_
          rw [Nat.zero_add,Nat.mul_one,List.drop_append_of_le_length (by omega),List.take_left' (by rw [List.length_drop]<;>omega)]
       have hH2:xb m k H (l.take r++s) q.i=wrH m k H (l.take r) s:=by rw [hW,e4]
       rw [hH2]
       clear htl
       have hwl:=zbr (n:=m) (k:=k) hH (l.take r) s
       by_cases hz:(wrR m (l.take r) s).length=0
       ·have h:=ht (decide_eq_true hz)
        refine za ?_
        exact zf [0,1] h
       ·have h:=hf (decide_eq_false hz)
        refine za ?_
        rw [hraw]
        refine za ?_
        refine yi fun t2=>?_
        have h:=x0 h t2
        refine za ?_
        conv=>whnf
        exact zf [0,1,3] h
   ·exact h.elim
end Go.Sym.Z
