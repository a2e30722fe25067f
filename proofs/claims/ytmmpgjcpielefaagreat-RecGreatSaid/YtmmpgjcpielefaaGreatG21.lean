/-
  Contracts of functions of the program, each said of symbolic values, and plain laws; no condition beyond each statement's own.
-/
import Derived.Test.YtmmpgjcpielefaaGreatG18
import Derived.Test.YtmmpgjcpielefaaGreatG20
set_option linter.unusedSimpArgs false
set_option linter.unusedVariables false
namespace Go.Sym.Z
open Go Go.Proofs.Tryz Go.Sym.Lp Go.Sym.Aes
set_option maxRecDepth 100000
attribute [local irreducible] box rc
def yfd:List (Nat×List PStep):= [(11,[⟨0,[]⟩,⟨1,[0]⟩,⟨2,[]⟩,⟨3,[]⟩,⟨4,[0,1,2,3]⟩,⟨5,[0,1,2,3,4]⟩,⟨6,[0,1,2,3,4]⟩,⟨7,[0,1,2,3]⟩,⟨8,[]⟩]),(14,[⟨0,[]⟩,⟨1,[0]⟩,⟨2,[0]⟩,⟨3,[1,2]⟩,⟨4,[1,2]⟩,⟨5,[]⟩,⟨6,[]⟩,⟨7,[0,1,2,3,4,5,6]⟩,⟨8,[]⟩,⟨9,[0,1,2,3,4,5,6,7,8]⟩,⟨10,[0,1,2,3,4,5,6,7,8,9]⟩,⟨11,[0,1,2,3,4,5,6,7,8,9]⟩,⟨12,[0,1,2,3,4,5,6,7,8,10,11]⟩,⟨13,[0,1,2,3,4,5,6,7,8,10,11]⟩,⟨14,[0,1,2,3,4,5,6,7,8]⟩,⟨15,[0,1,2,3,4,5,6,7,8]⟩,⟨16,[0,1,2,3,4,5,6,7,8,9,10,11,12,13,14,15]⟩,⟨17,[0,1,2,3,4,5,6,7,8,9,10,11,12,13,14,15,16]⟩,⟨18,[0,1,2,3,4,5,6,7,8,9,10,11,12,13,14,15,16]⟩,⟨19,[0,1,2,3,4,5,6,7,8,9,10,11,12,13,14,15,17,18]⟩,⟨20,[0,1,2,3,4,5,6,7,8,9,10,11,12,13,14,15,17,18]⟩,⟨21,[0,1,2,3,4,5,6,7,8,9,10,11,12,13,14,15]⟩,⟨22,[0,1,2,3,4,5,6,7,8,9,10,11,12,13,14,15]⟩,⟨23,[0,1,2,3,4,5,6,7,8,9,10,11,12,13,14,15,16,17,18,19,20,21,22]⟩,⟨24,[0,1,2,3,4,5,6,7,8,9,10,11,12,13,14,15,16,17,18,19,20,21,22,23]⟩,⟨25,[0,1,2,3,4,5,6,7,8,9,10,11,12,13,14,15,16,17,18,19,20,21,22,23]⟩,⟨26,[0,1,2,3,4,5,6,7,8,9,10,11,12,13,14,15,16,17,18,19,20,21,22,24,25]⟩,⟨27,[0,1,2,3,4,5,6,7,8,9,10,11,12,13,14,15,16,17,18,19,20,21,22,24,25]⟩,⟨28,[0,1,2,3,4,5,6,7,8,9,10,11,12,13,14,15,16,17,18,19,20,21,22]⟩,⟨29,[0,1,2,3,4,5,6,7,8,9,10,11,12,13,14,15,16,17,18,19,20,21,22]⟩,⟨30,[]⟩,⟨31,[]⟩]),(20,[⟨0,[]⟩,⟨1,[0]⟩,⟨2,[0,1]⟩,⟨3,[0,1]⟩,⟨4,[0,1]⟩,⟨5,[0,2,3,4]⟩,⟨6,[0,2,3,4]⟩,⟨7,[0]⟩,⟨8,[0]⟩,⟨9,[]⟩,⟨10,[]⟩]),(25,[⟨0,[]⟩,⟨1,[0]⟩,⟨2,[0,1]⟩,⟨3,[0,1,2]⟩,⟨4,[0,1,2,3]⟩,⟨5,[0,1,2,3,4]⟩,⟨6,[0,1,2,3]⟩,⟨7,[0,1,2,3,4,5,6]⟩,⟨8,[0,1,2,7]⟩,⟨9,[0,1,2]⟩,⟨10,[0,1,2]⟩,⟨11,[0,1,2,3,4,5,6,7,8,9,10]⟩,⟨12,[0,1,2,3,4,5,6,7,8,9,10]⟩,⟨13,[0,1,2,3,4,5,6,7,8,9,10]⟩,⟨14,[0,1,2]⟩,⟨15,[2,3,4,5,6,7,8,9,10,11,12,13,14]⟩,⟨16,[]⟩,⟨17,[]⟩]),(32,[⟨0,[]⟩,⟨1,[]⟩,⟨2,[]⟩,⟨3,[]⟩,⟨4,[0,1,2,3]⟩,⟨5,[0,1,2,3]⟩,⟨6,[]⟩,⟨7,[0,1,2,3,4,5,6]⟩,⟨8,[0,1,2,3,4,5,6]⟩,⟨9,[0,1,2,3,4,5,6]⟩,⟨10,[]⟩,⟨11,[0,1,2,3,4,5,6,7,8,9,10]⟩,⟨12,[0,1,2,3,4,5,6,7,8,9,10,11]⟩,⟨13,[0,1,2,3,4,5,6,7,8,9,10]⟩,⟨14,[0,1,2,3,4,5,6,7,8,9,10]⟩,⟨15,[]⟩])]
def zrj:Spec:=fun args hp K=>match args,hp with
  | [.str key],[]=>zx (decide (key.length=16∨key.length=32))
      (K (.tup [.ptr 0 0 0 [],.bool true]) [.mk 216 [.arr8 256 box,.sl 1 0 0 [] (key.length/ 4+7) (key.length/ 4+7)],.mk 168 [.arr8 (16*(key.length/ 4+7)) (ks key (key.length/ 4) (4*(key.length/ 4+7)))]])
      (K (.tup [.nilptr,.bool false]) [])
  |_,_=>False
theorem zp9 {key:List UInt8} {n N i k:Nat} (hk:key.length=4*n) (h:4*i+4≤N) {v:List UInt8} (hv:v=xi key n i (ks key n i)) (hkk:k=4*i):z9 (kw key n N i) k v=kw key n N (i+1):=by
  subst hkk
  have hl:v.length=4:=by rw [hv];exact zcf hk _
  unfold z9
  rw [hl]
  exact zz2 hk h hv
theorem zpy {W:List UInt8} {i k:Nat} (h:4*i+4≤W.length) {v:List UInt8} (hv:v=(W.drop (4*i)).take 4) (hkk:k=4*i):z9 (kc W i) k v=kc W (i+1):=by
  subst hkk
  have hl:v.length=4:=by rw [hv,List.length_take,List.length_drop];omega
  unfold z9
  rw [hl,hv]
  exact z88 h
theorem zo2 {key:List UInt8} {n N i:Nat} (hk:key.length=4*n) (h:4*i+4≤N) {g:Nat→UInt8} (hv:(List.range 4).map g=xi key n i (ks key n i)):ovr (kw key n N i) (4*i) g 4=kw key n N (i+1):=zz2 hk h hv
set_option maxHeartbeats 8000000 in
theorem z4m:zm prog 134 zrj:=by
  refine zk zc5 (zc z8d (zc zru zg)) rfl func134 rfl call134 (D:=yfd) ?_ ?_
  ·intro args hp K h
   unfold zrj at h
   split at h
   ·exact Nat.le_of_ble_eq_true rfl
   ·exact h.elim
  ·intro args hp K h
   unfold zrj at h
   split at h
   ·rename_i key
    obtain ⟨ht,hn⟩:=zy h
    by_cases hk:key.length=16
    ·have h:=ht (decide_eq_true (.inl hk))
     have hkn:key.length=4*4:=hk
     rw [hk] at h
     have hq:(key.length:Int).tdiv 4=4:=by rw [hk];rfl
     have hf:yb ((key.length:Int).tdiv 4):=by rw [hq];unfold yb;omega
     have hf2:(4:Int)≠0∧yb ((key.length:Int).tdiv 4):=⟨by decide,hf⟩
     refine za ?_
     rw [hq]
     refine za ?_
     refine zp (Ix (44)) (fun q=>⟨[(0,.str key),(2,.nilptr),(3,.bool false),(4,.ptr 0 0 0 []),(5,.int 4),(6,.sl 1 0 0 [] 44 44),(7,.u8 (rc ((q.i-1)/ 4))),(32,.int 44),(33,.int q.i)],[.mk 216 [.arr8 256 box,.nilsl],.mk 148 [.arr8 176 (kw key 4 176 q.i)]]⟩) (fun q=>(44)-q.i) ⟨0,Nat.zero_le _⟩ [0,1] ?_ ?_
     ·repeat ((conv=>whnf);refine zb ?_)
      conv=>whnf
      exact zh (congrArg SV.u8 (by unfold rc;rfl))
     ·intro q
      have hi:=q.hi
      have hl:=z17 hkn (N:=176) (i:=q.i) (by omega)
      have hI:((q.i:Int)).toNat=q.i:=Int.toNat_natCast _
      by_cases h4:q.i<44
      ·by_cases h5:q.i<4
       ·refine za ?_
        refine ⟨⟨q.i+1,h4⟩,[0,1],by show (44)-(q.i+1)<(44)-q.i;omega,?_⟩
        repeat ((conv=>whnf);refine zb ?_)
        conv=>whnf
        refine zq (congrArg (fun x=>SV.agg [SV.arr8 176 x]) (zp9 hkn (by omega) ?hv ?hkk)) ?_
        case hkk=>show q.i*4=4*q.i;omega
        case hv=>
          unfold xi
          rw [if_pos h5,show (4*(q.i:Int)).toNat=4*q.i by omega,List.length_drop,Nat.min_eq_right (by omega)]
        repeat ((conv=>whnf);refine zb ?_)
        conv=>whnf
        exact zh (congrArg SV.u8 (by show rc ((q.i-1)/ 4)=rc ((q.i+1-1)/ 4);rw [zt9 h5,Nat.add_sub_cancel]))
       ·have hm0:((q.i:Int)).tmod 4=((q.i%4:Nat):Int):=by rw [Int.tmod_eq_emod_of_nonneg (by omega)];omega
        obtain ⟨T,hT⟩: ∃T,T=((ks key 4 q.i).drop (4*(q.i-1))).take 4:=⟨_,rfl⟩
        have hTl:T.length=4:=by rw [hT,List.length_take,List.length_drop,za3 hkn];omega
        have tT:List.take zan.sz (List.drop (off (ye [] ((q.i:Int)-1).toNat zan.sz)) (kw key 4 176 q.i))=T:=by
          rw [hT,←z6h hkn (N:=176) (by omega)]
          show List.take 4 (List.drop (((q.i:Int)-1).toNat*4) _)=_
          rw [show ((q.i:Int)-1).toNat*4=4*(q.i-1) by omega]
        have hnx:(List.range 4).map (fun k=>(ks key 4 q.i).getD (4*(q.i-4)+k) 0^^^(xz 4 q.i T).getD k 0)=xi key 4 q.i (ks key 4 q.i):=by
          unfold xi;rw [if_neg h5,←hT]
        by_cases h6:q.i%4=0
        ·refine za ?_
         rw [tT]
         repeat ((conv=>whnf);first|refine zu ?_|refine zi ?_|refine zj ?_|refine zb ?_|refine zw (by first|exact zdb _) ?_|refine zo (by first|exact zdb _) ?_|refine zn (by first|exact zdb _) ?_)
         conv=>whnf
         refine zp (Ix (4)) (fun r=>⟨[(0,.str key),(2,.nilptr),(3,.bool false),(4,.ptr 0 0 0 []),(5,.int 4),(6,.sl 1 0 0 [] 44 44),(7,.u8 (tw (rc ((q.i-1)/ 4)))),(32,.int 44),(33,.int q.i),(8,.int q.i),(9,.ptr 2 0 0 []),(112,.int r.i)],[.mk 216 [.arr8 256 box,.nilsl],.mk 148 [.arr8 176 (ovr (kw key 4 176 q.i) (4*q.i) (fun k=>(ks key 4 q.i).getD (4*(q.i-4)+k) 0^^^(xz 4 q.i T).getD k 0) r.i)],.mk 148 [.arr8 4 (xz 4 q.i T)]]⟩) (fun r=>(4)-r.i) ⟨0,Nat.zero_le _⟩ [0,1,2] ?_ ?_
         ·repeat ((conv=>whnf);refine zb ?_)
          conv=>whnf
          refine zq (congrArg (fun x=>SV.agg [SV.arr8 176 x]) (zab _ _ _).symm) ?_
          repeat ((conv=>whnf);refine zb ?_)
          conv=>whnf
          exact zh (congrArg (fun x=>SV.agg [SV.arr8 4 x]) (by unfold xz;rw [if_pos h6];rfl))
         ·intro r
          have hri:=r.hi
          have hJ:((r.i:Int)).toNat=r.i:=Int.toNat_natCast _
          have hTW:=zbn (n:=4) (i:=q.i) hTl
          have hlo:=yc (l:=kw key 4 176 q.i) (a:=4*q.i) (i:=r.i) (by omega) (fun k=>(ks key 4 q.i).getD (4*(q.i-4)+k) 0^^^(xz 4 q.i T).getD k 0)
          by_cases h7:r.i<4
          ·refine za ?_
           refine ⟨⟨r.i+1,h7⟩,[0,1,2],by show (4)-(r.i+1)<(4)-r.i;omega,?_⟩
           repeat ((conv=>whnf);refine zb ?_)
           conv=>whnf
           refine zq (congrArg (fun x=>SV.agg [SV.arr8 176 x]) (z8 (by omega) ?hv ?hkk)) ?_
           case hkk=>show q.i*4+r.i=4*q.i+r.i;omega
           case hv=>
             show (ovr _ _ _ _).getD (((q.i:Int)-4).toNat*4+r.i) 0^^^_=_
             rw [yp (by omega) _ (by omega),zmp hkn (by omega),show ((q.i:Int)-4).toNat*4+r.i=4*(q.i-4)+r.i by omega]
             rfl
           exact zt
          ·have e7:r.i=4:=by omega
           rw [e7,zo2 hkn (by omega) hnx]
           refine za ?_
           refine ⟨⟨q.i+1,h4⟩,[0,1],by show (44)-(q.i+1)<(44)-q.i;omega,?_⟩
           repeat ((conv=>whnf);refine zb ?_)
           conv=>whnf
           exact zh (congrArg SV.u8 (by show (tw (rc ((q.i-1)/ 4)))=rc ((q.i+1-1)/ 4);rw [Nat.add_sub_cancel,zl8 (by omega) (by omega) h6]))
        ·refine za ?_
         rw [tT]
         refine zp (Ix (4)) (fun r=>⟨[(0,.str key),(2,.nilptr),(3,.bool false),(4,.ptr 0 0 0 []),(5,.int 4),(6,.sl 1 0 0 [] 44 44),(7,.u8 (rc ((q.i-1)/ 4))),(32,.int 44),(33,.int q.i),(8,.int q.i),(9,.ptr 2 0 0 []),(112,.int r.i)],[.mk 216 [.arr8 256 box,.nilsl],.mk 148 [.arr8 176 (ovr (kw key 4 176 q.i) (4*q.i) (fun k=>(ks key 4 q.i).getD (4*(q.i-4)+k) 0^^^(xz 4 q.i T).getD k 0) r.i)],.mk 148 [.arr8 4 (xz 4 q.i T)]]⟩) (fun r=>(4)-r.i) ⟨0,Nat.zero_le _⟩ [0,1,2] ?_ ?_
         ·repeat ((conv=>whnf);refine zb ?_)
          conv=>whnf
          refine zq (congrArg (fun x=>SV.agg [SV.arr8 176 x]) (zab _ _ _).symm) ?_
          repeat ((conv=>whnf);refine zb ?_)
          conv=>whnf
          exact zh (congrArg (fun x=>SV.agg [SV.arr8 4 x]) (by unfold xz;rw [if_neg h6,if_neg (fun h=>absurd h.1 (by decide))]))
         ·intro r
          have hri:=r.hi
          have hJ:((r.i:Int)).toNat=r.i:=Int.toNat_natCast _
          have hTW:=zbn (n:=4) (i:=q.i) hTl
          have hlo:=yc (l:=kw key 4 176 q.i) (a:=4*q.i) (i:=r.i) (by omega) (fun k=>(ks key 4 q.i).getD (4*(q.i-4)+k) 0^^^(xz 4 q.i T).getD k 0)
          by_cases h7:r.i<4
          ·refine za ?_
           refine ⟨⟨r.i+1,h7⟩,[0,1,2],by show (4)-(r.i+1)<(4)-r.i;omega,?_⟩
           repeat ((conv=>whnf);refine zb ?_)
           conv=>whnf
           refine zq (congrArg (fun x=>SV.agg [SV.arr8 176 x]) (z8 (by omega) ?hv ?hkk)) ?_
           case hkk=>show q.i*4+r.i=4*q.i+r.i;omega
           case hv=>
             show (ovr _ _ _ _).getD (((q.i:Int)-4).toNat*4+r.i) 0^^^_=_
             rw [yp (by omega) _ (by omega),zmp hkn (by omega),show ((q.i:Int)-4).toNat*4+r.i=4*(q.i-4)+r.i by omega]
             rfl
           exact zt
          ·have e7:r.i=4:=by omega
           rw [e7,zo2 hkn (by omega) hnx]
           refine za ?_
           refine ⟨⟨q.i+1,h4⟩,[0,1],by show (44)-(q.i+1)<(44)-q.i;omega,?_⟩
           repeat ((conv=>whnf);refine zb ?_)
           conv=>whnf
           exact zh (congrArg SV.u8 (by show (rc ((q.i-1)/ 4))=rc ((q.i+1-1)/ 4);rw [Nat.add_sub_cancel,zh9 (by omega) h6]))
      ·have e4:q.i=44:=by omega
       rw [e4,z35 (by rfl)]
       have hW:=za3 hkn 44
       generalize ks key 4 44=W at*
       refine za ?_
       refine zp (Ix (44)) (fun u=>⟨[(0,.str key),(2,.nilptr),(3,.bool false),(4,.ptr 0 0 0 []),(5,.int 4),(6,.sl 1 0 0 [] 44 44),(141,.int 44),(142,.int u.i)],[.mk 216 [.arr8 256 box,.sl 2 0 0 [] 11 11],.mk 148 [.arr8 176 W],.mk 168 [.arr8 176 (kc W u.i)]]⟩) (fun u=>(44)-u.i) ⟨0,Nat.zero_le _⟩ [0,1,2] ?_ ?_
       ·repeat ((conv=>whnf);refine zb ?_)
        conv=>whnf
        exact zh (congrArg (fun x=>SV.agg [SV.arr8 176 x]) (by rw [zy1,hW];rfl))
       ·intro u
        have hui:=u.hi
        have hlk:=z63 (W:=W) (i:=u.i) (by omega)
        have hU:((u.i:Int)).toNat=u.i:=Int.toNat_natCast _
        have hd:(u.i:Int).tdiv 4=((u.i/ 4:Nat):Int):=by rw [Int.tdiv_eq_ediv_of_nonneg (by omega)];omega
        have hm:(u.i:Int).tmod 4=((u.i%4:Nat):Int):=by rw [Int.tmod_eq_emod_of_nonneg (by omega)];omega
        have hpd:(4:Int)≠0∧yb ((u.i:Int).tdiv 4):=⟨by decide,by unfold yb;omega⟩
        by_cases h8:u.i<44
        ·have hs:slO 16 (4*(u.i:Int).tmod 4).toNat=4*(u.i%4):=by rw [xt (by omega)];omega
         have hv4:(List.take 4 (List.drop (off (ye [] ((u.i:Int)).toNat zan.sz)) W))=(W.drop (4*u.i)).take 4:=by
           show List.take 4 (List.drop (((u.i:Int)).toNat*4) W)=_
           rw [hU,Nat.mul_comm]
         have hv5:((W.drop (4*u.i)).take 4).length=4:=by rw [List.length_take,List.length_drop];omega
         refine za ?_
         rw [hs,hv4,hv5,Nat.min_eq_left (show 4≤16-(4*(u.i:Int).tmod 4).toNat by omega)]
         conv=>whnf
         refine ⟨⟨u.i+1,h8⟩,[0,1,2],by show (44)-(u.i+1)<(44)-u.i;omega,?_⟩
         repeat ((conv=>whnf);refine zb ?_)
         conv=>whnf
         refine zq (congrArg (fun x=>SV.agg [SV.arr8 176 x]) (zpy (by omega) ?hv ?hkk)) ?_
         case hkk=>show ((u.i:Int).tdiv 4).toNat*16+4*(u.i%4)=4*u.i;omega
         case hv=>exact List.take_of_length_le (by omega)
         exact zt
        ·have e8:u.i=44:=by omega
         rw [e8,z5w (by omega)]
         refine za ?_
         exact ze [0,2] h
    ·by_cases hk2:key.length=32
     ·have h:=ht (decide_eq_true (.inr hk2))
      have hk:=hk2
      have hkn:key.length=4*8:=hk2
      rw [hk2] at h
      have hq:(key.length:Int).tdiv 4=8:=by rw [hk];rfl
      have hf:yb ((key.length:Int).tdiv 4):=by rw [hq];unfold yb;omega
      have hf2:(4:Int)≠0∧yb ((key.length:Int).tdiv 4):=⟨by decide,hf⟩
      refine za ?_
      rw [hq]
      refine za ?_
      refine zp (Ix (60)) (fun q=>⟨[(0,.str key),(2,.nilptr),(3,.bool false),(4,.ptr 0 0 0 []),(5,.int 8),(6,.sl 1 0 0 [] 60 60),(7,.u8 (rc ((q.i-1)/ 8))),(32,.int 60),(33,.int q.i)],[.mk 216 [.arr8 256 box,.nilsl],.mk 148 [.arr8 240 (kw key 8 240 q.i)]]⟩) (fun q=>(60)-q.i) ⟨0,Nat.zero_le _⟩ [0,1] ?_ ?_
      ·repeat ((conv=>whnf);refine zb ?_)
       conv=>whnf
       exact zh (congrArg SV.u8 (by unfold rc;rfl))
      ·intro q
       have hi:=q.hi
       have hl:=z17 hkn (N:=240) (i:=q.i) (by omega)
       have hI:((q.i:Int)).toNat=q.i:=Int.toNat_natCast _
       by_cases h4:q.i<60
       ·by_cases h5:q.i<8
        ·refine za ?_
         refine ⟨⟨q.i+1,h4⟩,[0,1],by show (60)-(q.i+1)<(60)-q.i;omega,?_⟩
         repeat ((conv=>whnf);refine zb ?_)
         conv=>whnf
         refine zq (congrArg (fun x=>SV.agg [SV.arr8 240 x]) (zp9 hkn (by omega) ?hv ?hkk)) ?_
         case hkk=>show q.i*4=4*q.i;omega
         case hv=>
           unfold xi
           rw [if_pos h5,show (4*(q.i:Int)).toNat=4*q.i by omega,List.length_drop,Nat.min_eq_right (by omega)]
         repeat ((conv=>whnf);refine zb ?_)
         conv=>whnf
         exact zh (congrArg SV.u8 (by show rc ((q.i-1)/ 8)=rc ((q.i+1-1)/ 8);rw [zt9 h5,Nat.add_sub_cancel]))
        ·have hm0:((q.i:Int)).tmod 8=((q.i%8:Nat):Int):=by rw [Int.tmod_eq_emod_of_nonneg (by omega)];omega
         obtain ⟨T,hT⟩: ∃T,T=((ks key 8 q.i).drop (4*(q.i-1))).take 4:=⟨_,rfl⟩
         have hTl:T.length=4:=by rw [hT,List.length_take,List.length_drop,za3 hkn];omega
         have tT:List.take zan.sz (List.drop (off (ye [] ((q.i:Int)-1).toNat zan.sz)) (kw key 8 240 q.i))=T:=by
           rw [hT,←z6h hkn (N:=240) (by omega)]
           show List.take 4 (List.drop (((q.i:Int)-1).toNat*4) _)=_
           rw [show ((q.i:Int)-1).toNat*4=4*(q.i-1) by omega]
         have hnx:(List.range 4).map (fun k=>(ks key 8 q.i).getD (4*(q.i-8)+k) 0^^^(xz 8 q.i T).getD k 0)=xi key 8 q.i (ks key 8 q.i):=by
           unfold xi;rw [if_neg h5,←hT]
         by_cases h6:q.i%8=0
         ·refine za ?_
          rw [tT]
          repeat ((conv=>whnf);first|refine zu ?_|refine zi ?_|refine zj ?_|refine zb ?_|refine zw (by first|exact zdb _) ?_|refine zo (by first|exact zdb _) ?_|refine zn (by first|exact zdb _) ?_)
          conv=>whnf
          refine zp (Ix (4)) (fun r=>⟨[(0,.str key),(2,.nilptr),(3,.bool false),(4,.ptr 0 0 0 []),(5,.int 8),(6,.sl 1 0 0 [] 60 60),(7,.u8 (tw (rc ((q.i-1)/ 8)))),(32,.int 60),(33,.int q.i),(8,.int q.i),(9,.ptr 2 0 0 []),(112,.int r.i)],[.mk 216 [.arr8 256 box,.nilsl],.mk 148 [.arr8 240 (ovr (kw key 8 240 q.i) (4*q.i) (fun k=>(ks key 8 q.i).getD (4*(q.i-8)+k) 0^^^(xz 8 q.i T).getD k 0) r.i)],.mk 148 [.arr8 4 (xz 8 q.i T)]]⟩) (fun r=>(4)-r.i) ⟨0,Nat.zero_le _⟩ [0,1,2] ?_ ?_
          ·repeat ((conv=>whnf);refine zb ?_)
           conv=>whnf
           refine zq (congrArg (fun x=>SV.agg [SV.arr8 240 x]) (zab _ _ _).symm) ?_
           repeat ((conv=>whnf);refine zb ?_)
           conv=>whnf
           exact zh (congrArg (fun x=>SV.agg [SV.arr8 4 x]) (by unfold xz;rw [if_pos h6];rfl))
          ·intro r
           have hri:=r.hi
           have hJ:((r.i:Int)).toNat=r.i:=Int.toNat_natCast _
           have hTW:=zbn (n:=8) (i:=q.i) hTl
           have hlo:=yc (l:=kw key 8 240 q.i) (a:=4*q.i) (i:=r.i) (by omega) (fun k=>(ks key 8 q.i).getD (4*(q.i-8)+k) 0^^^(xz 8 q.i T).getD k 0)
           by_cases h7:r.i<4
           ·refine za ?_
            refine ⟨⟨r.i+1,h7⟩,[0,1,2],by show (4)-(r.i+1)<(4)-r.i;omega,?_⟩
            repeat ((conv=>whnf);refine zb ?_)
            conv=>whnf
            refine zq (congrArg (fun x=>SV.agg [SV.arr8 240 x]) (z8 (by omega) ?hv ?hkk)) ?_
            case hkk=>show q.i*4+r.i=4*q.i+r.i;omega
            case hv=>
              show (ovr _ _ _ _).getD (((q.i:Int)-8).toNat*4+r.i) 0^^^_=_
              rw [yp (by omega) _ (by omega),zmp hkn (by omega),show ((q.i:Int)-8).toNat*4+r.i=4*(q.i-8)+r.i by omega]
              rfl
            exact zt
           ·have e7:r.i=4:=by omega
            rw [e7,zo2 hkn (by omega) hnx]
            refine za ?_
            refine ⟨⟨q.i+1,h4⟩,[0,1],by show (60)-(q.i+1)<(60)-q.i;omega,?_⟩
            repeat ((conv=>whnf);refine zb ?_)
            conv=>whnf
            exact zh (congrArg SV.u8 (by show (tw (rc ((q.i-1)/ 8)))=rc ((q.i+1-1)/ 8);rw [Nat.add_sub_cancel,zl8 (by omega) (by omega) h6]))
         ·by_cases h9:q.i%8=4
          ·refine za ?_
           rw [tT]
           refine za ?_
           refine zp (Ix (4)) (fun k=>⟨[(0,.str key),(2,.nilptr),(3,.bool false),(4,.ptr 0 0 0 []),(5,.int 8),(6,.sl 1 0 0 [] 60 60),(7,.u8 (rc ((q.i-1)/ 8))),(32,.int 60),(33,.int q.i),(8,.int q.i),(9,.ptr 2 0 0 []),(98,.int k.i)],[.mk 216 [.arr8 256 box,.nilsl],.mk 148 [.arr8 240 (kw key 8 240 q.i)],.mk 148 [.arr8 4 (ovr T 0 (fun j=>box.getD (T.getD j 0).toNat 0) k.i)]]⟩) (fun k=>(4)-k.i) ⟨0,Nat.zero_le _⟩ [0,1,2] ?_ ?_
           ·exact zt
           ·intro k
            have hki:=k.hi
            have hKK:((k.i:Int)).toNat=k.i:=Int.toNat_natCast _
            have hlo:=yc (l:=T) (a:=0) (i:=k.i) (by omega) (fun j=>box.getD (T.getD j 0).toNat 0)
            by_cases h10:k.i<4
            ·repeat ((conv=>whnf);first|refine zu ?_|refine zi ?_|refine zj ?_|refine zb ?_|refine zw (by first|exact zdb _) ?_|refine zo (by first|exact zdb _) ?_|refine zn (by first|exact zdb _) ?_)
             conv=>whnf
             refine ⟨⟨k.i+1,h10⟩,[0,1,2],by show (4)-(k.i+1)<(4)-k.i;omega,?_⟩
             repeat ((conv=>whnf);refine zb ?_)
             conv=>whnf
             refine zq (congrArg (fun x=>SV.agg [SV.arr8 4 x]) (z8 (by omega) ?hv ?hkk)) ?_
             case hkk=>show k.i=0+k.i;omega
             case hv=>
               show box.getD (UInt8.toNat ((ovr _ _ _ _).getD k.i 0)) 0=box.getD (T.getD k.i 0).toNat 0
               rw [yp (by omega) _ (by omega)]
             exact zt
            ·have e10:k.i=4:=by omega
             rw [e10]
             refine za ?_
             refine zp (Ix (4)) (fun r=>⟨[(0,.str key),(2,.nilptr),(3,.bool false),(4,.ptr 0 0 0 []),(5,.int 8),(6,.sl 1 0 0 [] 60 60),(7,.u8 (rc ((q.i-1)/ 8))),(32,.int 60),(33,.int q.i),(8,.int q.i),(9,.ptr 2 0 0 []),(112,.int r.i)],[.mk 216 [.arr8 256 box,.nilsl],.mk 148 [.arr8 240 (ovr (kw key 8 240 q.i) (4*q.i) (fun k=>(ks key 8 q.i).getD (4*(q.i-8)+k) 0^^^(xz 8 q.i T).getD k 0) r.i)],.mk 148 [.arr8 4 (xz 8 q.i T)]]⟩) (fun r=>(4)-r.i) ⟨0,Nat.zero_le _⟩ [0,1,2] ?_ ?_
             ·repeat ((conv=>whnf);refine zb ?_)
              conv=>whnf
              refine zq (congrArg (fun x=>SV.agg [SV.arr8 240 x]) (zab _ _ _).symm) ?_
              repeat ((conv=>whnf);refine zb ?_)
              conv=>whnf
              exact zh (congrArg (fun x=>SV.agg [SV.arr8 4 x]) (by unfold xz;rw [if_neg h6,if_pos ⟨rfl,h9⟩];exact yy hTl _))
             ·intro r
              have hri:=r.hi
              have hJ:((r.i:Int)).toNat=r.i:=Int.toNat_natCast _
              have hTW:=zbn (n:=8) (i:=q.i) hTl
              have hlo:=yc (l:=kw key 8 240 q.i) (a:=4*q.i) (i:=r.i) (by omega) (fun k=>(ks key 8 q.i).getD (4*(q.i-8)+k) 0^^^(xz 8 q.i T).getD k 0)
              by_cases h7:r.i<4
              ·refine za ?_
               refine ⟨⟨r.i+1,h7⟩,[0,1,2],by show (4)-(r.i+1)<(4)-r.i;omega,?_⟩
               repeat ((conv=>whnf);refine zb ?_)
               conv=>whnf
               refine zq (congrArg (fun x=>SV.agg [SV.arr8 240 x]) (z8 (by omega) ?hv ?hkk)) ?_
               case hkk=>show q.i*4+r.i=4*q.i+r.i;omega
               case hv=>
                 show (ovr _ _ _ _).getD (((q.i:Int)-8).toNat*4+r.i) 0^^^_=_
                 rw [yp (by omega) _ (by omega),zmp hkn (by omega),show ((q.i:Int)-8).toNat*4+r.i=4*(q.i-8)+r.i by omega]
                 rfl
               exact zt
              ·have e7:r.i=4:=by omega
               rw [e7,zo2 hkn (by omega) hnx]
               refine za ?_
               refine ⟨⟨q.i+1,h4⟩,[0,1],by show (60)-(q.i+1)<(60)-q.i;omega,?_⟩
               repeat ((conv=>whnf);refine zb ?_)
               conv=>whnf
               exact zh (congrArg SV.u8 (by show (rc ((q.i-1)/ 8))=rc ((q.i+1-1)/ 8);rw [Nat.add_sub_cancel,zh9 (by omega) h6]))
          ·refine za ?_
           rw [tT]
           refine zp (Ix (4)) (fun r=>⟨[(0,.str key),(2,.nilptr),(3,.bool false),(4,.ptr 0 0 0 []),(5,.int 8),(6,.sl 1 0 0 [] 60 60),(7,.u8 (rc ((q.i-1)/ 8))),(32,.int 60),(33,.int q.i),(8,.int q.i),(9,.ptr 2 0 0 []),(112,.int r.i)],[.mk 216 [.arr8 256 box,.nilsl],.mk 148 [.arr8 240 (ovr (kw key 8 240 q.i) (4*q.i) (fun k=>(ks key 8 q.i).getD (4*(q.i-8)+k) 0^^^(xz 8 q.i T).getD k 0) r.i)],.mk 148 [.arr8 4 (xz 8 q.i T)]]⟩) (fun r=>(4)-r.i) ⟨0,Nat.zero_le _⟩ [0,1,2] ?_ ?_
           ·repeat ((conv=>whnf);refine zb ?_)
            conv=>whnf
            refine zq (congrArg (fun x=>SV.agg [SV.arr8 240 x]) (zab _ _ _).symm) ?_
            repeat ((conv=>whnf);refine zb ?_)
            conv=>whnf
            exact zh (congrArg (fun x=>SV.agg [SV.arr8 4 x]) (by unfold xz;rw [if_neg h6,if_neg (fun h=>h9 h.2)]))
           ·intro r
            have hri:=r.hi
            have hJ:((r.i:Int)).toNat=r.i:=Int.toNat_natCast _
            have hTW:=zbn (n:=8) (i:=q.i) hTl
            have hlo:=yc (l:=kw key 8 240 q.i) (a:=4*q.i) (i:=r.i) (by omega) (fun k=>(ks key 8 q.i).getD (4*(q.i-8)+k) 0^^^(xz 8 q.i T).getD k 0)
            by_cases h7:r.i<4
            ·refine za ?_
             refine ⟨⟨r.i+1,h7⟩,[0,1,2],by show (4)-(r.i+1)<(4)-r.i;omega,?_⟩
             repeat ((conv=>whnf);refine zb ?_)
             conv=>whnf
             refine zq (congrArg (fun x=>SV.agg [SV.arr8 240 x]) (z8 (by omega) ?hv ?hkk)) ?_
             case hkk=>show q.i*4+r.i=4*q.i+r.i;omega
             case hv=>
               show (ovr _ _ _ _).getD (((q.i:Int)-8).toNat*4+r.i) 0^^^_=_
               rw [yp (by omega) _ (by omega),zmp hkn (by omega),show ((q.i:Int)-8).toNat*4+r.i=4*(q.i-8)+r.i by omega]
               rfl
             exact zt
            ·have e7:r.i=4:=by omega
             rw [e7,zo2 hkn (by omega) hnx]
             refine za ?_
             refine ⟨⟨q.i+1,h4⟩,[0,1],by show (60)-(q.i+1)<(60)-q.i;omega,?_⟩
             repeat ((conv=>whnf);refine zb ?_)
             conv=>whnf
             exact zh (congrArg SV.u8 (by show (rc ((q.i-1)/ 8))=rc ((q.i+1-1)/ 8);rw [Nat.add_sub_cancel,zh9 (by omega) h6]))
       ·have e4:q.i=60:=by omega
        rw [e4,z35 (by rfl)]
        have hW:=za3 hkn 60
        generalize ks key 8 60=W at*
        refine za ?_
        refine zp (Ix (60)) (fun u=>⟨[(0,.str key),(2,.nilptr),(3,.bool false),(4,.ptr 0 0 0 []),(5,.int 8),(6,.sl 1 0 0 [] 60 60),(141,.int 60),(142,.int u.i)],[.mk 216 [.arr8 256 box,.sl 2 0 0 [] 15 15],.mk 148 [.arr8 240 W],.mk 168 [.arr8 240 (kc W u.i)]]⟩) (fun u=>(60)-u.i) ⟨0,Nat.zero_le _⟩ [0,1,2] ?_ ?_
        ·repeat ((conv=>whnf);refine zb ?_)
         conv=>whnf
         exact zh (congrArg (fun x=>SV.agg [SV.arr8 240 x]) (by rw [zy1,hW];rfl))
        ·intro u
         have hui:=u.hi
         have hlk:=z63 (W:=W) (i:=u.i) (by omega)
         have hU:((u.i:Int)).toNat=u.i:=Int.toNat_natCast _
         have hd:(u.i:Int).tdiv 4=((u.i/ 4:Nat):Int):=by rw [Int.tdiv_eq_ediv_of_nonneg (by omega)];omega
         have hm:(u.i:Int).tmod 4=((u.i%4:Nat):Int):=by rw [Int.tmod_eq_emod_of_nonneg (by omega)];omega
         have hpd:(4:Int)≠0∧yb ((u.i:Int).tdiv 4):=⟨by decide,by unfold yb;omega⟩
         by_cases h8:u.i<60
         ·have hs:slO 16 (4*(u.i:Int).tmod 4).toNat=4*(u.i%4):=by rw [xt (by omega)];omega
          have hv4:(List.take 4 (List.drop (off (ye [] ((u.i:Int)).toNat zan.sz)) W))=(W.drop (4*u.i)).take 4:=by
            show List.take 4 (List.drop (((u.i:Int)).toNat*4) W)=_
            rw [hU,Nat.mul_comm]
          have hv5:((W.drop (4*u.i)).take 4).length=4:=by rw [List.length_take,List.length_drop];omega
          refine za ?_
          rw [hs,hv4,hv5,Nat.min_eq_left (show 4≤16-(4*(u.i:Int).tmod 4).toNat by omega)]
          conv=>whnf
          refine ⟨⟨u.i+1,h8⟩,[0,1,2],by show (60)-(u.i+1)<(60)-u.i;omega,?_⟩
          repeat ((conv=>whnf);refine zb ?_)
          conv=>whnf
          refine zq (congrArg (fun x=>SV.agg [SV.arr8 240 x]) (zpy (by omega) ?hv ?hkk)) ?_
          case hkk=>show ((u.i:Int).tdiv 4).toNat*16+4*(u.i%4)=4*u.i;omega
          case hv=>exact List.take_of_length_le (by omega)
          exact zt
         ·have e8:u.i=60:=by omega
          rw [e8,z5w (by omega)]
          refine za ?_
          exact ze [0,2] h
     ·have h:=hn (decide_eq_false (fun h=>h.elim hk hk2))
      refine za ?_
      exact ze [] h
   ·exact h.elim
end Go.Sym.Z

namespace Go.Sym.Z
open Go Go.Proofs.Tryz Go.Sym.Lp Go.Sym.Aes
set_option maxRecDepth 100000
attribute [local irreducible] box tw xg zgb
def ye8:List (Nat×List PStep):= [(4,[⟨0,[]⟩,⟨1,[]⟩,⟨2,[]⟩,⟨3,[0,1,2]⟩,⟨4,[0,1,2]⟩,⟨5,[0,1,2]⟩,⟨6,[0,1,2]⟩,⟨7,[0,1,2,3,4,5,6]⟩,⟨8,[0,1,2,7]⟩,⟨9,[0,1,2]⟩,⟨10,[0,1,2]⟩,⟨11,[]⟩,⟨12,[]⟩,⟨13,[]⟩]),(13,[⟨0,[]⟩,⟨1,[0]⟩,⟨2,[0,1]⟩,⟨3,[0,1,2]⟩,⟨4,[0,1,2]⟩,⟨5,[0,1,2]⟩,⟨6,[0,1]⟩,⟨7,[0,1]⟩,⟨8,[0,1]⟩,⟨9,[0,1]⟩,⟨10,[0,2,3,4,5,6,7,8,9]⟩,⟨11,[0,2,3,4,5,6,7,8,9]⟩,⟨12,[0]⟩,⟨13,[0]⟩,⟨14,[]⟩,⟨15,[]⟩]),(19,[⟨0,[]⟩,⟨1,[]⟩,⟨2,[]⟩,⟨3,[0,1,2]⟩,⟨4,[0,1,2]⟩,⟨5,[0,1,2]⟩,⟨6,[0,1,2]⟩,⟨7,[0,1,2,3,4,5,6]⟩,⟨8,[0,1,2,3,4,5,6]⟩,⟨9,[0,1,2,3,4,5,6]⟩,⟨10,[0,1,2,3,4,5,6]⟩,⟨11,[0,1,2,3,4,5,6,7,8,9,10]⟩,⟨12,[0,1,2,3,4,5,6,7,8,9,10]⟩,⟨13,[0,1,2,3,4,5,6,7,8,9,10]⟩,⟨14,[0,1,2,3,4,5,6,7,8,9,10]⟩,⟨15,[3,4,5,6,7,8,9,10,11,12,13,14]⟩,⟨16,[7,8,9,10,11,12,13,14]⟩,⟨17,[11,12,13,14]⟩,⟨18,[]⟩]),(21,[⟨0,[]⟩,⟨1,[]⟩,⟨2,[]⟩,⟨3,[0,1,2]⟩,⟨4,[0,1,2,3]⟩,⟨5,[0,1,2,3,4]⟩,⟨6,[0,1,2,3]⟩,⟨7,[0,1,2,3]⟩,⟨8,[0,1,2]⟩,⟨9,[]⟩,⟨10,[]⟩,⟨11,[]⟩]),(22,[⟨0,[]⟩,⟨1,[]⟩,⟨2,[]⟩,⟨3,[]⟩,⟨4,[0,1,2,3]⟩,⟨5,[0,1,2,3,4]⟩,⟨6,[0,1,2,3,4,5]⟩,⟨7,[0,1,2,3,4]⟩,⟨8,[0,1,2,3,4]⟩,⟨9,[0,1,2,3]⟩,⟨10,[]⟩,⟨11,[]⟩,⟨12,[]⟩]),(23,[⟨0,[]⟩,⟨1,[]⟩,⟨2,[]⟩,⟨3,[]⟩,⟨4,[0,1,2,3]⟩,⟨5,[0,1,2,3,4]⟩,⟨6,[0,1,2,3,4,5]⟩,⟨7,[0,1,2,3,4]⟩,⟨8,[0,1,2,3,4]⟩,⟨9,[0,1,2,3]⟩,⟨10,[]⟩,⟨11,[]⟩,⟨12,[]⟩]),(24,[⟨0,[]⟩,⟨1,[]⟩,⟨2,[]⟩,⟨3,[]⟩,⟨4,[0,1,2,3]⟩,⟨5,[0,1,2,3,4]⟩,⟨6,[0,1,2,3,4,5]⟩,⟨7,[0,1,2,3,4]⟩,⟨8,[0,1,2,3,4]⟩,⟨9,[0,1,2,3]⟩,⟨10,[]⟩,⟨11,[]⟩,⟨12,[]⟩]),(28,[⟨0,[]⟩,⟨1,[0]⟩,⟨2,[0]⟩,⟨3,[0]⟩,⟨4,[0,1,2,3]⟩,⟨5,[0,1,2,3]⟩,⟨6,[0,1,2,3]⟩,⟨7,[0,1,2,3]⟩,⟨8,[0,1,2,3,4,5,6,7]⟩,⟨9,[0,1,2,3,4,5,6,7,8]⟩,⟨10,[0,1,2,3,9]⟩,⟨11,[0,1,2,3]⟩,⟨12,[0,1,2,3]⟩,⟨13,[0]⟩,⟨14,[]⟩,⟨15,[]⟩])]
def zpa:Spec:=fun args hp K=>match args,hp with
  | [.ptr 0 0 0 [],.arr8 16 b],[.mk t0 [.arr8 256 tb,.sl 1 0 0 [] R c],.mk t1 [.arr8 N ks]]=>Pre (tb=box∧b.length=16∧1≤R∧R≤100∧16*R≤ks.length)
      (K (.arr8 16 (enc ks R b)) [.mk t0 [.arr8 256 tb,.sl 1 0 0 [] R c],.mk t1 [.arr8 N ks]])
  |_,_=>False
set_option maxHeartbeats 8000000 in
theorem zli:zm prog 135 zpa:=by
  refine zk zc5 (zc zru zg) rfl func135 rfl call135 (D:=ye8) ?_ ?_
  ·intro args hp K h
   unfold zpa at h
   split at h
   ·exact Nat.le_of_ble_eq_true rfl
   ·exact h.elim
  ·intro args hp K h
   unfold zpa at h
   split at h
   ·rename_i b t0 tb R c t1 N ks
    obtain ⟨⟨rfl,hb,hR,hR2,hN⟩,h⟩:=zl h
    have hB:=zmj
    refine za ?_
    refine zp (Ix (16)) (fun q=>⟨[(0,.ptr 0 0 0 []),(3,.ptr 2 0 0 []),(4,.ptr 3 0 0 []),(16,.int q.i)],[.mk t0 [.arr8 256 box,.sl 1 0 0 [] R c],.mk t1 [.arr8 N ks],.mk 168 [.arr8 16 (ovr b 0 (fun j=>b.getD j 0^^^ks.getD (16*0+j) 0) q.i)],.mk 168 [.arr8 16 (List.replicate 16 0)]]⟩) (fun q=>(16)-q.i) ⟨0,Nat.zero_le _⟩ [0,1,2,3] ?_ ?_
    ·exact zt
    ·intro q
     have hi:=q.hi
     have hI:((q.i:Int)).toNat=q.i:=Int.toNat_natCast _
     have hlo:=yc (l:=b) (a:=0) (i:=q.i) (by omega) (fun j=>b.getD j 0^^^ks.getD (16*0+j) 0)
     by_cases h4:q.i<16
     ·refine za ?_
      refine ⟨⟨q.i+1,h4⟩,[0,1,2,3],by show (16)-(q.i+1)<(16)-q.i;omega,?_⟩
      repeat ((conv=>whnf);refine zb ?_)
      conv=>whnf
      refine zq (congrArg (fun x=>SV.agg [SV.arr8 16 x]) (z8 (by omega) ?hv ?hkk)) ?_
      case hkk=>show q.i=0+q.i;omega
      case hv=>
        show (ovr _ _ _ _).getD q.i 0^^^ks.getD (0*16+q.i) 0=_
        rw [yp (by omega) _ (by omega),Nat.zero_mul]
      exact zt
     ·have e4:q.i=16:=by omega
      rw [e4,yy hb,show (List.range 16).map (fun j=>b.getD j 0^^^ks.getD (16*0+j) 0)=zbm ks R b 0 from rfl]
      clear hlo hI hi h4 e4 q
      refine za ?_
      refine zp (Ix ((R-1))) (fun q=>⟨[(0,.ptr 0 0 0 []),(3,.ptr 2 0 0 []),(4,.ptr 3 0 0 []),(6,.int ((q.i:Int)+1))],[.mk t0 [.arr8 256 box,.sl 1 0 0 [] R c],.mk t1 [.arr8 N ks],.mk 168 [.arr8 16 (zbm ks R b q.i)],.mk 168 [.arr8 16 (List.replicate 16 0)]]⟩) (fun q=>((R-1))-q.i) ⟨0,Nat.zero_le _⟩ [0,1,2,3] ?_ ?_
      ·exact zt
      ·intro q
       have hi:=q.hi
       have hX:=zh3 ks R b q.i
       by_cases h4:q.i<R-1
       ·refine za ?_
        generalize hXe:zbm ks R b q.i=X at*
        refine zp (Ix (16)) (fun r=>⟨[(0,.ptr 0 0 0 []),(3,.ptr 2 0 0 []),(4,.ptr 3 0 0 []),(6,.int ((q.i:Int)+1)),(7,.ptr 4 0 0 []),(42,.int r.i)],[.mk t0 [.arr8 256 box,.sl 1 0 0 [] R c],.mk t1 [.arr8 N ks],.mk 168 [.arr8 16 X],.mk 168 [.arr8 16 (List.replicate 16 0)],.mk 168 [.arr8 16 (ovr (List.replicate 16 0) 0 (fun i=>box.getD (X.getD ((i+4*(i%4))%16) 0).toNat 0) r.i)]]⟩) (fun r=>(16)-r.i) ⟨0,Nat.zero_le _⟩ [0,1,2,3,4] ?_ ?_
        ·exact zt
        ·intro r
         have hri:=r.hi
         have hJ:((r.i:Int)).toNat=r.i:=Int.toNat_natCast _
         have hm4:(r.i:Int).tmod 4=((r.i%4:Nat):Int):=by rw [Int.tmod_eq_emod_of_nonneg (by omega)];omega
         have hm16:((r.i:Int)+4*(r.i:Int).tmod 4).tmod 16=(((r.i+4*(r.i%4))%16:Nat):Int):=by rw [hm4,Int.tmod_eq_emod_of_nonneg (by omega)];omega
         have hlo:=yc (l:=List.replicate 16 (0:UInt8)) (a:=0) (i:=r.i) (by rw [List.length_replicate];omega) (fun i=>box.getD (X.getD ((i+4*(i%4))%16) 0).toNat 0)
         rw [List.length_replicate] at hlo
         by_cases h5:r.i<16
         ·repeat ((conv=>whnf);first|refine zu ?_|refine zi ?_|refine zj ?_|refine zb ?_|refine zw (by first|exact zdb _) ?_|refine zo (by first|exact zdb _) ?_|refine zn (by first|exact zdb _) ?_)
          conv=>whnf
          refine ⟨⟨r.i+1,h5⟩,[0,1,2,3,4],by show (16)-(r.i+1)<(16)-r.i;omega,?_⟩
          repeat ((conv=>whnf);refine zb ?_)
          conv=>whnf
          refine zq (congrArg (fun x=>SV.agg [SV.arr8 16 x]) (z8 (by rw [List.length_replicate];omega) ?hv ?hkk)) ?_
          case hkk=>show r.i=0+r.i;omega
          case hv=>
            show box.getD (UInt8.toNat (X.getD (((r.i:Int)+4*(r.i:Int).tmod 4).tmod 16).toNat 0)) 0=_
            rw [hm16,Int.toNat_natCast]
          exact zt
         ·have e5:r.i=16:=by omega
          rw [e5,yy (List.length_replicate),show (List.range 16).map (fun i=>box.getD (X.getD ((i+4*(i%4))%16) 0).toNat 0)=xg X by unfold xg;rfl]
          clear hm4 hm16 hlo hJ hri h5 e5 r
          have hS:=zj8 X
          have hRR:((R:Int)-1:Int)=((R-1:Nat):Int):=by omega
          by_cases h6:q.i+1<R-1
          ·refine za ?_
           refine zp (Ix (4)) (fun m=>⟨[(0,.ptr 0 0 0 []),(3,.ptr 2 0 0 []),(4,.ptr 3 0 0 []),(6,.int ((q.i:Int)+1)),(7,.ptr 4 0 0 []),(9,.int (4*(m.i:Int)))],[.mk t0 [.arr8 256 box,.sl 1 0 0 [] R c],.mk t1 [.arr8 N ks],.mk 168 [.arr8 16 X],.mk 168 [.arr8 16 (List.replicate 16 0)],.mk 168 [.arr8 16 (ovr (xg X) 0 (zi3 (xg X)) (4*m.i))]]⟩) (fun m=>(4)-m.i) ⟨0,Nat.zero_le _⟩ [0,1,2,3,4] ?_ ?_
           ·exact zt
           ·intro m
            have hmi:=m.hi
            have hlm:=yc (l:=xg X) (a:=0) (i:=4*m.i) (by omega) (zi3 (xg X))
            by_cases h8:m.i<4
            ·refine za ?_
             refine ⟨⟨m.i+1,h8⟩,[0,1,2,3,4],by show (4)-(m.i+1)<(4)-m.i;omega,?_⟩
             repeat ((conv=>whnf);refine zb ?_)
             conv=>whnf
             exact zh (congrArg (fun x=>SV.agg [SV.arr8 16 x]) (z2d (T:=xg X) (c:=m.i) (by omega) rfl rfl rfl rfl rfl rfl))
            ·have e8:m.i=4:=by omega
             rw [e8,show ovr (xg X) 0 (zi3 (xg X)) (4*4)=zgb (xg X) by unfold zgb;exact yy hS _]
             clear hlm hmi h8 e8 m
             refine za ?_
             refine zp (Ix (16)) (fun k=>⟨[(0,.ptr 0 0 0 []),(3,.ptr 2 0 0 []),(4,.ptr 3 0 0 []),(6,.int ((q.i:Int)+1)),(7,.ptr 4 0 0 []),(142,.int k.i)],[.mk t0 [.arr8 256 box,.sl 1 0 0 [] R c],.mk t1 [.arr8 N ks],.mk 168 [.arr8 16 (ovr X 0 (fun j=>(zgb (xg X)).getD j 0^^^ks.getD (16*(q.i+1)+j) 0) k.i)],.mk 168 [.arr8 16 (List.replicate 16 0)],.mk 168 [.arr8 16 (zgb (xg X))]]⟩) (fun k=>(16)-k.i) ⟨0,Nat.zero_le _⟩ [0,1,2,3,4] ?_ ?_
             ·exact zt
             ·intro k
              have hki:=k.hi
              have hK:((k.i:Int)).toNat=k.i:=Int.toNat_natCast _
              have hQ:((q.i:Int)+1).toNat=q.i+1:=by omega
              have hlo:=yc (l:=X) (a:=0) (i:=k.i) (by omega) (fun j=>(zgb (xg X)).getD j 0^^^ks.getD (16*(q.i+1)+j) 0)
              have hls:(zgb (xg X)).length=16:=zt7 _
              by_cases h7:k.i<16
              ·refine za ?_
               refine ⟨⟨k.i+1,h7⟩,[0,1,2,3,4],by show (16)-(k.i+1)<(16)-k.i;omega,?_⟩
               repeat ((conv=>whnf);refine zb ?_)
               conv=>whnf
               refine zq (congrArg (fun x=>SV.agg [SV.arr8 16 x]) (z8 (by omega) ?hv ?hkk)) ?_
               case hkk=>show k.i=0+k.i;omega
               case hv=>
                 show List.getD _ k.i 0^^^ks.getD (((q.i:Int)+1).toNat*16+k.i) 0=_
                 rw [hQ,Nat.mul_comm]
               exact zt
              ·have e7:k.i=16:=by omega
               have hnx:ovr X 0 (fun j=>(zgb (xg X)).getD j 0^^^ks.getD (16*(q.i+1)+j) 0) 16=zbm ks R b (q.i+1):=by
                 rw [yy hX]
                 simp only [zbm]
                 unfold rnd zph
                 rw [hXe,if_pos h6]
               rw [e7,hnx]
               refine za ?_
               refine ⟨⟨q.i+1,h4⟩,[0,1,2,3],by show ((R-1))-(q.i+1)<((R-1))-q.i;omega,?_⟩
               exact zt
          ·refine za ?_
           refine zp (Ix (16)) (fun k=>⟨[(0,.ptr 0 0 0 []),(3,.ptr 2 0 0 []),(4,.ptr 3 0 0 []),(6,.int ((q.i:Int)+1)),(7,.ptr 4 0 0 []),(142,.int k.i)],[.mk t0 [.arr8 256 box,.sl 1 0 0 [] R c],.mk t1 [.arr8 N ks],.mk 168 [.arr8 16 (ovr X 0 (fun j=>(xg X).getD j 0^^^ks.getD (16*(q.i+1)+j) 0) k.i)],.mk 168 [.arr8 16 (List.replicate 16 0)],.mk 168 [.arr8 16 (xg X)]]⟩) (fun k=>(16)-k.i) ⟨0,Nat.zero_le _⟩ [0,1,2,3,4] ?_ ?_
           ·exact zt
           ·intro k
            have hki:=k.hi
            have hK:((k.i:Int)).toNat=k.i:=Int.toNat_natCast _
            have hQ:((q.i:Int)+1).toNat=q.i+1:=by omega
            have hlo:=yc (l:=X) (a:=0) (i:=k.i) (by omega) (fun j=>(xg X).getD j 0^^^ks.getD (16*(q.i+1)+j) 0)
            have hls:(xg X).length=16:=zj8 X
            by_cases h7:k.i<16
            ·refine za ?_
             refine ⟨⟨k.i+1,h7⟩,[0,1,2,3,4],by show (16)-(k.i+1)<(16)-k.i;omega,?_⟩
             repeat ((conv=>whnf);refine zb ?_)
             conv=>whnf
             refine zq (congrArg (fun x=>SV.agg [SV.arr8 16 x]) (z8 (by omega) ?hv ?hkk)) ?_
             case hkk=>show k.i=0+k.i;omega
             case hv=>
               show List.getD _ k.i 0^^^ks.getD (((q.i:Int)+1).toNat*16+k.i) 0=_
               rw [hQ,Nat.mul_comm]
             exact zt
            ·have e7:k.i=16:=by omega
             have hnx:ovr X 0 (fun j=>(xg X).getD j 0^^^ks.getD (16*(q.i+1)+j) 0) 16=zbm ks R b (q.i+1):=by
               rw [yy hX]
               simp only [zbm]
               unfold rnd zph
               rw [hXe,if_neg h6]
             rw [e7,hnx]
             refine za ?_
             refine ⟨⟨q.i+1,h4⟩,[0,1,2,3],by show ((R-1))-(q.i+1)<((R-1))-q.i;omega,?_⟩
             exact zt
       ·have e4:q.i=R-1:=by omega
        rw [e4]
        refine za ?_
        exact ze [0,1] h
   ·exact h.elim
end Go.Sym.Z

namespace Go.Sym.Gcm
open Go.Sym Go.Sym.Lp Go.Sym.Aes
def gW (key:List UInt8):List UInt8:=ks key (key.length/ 4) (4*(key.length/ 4+7))
def gR (key:List UInt8):Nat:=key.length/ 4+7
theorem zss {key:List UInt8} (h:key.length=16∨key.length=32):(gW key).length=16*gR key:=by
  unfold gW gR
  rw [za3 (by omega)]
  omega
def gH (W:List UInt8) (R:Nat):El:=ld (enc W R (List.replicate 16 0))
def kb (W:List UInt8) (R:Nat) (nonce:List UInt8) (n:UInt32):List UInt8:=enc W R (ctr nonce n)
def stG (W:List UInt8) (R:Nat) (nonce:List UInt8) (n:UInt32) (s:List UInt8) (i:Nat):UInt8:=s.getD i 0^^^(kb W R nonce (n+UInt32.ofNat (i/ 16))).getD (i%16) 0
def gst (W:List UInt8) (R:Nat) (nonce:List UInt8) (n:UInt32) (s:List UInt8):List UInt8:=(List.range s.length).map (stG W R nonce n s)
theorem zj4 (W:List UInt8) (R:Nat) (nonce:List UInt8) (n:UInt32) (s:List UInt8):(gst W R nonce n s).length=s.length:=zz _ _
def zi1 (W:List UInt8) (R:Nat) (nonce:List UInt8) (n:UInt32) (l:List UInt8) (k:Nat):List UInt8:=ovr l 0 (stG W R nonce n l) k
theorem zom {W:List UInt8} {R:Nat} {nonce:List UInt8} {n:UInt32} {l:List UInt8} {k:Nat} (h:k≤l.length):(zi1 W R nonce n l k).length=l.length:=yc (by omega) _
theorem z22 {W:List UInt8} {R:Nat} {nonce:List UInt8} {n:UInt32} {l:List UInt8} {k:Nat} (h:k≤l.length):zi1 W R nonce n l k=gst W R nonce n (l.take k)++l.drop k:=by
  unfold zi1 gst ovr
  rw [List.take_zero,List.nil_append,Nat.zero_add,List.length_take,Nat.min_eq_left h]
  congr 1
  apply yi
  intro i hi
  unfold stG
  congr 1
  rw [List.getD_eq_getElem?_getD,List.getD_eq_getElem?_getD,List.getElem?_take_of_lt hi]
theorem u32_add (c:UInt32) (t:Nat):c+UInt32.ofNat t+1=c+UInt32.ofNat (t+1):=by
  rw [UInt32.add_assoc]
  congr 1
  apply UInt32.toNat_inj.1
  rw [UInt32.toNat_add,UInt32.toNat_ofNat',UInt32.toNat_ofNat']
  show (t%4294967296+1)%4294967296=(t+1)%4294967296
  omega
end Go.Sym.Gcm
