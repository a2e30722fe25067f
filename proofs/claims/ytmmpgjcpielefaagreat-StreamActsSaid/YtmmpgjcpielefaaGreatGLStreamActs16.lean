/-
  Contracts of functions of the program, each said of symbolic values, and plain laws; no condition beyond each statement's own.
-/
import Derived.Test.YtmmpgjcpielefaaGreatGLStreamActs14
import Derived.Test.YtmmpgjcpielefaaGreatGLStreamActs15
import Derived.Test.YtmmpgjcpielefaaGreatGLStreamActs2
set_option linter.unusedSimpArgs false
set_option linter.unusedVariables false
namespace Go.Sym.Z
open Go Go.Proofs.Tryz Go.Sym.Lp Go.Sym.Aes
set_option maxRecDepth 100000
attribute [local irreducible] box rc
def ykg:List (Nat×List PStep):= [(11,[⟨0,[]⟩,⟨1,[0]⟩,⟨2,[]⟩,⟨3,[]⟩,⟨4,[0,1,2,3]⟩,⟨5,[0,1,2,3,4]⟩,⟨6,[0,1,2,3,4]⟩,⟨7,[0,1,2,3]⟩,⟨8,[]⟩]),(14,[⟨0,[]⟩,⟨1,[0]⟩,⟨2,[0]⟩,⟨3,[1,2]⟩,⟨4,[1,2]⟩,⟨5,[]⟩,⟨6,[]⟩,⟨7,[0,1,2,3,4,5,6]⟩,⟨8,[]⟩,⟨9,[0,1,2,3,4,5,6,7,8]⟩,⟨10,[0,1,2,3,4,5,6,7,8,9]⟩,⟨11,[0,1,2,3,4,5,6,7,8,9]⟩,⟨12,[0,1,2,3,4,5,6,7,8,10,11]⟩,⟨13,[0,1,2,3,4,5,6,7,8,10,11]⟩,⟨14,[0,1,2,3,4,5,6,7,8]⟩,⟨15,[0,1,2,3,4,5,6,7,8]⟩,⟨16,[0,1,2,3,4,5,6,7,8,9,10,11,12,13,14,15]⟩,⟨17,[0,1,2,3,4,5,6,7,8,9,10,11,12,13,14,15,16]⟩,⟨18,[0,1,2,3,4,5,6,7,8,9,10,11,12,13,14,15,16]⟩,⟨19,[0,1,2,3,4,5,6,7,8,9,10,11,12,13,14,15,17,18]⟩,⟨20,[0,1,2,3,4,5,6,7,8,9,10,11,12,13,14,15,17,18]⟩,⟨21,[0,1,2,3,4,5,6,7,8,9,10,11,12,13,14,15]⟩,⟨22,[0,1,2,3,4,5,6,7,8,9,10,11,12,13,14,15]⟩,⟨23,[0,1,2,3,4,5,6,7,8,9,10,11,12,13,14,15,16,17,18,19,20,21,22]⟩,⟨24,[0,1,2,3,4,5,6,7,8,9,10,11,12,13,14,15,16,17,18,19,20,21,22,23]⟩,⟨25,[0,1,2,3,4,5,6,7,8,9,10,11,12,13,14,15,16,17,18,19,20,21,22,23]⟩,⟨26,[0,1,2,3,4,5,6,7,8,9,10,11,12,13,14,15,16,17,18,19,20,21,22,24,25]⟩,⟨27,[0,1,2,3,4,5,6,7,8,9,10,11,12,13,14,15,16,17,18,19,20,21,22,24,25]⟩,⟨28,[0,1,2,3,4,5,6,7,8,9,10,11,12,13,14,15,16,17,18,19,20,21,22]⟩,⟨29,[0,1,2,3,4,5,6,7,8,9,10,11,12,13,14,15,16,17,18,19,20,21,22]⟩,⟨30,[]⟩,⟨31,[]⟩]),(20,[⟨0,[]⟩,⟨1,[0]⟩,⟨2,[0,1]⟩,⟨3,[0,1]⟩,⟨4,[0,1]⟩,⟨5,[0,2,3,4]⟩,⟨6,[0,2,3,4]⟩,⟨7,[0]⟩,⟨8,[0]⟩,⟨9,[]⟩,⟨10,[]⟩]),(25,[⟨0,[]⟩,⟨1,[0]⟩,⟨2,[0,1]⟩,⟨3,[0,1,2]⟩,⟨4,[0,1,2,3]⟩,⟨5,[0,1,2,3,4]⟩,⟨6,[0,1,2,3]⟩,⟨7,[0,1,2,3,4,5,6]⟩,⟨8,[0,1,2,7]⟩,⟨9,[0,1,2]⟩,⟨10,[0,1,2]⟩,⟨11,[0,1,2,3,4,5,6,7,8,9,10]⟩,⟨12,[0,1,2,3,4,5,6,7,8,9,10]⟩,⟨13,[0,1,2,3,4,5,6,7,8,9,10]⟩,⟨14,[0,1,2]⟩,⟨15,[2,3,4,5,6,7,8,9,10,11,12,13,14]⟩,⟨16,[]⟩,⟨17,[]⟩]),(32,[⟨0,[]⟩,⟨1,[]⟩,⟨2,[]⟩,⟨3,[]⟩,⟨4,[0,1,2,3]⟩,⟨5,[0,1,2,3]⟩,⟨6,[]⟩,⟨7,[0,1,2,3,4,5,6]⟩,⟨8,[0,1,2,3,4,5,6]⟩,⟨9,[0,1,2,3,4,5,6]⟩,⟨10,[]⟩,⟨11,[0,1,2,3,4,5,6,7,8,9,10]⟩,⟨12,[0,1,2,3,4,5,6,7,8,9,10,11]⟩,⟨13,[0,1,2,3,4,5,6,7,8,9,10]⟩,⟨14,[0,1,2,3,4,5,6,7,8,9,10]⟩,⟨15,[]⟩])]
def ztg:Spec:=fun args hp K=>match args,hp with
  | [.str key],[]=>ye (decide (key.length=16∨key.length=32))
      (K (.tup [.ptr 0 0 0 [],.bool true]) [.mk 216 [.arr8 256 box,.sl 1 0 0 [] (key.length/ 4+7) (key.length/ 4+7)],.mk 168 [.arr8 (16*(key.length/ 4+7)) (ks key (key.length/ 4) (4*(key.length/ 4+7)))]])
      (K (.tup [.nilptr,.bool false]) [])
  |_,_=>False
theorem zrb {key:List UInt8} {n N i k:Nat} (hk:key.length=4*n) (h:4*i+4≤N) {v:List UInt8} (hv:v=xl key n i (ks key n i)) (hkk:k=4*i):zx (kw key n N i) k v=kw key n N (i+1):=by
  subst hkk
  have hl:v.length=4:=by rw [hv];exact zcv hk _
  unfold zx
  rw [hl]
  exact z06 hk h hv
theorem zsa {W:List UInt8} {i k:Nat} (h:4*i+4≤W.length) {v:List UInt8} (hv:v=(W.drop (4*i)).take 4) (hkk:k=4*i):zx (kc W i) k v=kc W (i+1):=by
  subst hkk
  have hl:v.length=4:=by rw [hv,List.length_take,List.length_drop];omega
  unfold zx
  rw [hl,hv]
  exact yar h
theorem zqa {key:List UInt8} {n N i:Nat} (hk:key.length=4*n) (h:4*i+4≤N) {g:Nat→UInt8} (hv:(List.range 4).map g=xl key n i (ks key n i)):ovr (kw key n N i) (4*i) g 4=kw key n N (i+1):=z06 hk h hv
set_option maxHeartbeats 8000000 in
theorem z49:zp prog 134 ztg:=by
  refine zm zdk (zd ycj (zd zt6 zi)) rfl func134 rfl call134 (D:=ykg) ?_ ?_
  ·intro args hp K h
   unfold ztg at h
   split at h
   ·exact Nat.le_of_ble_eq_true rfl
   ·exact h.elim
  ·intro args hp K h
   unfold ztg at h
   split at h
   ·rename_i key
    obtain ⟨ht,hn⟩:=z8 h
    by_cases hk:key.length=16
    ·have h:=ht (decide_eq_true (.inl hk))
     have hkn:key.length=4*4:=hk
     rw [hk] at h
     have hq:(key.length:Int).tdiv 4=4:=by rw [hk];rfl
     have hf:ya ((key.length:Int).tdiv 4):=by rw [hq];unfold ya;omega
     have hf2:(4:Int)≠0∧ya ((key.length:Int).tdiv 4):=⟨by decide,hf⟩
     refine za ?_
     rw [hq]
     refine za ?_
     refine zt (Ix (44)) (fun q=>⟨[(0,.str key),(2,.nilptr),(3,.bool false),(4,.ptr 0 0 0 []),(5,.int 4),(6,.sl 1 0 0 [] 44 44),(7,.u8 (rc ((q.i-1)/ 4))),(32,.int 44),(33,.int q.i)],[.mk 216 [.arr8 256 box,.nilsl],.mk 148 [.arr8 176 (kw key 4 176 q.i)]]⟩) (fun q=>(44)-q.i) ⟨0,Nat.zero_le _⟩ [0,1] ?_ ?_
     ·repeat ((conv=>whnf);refine zb ?_)
      conv=>whnf
      exact zo (congrArg SV.u8 (by unfold rc;rfl))
     ·intro q
      have hi:=q.hi
      have hl:=z42 hkn (N:=176) (i:=q.i) (by omega)
      have hI:((q.i:Int)).toNat=q.i:=Int.toNat_natCast _
      by_cases h4:q.i<44
      ·by_cases h5:q.i<4
       ·refine za ?_
        refine ⟨⟨q.i+1,h4⟩,[0,1],by show (44)-(q.i+1)<(44)-q.i;omega,?_⟩
        repeat ((conv=>whnf);refine zb ?_)
        conv=>whnf
        refine zv (congrArg (fun x=>SV.agg [SV.arr8 176 x]) (zrb hkn (by omega) ?hv ?hkk)) ?_
        case hkk=>show q.i*4=4*q.i;omega
        case hv=>
          unfold xl
          rw [if_pos h5,show (4*(q.i:Int)).toNat=4*q.i by omega,List.length_drop,Nat.min_eq_right (by omega)]
        repeat ((conv=>whnf);refine zb ?_)
        conv=>whnf
        exact zo (congrArg SV.u8 (by show rc ((q.i-1)/ 4)=rc ((q.i+1-1)/ 4);rw [zu9 h5,Nat.add_sub_cancel]))
       ·have hm0:((q.i:Int)).tmod 4=((q.i%4:Nat):Int):=by rw [Int.tmod_eq_emod_of_nonneg (by omega)];omega
        obtain ⟨T,hT⟩: ∃T,T=((ks key 4 q.i).drop (4*(q.i-1))).take 4:=⟨_,rfl⟩
        have hTl:T.length=4:=by rw [hT,List.length_take,List.length_drop,zbm hkn];omega
        have tT:List.take zbu.sz (List.drop (off (yb [] ((q.i:Int)-1).toNat zbu.sz)) (kw key 4 176 q.i))=T:=by
          rw [hT,←z7l hkn (N:=176) (by omega)]
          show List.take 4 (List.drop (((q.i:Int)-1).toNat*4) _)=_
          rw [show ((q.i:Int)-1).toNat*4=4*(q.i-1) by omega]
        have hnx:(List.range 4).map (fun k=>(ks key 4 q.i).getD (4*(q.i-4)+k) 0^^^(x4 4 q.i T).getD k 0)=xl key 4 q.i (ks key 4 q.i):=by
          unfold xl;rw [if_neg h5,←hT]
        by_cases h6:q.i%4=0
        ·refine za ?_
         rw [tT]
         repeat ((conv=>whnf);first|refine zu ?_|refine zg ?_|refine zh ?_|refine zb ?_|refine zr (by first|exact zdn _) ?_|refine zj (by first|exact zdn _) ?_|refine zk (by first|exact zdn _) ?_)
         conv=>whnf
         refine zt (Ix (4)) (fun r=>⟨[(0,.str key),(2,.nilptr),(3,.bool false),(4,.ptr 0 0 0 []),(5,.int 4),(6,.sl 1 0 0 [] 44 44),(7,.u8 (tw (rc ((q.i-1)/ 4)))),(32,.int 44),(33,.int q.i),(8,.int q.i),(9,.ptr 2 0 0 []),(112,.int r.i)],[.mk 216 [.arr8 256 box,.nilsl],.mk 148 [.arr8 176 (ovr (kw key 4 176 q.i) (4*q.i) (fun k=>(ks key 4 q.i).getD (4*(q.i-4)+k) 0^^^(x4 4 q.i T).getD k 0) r.i)],.mk 148 [.arr8 4 (x4 4 q.i T)]]⟩) (fun r=>(4)-r.i) ⟨0,Nat.zero_le _⟩ [0,1,2] ?_ ?_
         ·repeat ((conv=>whnf);refine zb ?_)
          conv=>whnf
          refine zv (congrArg (fun x=>SV.agg [SV.arr8 176 x]) (zaj _ _ _).symm) ?_
          repeat ((conv=>whnf);refine zb ?_)
          conv=>whnf
          exact zo (congrArg (fun x=>SV.agg [SV.arr8 4 x]) (by unfold x4;rw [if_pos h6];rfl))
         ·intro r
          have hri:=r.hi
          have hJ:((r.i:Int)).toNat=r.i:=Int.toNat_natCast _
          have hTW:=zby (n:=4) (i:=q.i) hTl
          have hlo:=yg (l:=kw key 4 176 q.i) (a:=4*q.i) (i:=r.i) (by omega) (fun k=>(ks key 4 q.i).getD (4*(q.i-4)+k) 0^^^(x4 4 q.i T).getD k 0)
          by_cases h7:r.i<4
          ·refine za ?_
           refine ⟨⟨r.i+1,h7⟩,[0,1,2],by show (4)-(r.i+1)<(4)-r.i;omega,?_⟩
           repeat ((conv=>whnf);refine zb ?_)
           conv=>whnf
           refine zv (congrArg (fun x=>SV.agg [SV.arr8 176 x]) (z9 (by omega) ?hv ?hkk)) ?_
           case hkk=>show q.i*4+r.i=4*q.i+r.i;omega
           case hv=>
             show (ovr _ _ _ _).getD (((q.i:Int)-4).toNat*4+r.i) 0^^^_=_
             rw [yw (by omega) _ (by omega),znk hkn (by omega),show ((q.i:Int)-4).toNat*4+r.i=4*(q.i-4)+r.i by omega]
             rfl
           exact zn
          ·have e7:r.i=4:=by omega
           rw [e7,zqa hkn (by omega) hnx]
           refine za ?_
           refine ⟨⟨q.i+1,h4⟩,[0,1],by show (44)-(q.i+1)<(44)-q.i;omega,?_⟩
           repeat ((conv=>whnf);refine zb ?_)
           conv=>whnf
           exact zo (congrArg SV.u8 (by show (tw (rc ((q.i-1)/ 4)))=rc ((q.i+1-1)/ 4);rw [Nat.add_sub_cancel,zna (by omega) (by omega) h6]))
        ·refine za ?_
         rw [tT]
         refine zt (Ix (4)) (fun r=>⟨[(0,.str key),(2,.nilptr),(3,.bool false),(4,.ptr 0 0 0 []),(5,.int 4),(6,.sl 1 0 0 [] 44 44),(7,.u8 (rc ((q.i-1)/ 4))),(32,.int 44),(33,.int q.i),(8,.int q.i),(9,.ptr 2 0 0 []),(112,.int r.i)],[.mk 216 [.arr8 256 box,.nilsl],.mk 148 [.arr8 176 (ovr (kw key 4 176 q.i) (4*q.i) (fun k=>(ks key 4 q.i).getD (4*(q.i-4)+k) 0^^^(x4 4 q.i T).getD k 0) r.i)],.mk 148 [.arr8 4 (x4 4 q.i T)]]⟩) (fun r=>(4)-r.i) ⟨0,Nat.zero_le _⟩ [0,1,2] ?_ ?_
         ·repeat ((conv=>whnf);refine zb ?_)
          conv=>whnf
          refine zv (congrArg (fun x=>SV.agg [SV.arr8 176 x]) (zaj _ _ _).symm) ?_
          repeat ((conv=>whnf);refine zb ?_)
          conv=>whnf
          exact zo (congrArg (fun x=>SV.agg [SV.arr8 4 x]) (by unfold x4;rw [if_neg h6,if_neg (fun h=>absurd h.1 (by decide))]))
         ·intro r
          have hri:=r.hi
          have hJ:((r.i:Int)).toNat=r.i:=Int.toNat_natCast _
          have hTW:=zby (n:=4) (i:=q.i) hTl
          have hlo:=yg (l:=kw key 4 176 q.i) (a:=4*q.i) (i:=r.i) (by omega) (fun k=>(ks key 4 q.i).getD (4*(q.i-4)+k) 0^^^(x4 4 q.i T).getD k 0)
          by_cases h7:r.i<4
          ·refine za ?_
           refine ⟨⟨r.i+1,h7⟩,[0,1,2],by show (4)-(r.i+1)<(4)-r.i;omega,?_⟩
           repeat ((conv=>whnf);refine zb ?_)
           conv=>whnf
           refine zv (congrArg (fun x=>SV.agg [SV.arr8 176 x]) (z9 (by omega) ?hv ?hkk)) ?_
           case hkk=>show q.i*4+r.i=4*q.i+r.i;omega
           case hv=>
             show (ovr _ _ _ _).getD (((q.i:Int)-4).toNat*4+r.i) 0^^^_=_
             rw [yw (by omega) _ (by omega),znk hkn (by omega),show ((q.i:Int)-4).toNat*4+r.i=4*(q.i-4)+r.i by omega]
             rfl
           exact zn
          ·have e7:r.i=4:=by omega
           rw [e7,zqa hkn (by omega) hnx]
           refine za ?_
           refine ⟨⟨q.i+1,h4⟩,[0,1],by show (44)-(q.i+1)<(44)-q.i;omega,?_⟩
           repeat ((conv=>whnf);refine zb ?_)
           conv=>whnf
           exact zo (congrArg SV.u8 (by show (rc ((q.i-1)/ 4))=rc ((q.i+1-1)/ 4);rw [Nat.add_sub_cancel,zhs (by omega) h6]))
      ·have e4:q.i=44:=by omega
       rw [e4,z9p (by rfl)]
       have hW:=zbm hkn 44
       generalize ks key 4 44=W at*
       refine za ?_
       refine zt (Ix (44)) (fun u=>⟨[(0,.str key),(2,.nilptr),(3,.bool false),(4,.ptr 0 0 0 []),(5,.int 4),(6,.sl 1 0 0 [] 44 44),(141,.int 44),(142,.int u.i)],[.mk 216 [.arr8 256 box,.sl 2 0 0 [] 11 11],.mk 148 [.arr8 176 W],.mk 168 [.arr8 176 (kc W u.i)]]⟩) (fun u=>(44)-u.i) ⟨0,Nat.zero_le _⟩ [0,1,2] ?_ ?_
       ·repeat ((conv=>whnf);refine zb ?_)
        conv=>whnf
        exact zo (congrArg (fun x=>SV.agg [SV.arr8 176 x]) (by rw [zz3,hW];rfl))
       ·intro u
        have hui:=u.hi
        have hlk:=z82 (W:=W) (i:=u.i) (by omega)
        have hU:((u.i:Int)).toNat=u.i:=Int.toNat_natCast _
        have hd:(u.i:Int).tdiv 4=((u.i/ 4:Nat):Int):=by rw [Int.tdiv_eq_ediv_of_nonneg (by omega)];omega
        have hm:(u.i:Int).tmod 4=((u.i%4:Nat):Int):=by rw [Int.tmod_eq_emod_of_nonneg (by omega)];omega
        have hpd:(4:Int)≠0∧ya ((u.i:Int).tdiv 4):=⟨by decide,by unfold ya;omega⟩
        by_cases h8:u.i<44
        ·have hs:slO 16 (4*(u.i:Int).tmod 4).toNat=4*(u.i%4):=by rw [y7 (by omega)];omega
         have hv4:(List.take 4 (List.drop (off (yb [] ((u.i:Int)).toNat zbu.sz)) W))=(W.drop (4*u.i)).take 4:=by
           show List.take 4 (List.drop (((u.i:Int)).toNat*4) W)=_
           rw [hU,Nat.mul_comm]
         have hv5:((W.drop (4*u.i)).take 4).length=4:=by rw [List.length_take,List.length_drop];omega
         refine za ?_
         rw [hs,hv4,hv5,Nat.min_eq_left (show 4≤16-(4*(u.i:Int).tmod 4).toNat by omega)]
         conv=>whnf
         refine ⟨⟨u.i+1,h8⟩,[0,1,2],by show (44)-(u.i+1)<(44)-u.i;omega,?_⟩
         repeat ((conv=>whnf);refine zb ?_)
         conv=>whnf
         refine zv (congrArg (fun x=>SV.agg [SV.arr8 176 x]) (zsa (by omega) ?hv ?hkk)) ?_
         case hkk=>show ((u.i:Int).tdiv 4).toNat*16+4*(u.i%4)=4*u.i;omega
         case hv=>exact List.take_of_length_le (by omega)
         exact zn
        ·have e8:u.i=44:=by omega
         rw [e8,z5j (by omega)]
         refine za ?_
         exact zf [0,2] h
    ·by_cases hk2:key.length=32
     ·have h:=ht (decide_eq_true (.inr hk2))
      have hk:=hk2
      have hkn:key.length=4*8:=hk2
      rw [hk2] at h
      have hq:(key.length:Int).tdiv 4=8:=by rw [hk];rfl
      have hf:ya ((key.length:Int).tdiv 4):=by rw [hq];unfold ya;omega
      have hf2:(4:Int)≠0∧ya ((key.length:Int).tdiv 4):=⟨by decide,hf⟩
      refine za ?_
      rw [hq]
      refine za ?_
      refine zt (Ix (60)) (fun q=>⟨[(0,.str key),(2,.nilptr),(3,.bool false),(4,.ptr 0 0 0 []),(5,.int 8),(6,.sl 1 0 0 [] 60 60),(7,.u8 (rc ((q.i-1)/ 8))),(32,.int 60),(33,.int q.i)],[.mk 216 [.arr8 256 box,.nilsl],.mk 148 [.arr8 240 (kw key 8 240 q.i)]]⟩) (fun q=>(60)-q.i) ⟨0,Nat.zero_le _⟩ [0,1] ?_ ?_
      ·repeat ((conv=>whnf);refine zb ?_)
       conv=>whnf
       exact zo (congrArg SV.u8 (by unfold rc;rfl))
      ·intro q
       have hi:=q.hi
       have hl:=z42 hkn (N:=240) (i:=q.i) (by omega)
       have hI:((q.i:Int)).toNat=q.i:=Int.toNat_natCast _
       by_cases h4:q.i<60
       ·by_cases h5:q.i<8
        ·refine za ?_
         refine ⟨⟨q.i+1,h4⟩,[0,1],by show (60)-(q.i+1)<(60)-q.i;omega,?_⟩
         repeat ((conv=>whnf);refine zb ?_)
         conv=>whnf
         refine zv (congrArg (fun x=>SV.agg [SV.arr8 240 x]) (zrb hkn (by omega) ?hv ?hkk)) ?_
         case hkk=>show q.i*4=4*q.i;omega
         case hv=>
           unfold xl
           rw [if_pos h5,show (4*(q.i:Int)).toNat=4*q.i by omega,List.length_drop,Nat.min_eq_right (by omega)]
         repeat ((conv=>whnf);refine zb ?_)
         conv=>whnf
         exact zo (congrArg SV.u8 (by show rc ((q.i-1)/ 8)=rc ((q.i+1-1)/ 8);rw [zu9 h5,Nat.add_sub_cancel]))
        ·have hm0:((q.i:Int)).tmod 8=((q.i%8:Nat):Int):=by rw [Int.tmod_eq_emod_of_nonneg (by omega)];omega
         obtain ⟨T,hT⟩: ∃T,T=((ks key 8 q.i).drop (4*(q.i-1))).take 4:=⟨_,rfl⟩
         have hTl:T.length=4:=by rw [hT,List.length_take,List.length_drop,zbm hkn];omega
         have tT:List.take zbu.sz (List.drop (off (yb [] ((q.i:Int)-1).toNat zbu.sz)) (kw key 8 240 q.i))=T:=by
           rw [hT,←z7l hkn (N:=240) (by omega)]
           show List.take 4 (List.drop (((q.i:Int)-1).toNat*4) _)=_
           rw [show ((q.i:Int)-1).toNat*4=4*(q.i-1) by omega]
         have hnx:(List.range 4).map (fun k=>(ks key 8 q.i).getD (4*(q.i-8)+k) 0^^^(x4 8 q.i T).getD k 0)=xl key 8 q.i (ks key 8 q.i):=by
           unfold xl;rw [if_neg h5,←hT]
         by_cases h6:q.i%8=0
         ·refine za ?_
          rw [tT]
          repeat ((conv=>whnf);first|refine zu ?_|refine zg ?_|refine zh ?_|refine zb ?_|refine zr (by first|exact zdn _) ?_|refine zj (by first|exact zdn _) ?_|refine zk (by first|exact zdn _) ?_)
          conv=>whnf
          refine zt (Ix (4)) (fun r=>⟨[(0,.str key),(2,.nilptr),(3,.bool false),(4,.ptr 0 0 0 []),(5,.int 8),(6,.sl 1 0 0 [] 60 60),(7,.u8 (tw (rc ((q.i-1)/ 8)))),(32,.int 60),(33,.int q.i),(8,.int q.i),(9,.ptr 2 0 0 []),(112,.int r.i)],[.mk 216 [.arr8 256 box,.nilsl],.mk 148 [.arr8 240 (ovr (kw key 8 240 q.i) (4*q.i) (fun k=>(ks key 8 q.i).getD (4*(q.i-8)+k) 0^^^(x4 8 q.i T).getD k 0) r.i)],.mk 148 [.arr8 4 (x4 8 q.i T)]]⟩) (fun r=>(4)-r.i) ⟨0,Nat.zero_le _⟩ [0,1,2] ?_ ?_
          ·repeat ((conv=>whnf);refine zb ?_)
           conv=>whnf
           refine zv (congrArg (fun x=>SV.agg [SV.arr8 240 x]) (zaj _ _ _).symm) ?_
           repeat ((conv=>whnf);refine zb ?_)
           conv=>whnf
           exact zo (congrArg (fun x=>SV.agg [SV.arr8 4 x]) (by unfold x4;rw [if_pos h6];rfl))
          ·intro r
           have hri:=r.hi
           have hJ:((r.i:Int)).toNat=r.i:=Int.toNat_natCast _
           have hTW:=zby (n:=8) (i:=q.i) hTl
           have hlo:=yg (l:=kw key 8 240 q.i) (a:=4*q.i) (i:=r.i) (by omega) (fun k=>(ks key 8 q.i).getD (4*(q.i-8)+k) 0^^^(x4 8 q.i T).getD k 0)
           by_cases h7:r.i<4
           ·refine za ?_
            refine ⟨⟨r.i+1,h7⟩,[0,1,2],by show (4)-(r.i+1)<(4)-r.i;omega,?_⟩
            repeat ((conv=>whnf);refine zb ?_)
            conv=>whnf
            refine zv (congrArg (fun x=>SV.agg [SV.arr8 240 x]) (z9 (by omega) ?hv ?hkk)) ?_
            case hkk=>show q.i*4+r.i=4*q.i+r.i;omega
            case hv=>
              show (ovr _ _ _ _).getD (((q.i:Int)-8).toNat*4+r.i) 0^^^_=_
              rw [yw (by omega) _ (by omega),znk hkn (by omega),show ((q.i:Int)-8).toNat*4+r.i=4*(q.i-8)+r.i by omega]
              rfl
            exact zn
           ·have e7:r.i=4:=by omega
            rw [e7,zqa hkn (by omega) hnx]
            refine za ?_
            refine ⟨⟨q.i+1,h4⟩,[0,1],by show (60)-(q.i+1)<(60)-q.i;omega,?_⟩
            repeat ((conv=>whnf);refine zb ?_)
            conv=>whnf
            exact zo (congrArg SV.u8 (by show (tw (rc ((q.i-1)/ 8)))=rc ((q.i+1-1)/ 8);rw [Nat.add_sub_cancel,zna (by omega) (by omega) h6]))
         ·by_cases h9:q.i%8=4
          ·refine za ?_
           rw [tT]
           refine za ?_
           refine zt (Ix (4)) (fun k=>⟨[(0,.str key),(2,.nilptr),(3,.bool false),(4,.ptr 0 0 0 []),(5,.int 8),(6,.sl 1 0 0 [] 60 60),(7,.u8 (rc ((q.i-1)/ 8))),(32,.int 60),(33,.int q.i),(8,.int q.i),(9,.ptr 2 0 0 []),(98,.int k.i)],[.mk 216 [.arr8 256 box,.nilsl],.mk 148 [.arr8 240 (kw key 8 240 q.i)],.mk 148 [.arr8 4 (ovr T 0 (fun j=>box.getD (T.getD j 0).toNat 0) k.i)]]⟩) (fun k=>(4)-k.i) ⟨0,Nat.zero_le _⟩ [0,1,2] ?_ ?_
           ·exact zn
           ·intro k
            have hki:=k.hi
            have hKK:((k.i:Int)).toNat=k.i:=Int.toNat_natCast _
            have hlo:=yg (l:=T) (a:=0) (i:=k.i) (by omega) (fun j=>box.getD (T.getD j 0).toNat 0)
            by_cases h10:k.i<4
            ·repeat ((conv=>whnf);first|refine zu ?_|refine zg ?_|refine zh ?_|refine zb ?_|refine zr (by first|exact zdn _) ?_|refine zj (by first|exact zdn _) ?_|refine zk (by first|exact zdn _) ?_)
             conv=>whnf
             refine ⟨⟨k.i+1,h10⟩,[0,1,2],by show (4)-(k.i+1)<(4)-k.i;omega,?_⟩
             repeat ((conv=>whnf);refine zb ?_)
             conv=>whnf
             refine zv (congrArg (fun x=>SV.agg [SV.arr8 4 x]) (z9 (by omega) ?hv ?hkk)) ?_
             case hkk=>show k.i=0+k.i;omega
             case hv=>
               show box.getD (UInt8.toNat ((ovr _ _ _ _).getD k.i 0)) 0=box.getD (T.getD k.i 0).toNat 0
               rw [yw (by omega) _ (by omega)]
             exact zn
            ·have e10:k.i=4:=by omega
             rw [e10]
             refine za ?_
             refine zt (Ix (4)) (fun r=>⟨[(0,.str key),(2,.nilptr),(3,.bool false),(4,.ptr 0 0 0 []),(5,.int 8),(6,.sl 1 0 0 [] 60 60),(7,.u8 (rc ((q.i-1)/ 8))),(32,.int 60),(33,.int q.i),(8,.int q.i),(9,.ptr 2 0 0 []),(112,.int r.i)],[.mk 216 [.arr8 256 box,.nilsl],.mk 148 [.arr8 240 (ovr (kw key 8 240 q.i) (4*q.i) (fun k=>(ks key 8 q.i).getD (4*(q.i-8)+k) 0^^^(x4 8 q.i T).getD k 0) r.i)],.mk 148 [.arr8 4 (x4 8 q.i T)]]⟩) (fun r=>(4)-r.i) ⟨0,Nat.zero_le _⟩ [0,1,2] ?_ ?_
             ·repeat ((conv=>whnf);refine zb ?_)
              conv=>whnf
              refine zv (congrArg (fun x=>SV.agg [SV.arr8 240 x]) (zaj _ _ _).symm) ?_
              repeat ((conv=>whnf);refine zb ?_)
              conv=>whnf
              exact zo (congrArg (fun x=>SV.agg [SV.arr8 4 x]) (by unfold x4;rw [if_neg h6,if_pos ⟨rfl,h9⟩];exact y4 hTl _))
             ·intro r
              have hri:=r.hi
              have hJ:((r.i:Int)).toNat=r.i:=Int.toNat_natCast _
              have hTW:=zby (n:=8) (i:=q.i) hTl
              have hlo:=yg (l:=kw key 8 240 q.i) (a:=4*q.i) (i:=r.i) (by omega) (fun k=>(ks key 8 q.i).getD (4*(q.i-8)+k) 0^^^(x4 8 q.i T).getD k 0)
              by_cases h7:r.i<4
              ·refine za ?_
               refine ⟨⟨r.i+1,h7⟩,[0,1,2],by show (4)-(r.i+1)<(4)-r.i;omega,?_⟩
               repeat ((conv=>whnf);refine zb ?_)
               conv=>whnf
               refine zv (congrArg (fun x=>SV.agg [SV.arr8 240 x]) (z9 (by omega) ?hv ?hkk)) ?_
               case hkk=>show q.i*4+r.i=4*q.i+r.i;omega
               case hv=>
                 show (ovr _ _ _ _).getD (((q.i:Int)-8).toNat*4+r.i) 0^^^_=_
                 rw [yw (by omega) _ (by omega),znk hkn (by omega),show ((q.i:Int)-8).toNat*4+r.i=4*(q.i-8)+r.i by omega]
                 rfl
               exact zn
              ·have e7:r.i=4:=by omega
               rw [e7,zqa hkn (by omega) hnx]
               refine za ?_
               refine ⟨⟨q.i+1,h4⟩,[0,1],by show (60)-(q.i+1)<(60)-q.i;omega,?_⟩
               repeat ((conv=>whnf);refine zb ?_)
               conv=>whnf
               exact zo (congrArg SV.u8 (by show (rc ((q.i-1)/ 8))=rc ((q.i+1-1)/ 8);rw [Nat.add_sub_cancel,zhs (by omega) h6]))
          ·refine za ?_
           rw [tT]
           refine zt (Ix (4)) (fun r=>⟨[(0,.str key),(2,.nilptr),(3,.bool false),(4,.ptr 0 0 0 []),(5,.int 8),(6,.sl 1 0 0 [] 60 60),(7,.u8 (rc ((q.i-1)/ 8))),(32,.int 60),(33,.int q.i),(8,.int q.i),(9,.ptr 2 0 0 []),(112,.int r.i)],[.mk 216 [.arr8 256 box,.nilsl],.mk 148 [.arr8 240 (ovr (kw key 8 240 q.i) (4*q.i) (fun k=>(ks key 8 q.i).getD (4*(q.i-8)+k) 0^^^(x4 8 q.i T).getD k 0) r.i)],.mk 148 [.arr8 4 (x4 8 q.i T)]]⟩) (fun r=>(4)-r.i) ⟨0,Nat.zero_le _⟩ [0,1,2] ?_ ?_
           ·repeat ((conv=>whnf);refine zb ?_)
            conv=>whnf
            refine zv (congrArg (fun x=>SV.agg [SV.arr8 240 x]) (zaj _ _ _).symm) ?_
            repeat ((conv=>whnf);refine zb ?_)
            conv=>whnf
            exact zo (congrArg (fun x=>SV.agg [SV.arr8 4 x]) (by unfold x4;rw [if_neg h6,if_neg (fun h=>h9 h.2)]))
           ·intro r
            have hri:=r.hi
            have hJ:((r.i:Int)).toNat=r.i:=Int.toNat_natCast _
            have hTW:=zby (n:=8) (i:=q.i) hTl
            have hlo:=yg (l:=kw key 8 240 q.i) (a:=4*q.i) (i:=r.i) (by omega) (fun k=>(ks key 8 q.i).getD (4*(q.i-8)+k) 0^^^(x4 8 q.i T).getD k 0)
            by_cases h7:r.i<4
            ·refine za ?_
             refine ⟨⟨r.i+1,h7⟩,[0,1,2],by show (4)-(r.i+1)<(4)-r.i;omega,?_⟩
             repeat ((conv=>whnf);refine zb ?_)
             conv=>whnf
             refine zv (congrArg (fun x=>SV.agg [SV.arr8 240 x]) (z9 (by omega) ?hv ?hkk)) ?_
             case hkk=>show q.i*4+r.i=4*q.i+r.i;omega
             case hv=>
               show (ovr _ _ _ _).getD (((q.i:Int)-8).toNat*4+r.i) 0^^^_=_
               rw [yw (by omega) _ (by omega),znk hkn (by omega),show ((q.i:Int)-8).toNat*4+r.i=4*(q.i-8)+r.i by omega]
               rfl
             exact zn
            ·have e7:r.i=4:=by omega
             rw [e7,zqa hkn (by omega) hnx]
             refine za ?_
             refine ⟨⟨q.i+1,h4⟩,[0,1],by show (60)-(q.i+1)<(60)-q.i;omega,?_⟩
             repeat ((conv=>whnf);refine zb ?_)
             conv=>whnf
             exact zo (congrArg SV.u8 (by show (rc ((q.i-1)/ 8))=rc ((q.i+1-1)/ 8);rw [Nat.add_sub_cancel,zhs (by omega) h6]))
       ·have e4:q.i=60:=by omega
        rw [e4,z9p (by rfl)]
        have hW:=zbm hkn 60
        generalize ks key 8 60=W at*
        refine za ?_
        refine zt (Ix (60)) (fun u=>⟨[(0,.str key),(2,.nilptr),(3,.bool false),(4,.ptr 0 0 0 []),(5,.int 8),(6,.sl 1 0 0 [] 60 60),(141,.int 60),(142,.int u.i)],[.mk 216 [.arr8 256 box,.sl 2 0 0 [] 15 15],.mk 148 [.arr8 240 W],.mk 168 [.arr8 240 (kc W u.i)]]⟩) (fun u=>(60)-u.i) ⟨0,Nat.zero_le _⟩ [0,1,2] ?_ ?_
        ·repeat ((conv=>whnf);refine zb ?_)
         conv=>whnf
         exact zo (congrArg (fun x=>SV.agg [SV.arr8 240 x]) (by rw [zz3,hW];rfl))
        ·intro u
         have hui:=u.hi
         have hlk:=z82 (W:=W) (i:=u.i) (by omega)
         have hU:((u.i:Int)).toNat=u.i:=Int.toNat_natCast _
         have hd:(u.i:Int).tdiv 4=((u.i/ 4:Nat):Int):=by rw [Int.tdiv_eq_ediv_of_nonneg (by omega)];omega
         have hm:(u.i:Int).tmod 4=((u.i%4:Nat):Int):=by rw [Int.tmod_eq_emod_of_nonneg (by omega)];omega
         have hpd:(4:Int)≠0∧ya ((u.i:Int).tdiv 4):=⟨by decide,by unfold ya;omega⟩
         by_cases h8:u.i<60
         ·have hs:slO 16 (4*(u.i:Int).tmod 4).toNat=4*(u.i%4):=by rw [y7 (by omega)];omega
          have hv4:(List.take 4 (List.drop (off (yb [] ((u.i:Int)).toNat zbu.sz)) W))=(W.drop (4*u.i)).take 4:=by
            show List.take 4 (List.drop (((u.i:Int)).toNat*4) W)=_
            rw [hU,Nat.mul_comm]
          have hv5:((W.drop (4*u.i)).take 4).length=4:=by rw [List.length_take,List.length_drop];omega
          refine za ?_
          rw [hs,hv4,hv5,Nat.min_eq_left (show 4≤16-(4*(u.i:Int).tmod 4).toNat by omega)]
          conv=>whnf
          refine ⟨⟨u.i+1,h8⟩,[0,1,2],by show (60)-(u.i+1)<(60)-u.i;omega,?_⟩
          repeat ((conv=>whnf);refine zb ?_)
          conv=>whnf
          refine zv (congrArg (fun x=>SV.agg [SV.arr8 240 x]) (zsa (by omega) ?hv ?hkk)) ?_
          case hkk=>show ((u.i:Int).tdiv 4).toNat*16+4*(u.i%4)=4*u.i;omega
          case hv=>exact List.take_of_length_le (by omega)
          exact zn
         ·have e8:u.i=60:=by omega
          rw [e8,z5j (by omega)]
          refine za ?_
          exact zf [0,2] h
     ·have h:=hn (decide_eq_false (fun h=>h.elim hk hk2))
      refine za ?_
      exact zf [] h
   ·exact h.elim
end Go.Sym.Z

namespace Go.Sym.Z
open Go Go.Proofs.Tryz Go.Sym.Lp Go.Sym.Aes
set_option maxRecDepth 100000
attribute [local irreducible] box tw xh zgn
def yh4:List (Nat×List PStep):= [(4,[⟨0,[]⟩,⟨1,[]⟩,⟨2,[]⟩,⟨3,[0,1,2]⟩,⟨4,[0,1,2]⟩,⟨5,[0,1,2]⟩,⟨6,[0,1,2]⟩,⟨7,[0,1,2,3,4,5,6]⟩,⟨8,[0,1,2,7]⟩,⟨9,[0,1,2]⟩,⟨10,[0,1,2]⟩,⟨11,[]⟩,⟨12,[]⟩,⟨13,[]⟩]),(13,[⟨0,[]⟩,⟨1,[0]⟩,⟨2,[0,1]⟩,⟨3,[0,1,2]⟩,⟨4,[0,1,2]⟩,⟨5,[0,1,2]⟩,⟨6,[0,1]⟩,⟨7,[0,1]⟩,⟨8,[0,1]⟩,⟨9,[0,1]⟩,⟨10,[0,2,3,4,5,6,7,8,9]⟩,⟨11,[0,2,3,4,5,6,7,8,9]⟩,⟨12,[0]⟩,⟨13,[0]⟩,⟨14,[]⟩,⟨15,[]⟩]),(19,[⟨0,[]⟩,⟨1,[]⟩,⟨2,[]⟩,⟨3,[0,1,2]⟩,⟨4,[0,1,2]⟩,⟨5,[0,1,2]⟩,⟨6,[0,1,2]⟩,⟨7,[0,1,2,3,4,5,6]⟩,⟨8,[0,1,2,3,4,5,6]⟩,⟨9,[0,1,2,3,4,5,6]⟩,⟨10,[0,1,2,3,4,5,6]⟩,⟨11,[0,1,2,3,4,5,6,7,8,9,10]⟩,⟨12,[0,1,2,3,4,5,6,7,8,9,10]⟩,⟨13,[0,1,2,3,4,5,6,7,8,9,10]⟩,⟨14,[0,1,2,3,4,5,6,7,8,9,10]⟩,⟨15,[3,4,5,6,7,8,9,10,11,12,13,14]⟩,⟨16,[7,8,9,10,11,12,13,14]⟩,⟨17,[11,12,13,14]⟩,⟨18,[]⟩]),(21,[⟨0,[]⟩,⟨1,[]⟩,⟨2,[]⟩,⟨3,[0,1,2]⟩,⟨4,[0,1,2,3]⟩,⟨5,[0,1,2,3,4]⟩,⟨6,[0,1,2,3]⟩,⟨7,[0,1,2,3]⟩,⟨8,[0,1,2]⟩,⟨9,[]⟩,⟨10,[]⟩,⟨11,[]⟩]),(22,[⟨0,[]⟩,⟨1,[]⟩,⟨2,[]⟩,⟨3,[]⟩,⟨4,[0,1,2,3]⟩,⟨5,[0,1,2,3,4]⟩,⟨6,[0,1,2,3,4,5]⟩,⟨7,[0,1,2,3,4]⟩,⟨8,[0,1,2,3,4]⟩,⟨9,[0,1,2,3]⟩,⟨10,[]⟩,⟨11,[]⟩,⟨12,[]⟩]),(23,[⟨0,[]⟩,⟨1,[]⟩,⟨2,[]⟩,⟨3,[]⟩,⟨4,[0,1,2,3]⟩,⟨5,[0,1,2,3,4]⟩,⟨6,[0,1,2,3,4,5]⟩,⟨7,[0,1,2,3,4]⟩,⟨8,[0,1,2,3,4]⟩,⟨9,[0,1,2,3]⟩,⟨10,[]⟩,⟨11,[]⟩,⟨12,[]⟩]),(24,[⟨0,[]⟩,⟨1,[]⟩,⟨2,[]⟩,⟨3,[]⟩,⟨4,[0,1,2,3]⟩,⟨5,[0,1,2,3,4]⟩,⟨6,[0,1,2,3,4,5]⟩,⟨7,[0,1,2,3,4]⟩,⟨8,[0,1,2,3,4]⟩,⟨9,[0,1,2,3]⟩,⟨10,[]⟩,⟨11,[]⟩,⟨12,[]⟩]),(28,[⟨0,[]⟩,⟨1,[0]⟩,⟨2,[0]⟩,⟨3,[0]⟩,⟨4,[0,1,2,3]⟩,⟨5,[0,1,2,3]⟩,⟨6,[0,1,2,3]⟩,⟨7,[0,1,2,3]⟩,⟨8,[0,1,2,3,4,5,6,7]⟩,⟨9,[0,1,2,3,4,5,6,7,8]⟩,⟨10,[0,1,2,3,9]⟩,⟨11,[0,1,2,3]⟩,⟨12,[0,1,2,3]⟩,⟨13,[0]⟩,⟨14,[]⟩,⟨15,[]⟩])]
def zod:Spec:=fun args hp K=>match args,hp with
  | [.ptr 0 0 0 [],.arr8 16 b],[.mk t0 [.arr8 256 tb,.sl 1 0 0 [] R c],.mk t1 [.arr8 N ks]]=>Pre (tb=box∧b.length=16∧1≤R∧R≤100∧16*R≤ks.length)
      (K (.arr8 16 (enc ks R b)) [.mk t0 [.arr8 256 tb,.sl 1 0 0 [] R c],.mk t1 [.arr8 N ks]])
  |_,_=>False
set_option maxHeartbeats 8000000 in
theorem zlj:zp prog 135 zod:=by
  refine zm zdk (zd zt6 zi) rfl func135 rfl call135 (D:=yh4) ?_ ?_
  ·intro args hp K h
   unfold zod at h
   split at h
   ·exact Nat.le_of_ble_eq_true rfl
   ·exact h.elim
  ·intro args hp K h
   unfold zod at h
   split at h
   ·rename_i b t0 tb R c t1 N ks
    obtain ⟨⟨rfl,hb,hR,hR2,hN⟩,h⟩:=zq h
    have hB:=zmz
    refine za ?_
    refine zt (Ix (16)) (fun q=>⟨[(0,.ptr 0 0 0 []),(3,.ptr 2 0 0 []),(4,.ptr 3 0 0 []),(16,.int q.i)],[.mk t0 [.arr8 256 box,.sl 1 0 0 [] R c],.mk t1 [.arr8 N ks],.mk 168 [.arr8 16 (ovr b 0 (fun j=>b.getD j 0^^^ks.getD (16*0+j) 0) q.i)],.mk 168 [.arr8 16 (List.replicate 16 0)]]⟩) (fun q=>(16)-q.i) ⟨0,Nat.zero_le _⟩ [0,1,2,3] ?_ ?_
    ·exact zn
    ·intro q
     have hi:=q.hi
     have hI:((q.i:Int)).toNat=q.i:=Int.toNat_natCast _
     have hlo:=yg (l:=b) (a:=0) (i:=q.i) (by omega) (fun j=>b.getD j 0^^^ks.getD (16*0+j) 0)
     by_cases h4:q.i<16
     ·refine za ?_
      refine ⟨⟨q.i+1,h4⟩,[0,1,2,3],by show (16)-(q.i+1)<(16)-q.i;omega,?_⟩
      repeat ((conv=>whnf);refine zb ?_)
      conv=>whnf
      refine zv (congrArg (fun x=>SV.agg [SV.arr8 16 x]) (z9 (by omega) ?hv ?hkk)) ?_
      case hkk=>show q.i=0+q.i;omega
      case hv=>
        show (ovr _ _ _ _).getD q.i 0^^^ks.getD (0*16+q.i) 0=_
        rw [yw (by omega) _ (by omega),Nat.zero_mul]
      exact zn
     ·have e4:q.i=16:=by omega
      rw [e4,y4 hb,show (List.range 16).map (fun j=>b.getD j 0^^^ks.getD (16*0+j) 0)=zb1 ks R b 0 from rfl]
      clear hlo hI hi h4 e4 q
      refine za ?_
      refine zt (Ix ((R-1))) (fun q=>⟨[(0,.ptr 0 0 0 []),(3,.ptr 2 0 0 []),(4,.ptr 3 0 0 []),(6,.int ((q.i:Int)+1))],[.mk t0 [.arr8 256 box,.sl 1 0 0 [] R c],.mk t1 [.arr8 N ks],.mk 168 [.arr8 16 (zb1 ks R b q.i)],.mk 168 [.arr8 16 (List.replicate 16 0)]]⟩) (fun q=>((R-1))-q.i) ⟨0,Nat.zero_le _⟩ [0,1,2,3] ?_ ?_
      ·exact zn
      ·intro q
       have hi:=q.hi
       have hX:=zhp ks R b q.i
       by_cases h4:q.i<R-1
       ·refine za ?_
        generalize hXe:zb1 ks R b q.i=X at*
        refine zt (Ix (16)) (fun r=>⟨[(0,.ptr 0 0 0 []),(3,.ptr 2 0 0 []),(4,.ptr 3 0 0 []),(6,.int ((q.i:Int)+1)),(7,.ptr 4 0 0 []),(42,.int r.i)],[.mk t0 [.arr8 256 box,.sl 1 0 0 [] R c],.mk t1 [.arr8 N ks],.mk 168 [.arr8 16 X],.mk 168 [.arr8 16 (List.replicate 16 0)],.mk 168 [.arr8 16 (ovr (List.replicate 16 0) 0 (fun i=>box.getD (X.getD ((i+4*(i%4))%16) 0).toNat 0) r.i)]]⟩) (fun r=>(16)-r.i) ⟨0,Nat.zero_le _⟩ [0,1,2,3,4] ?_ ?_
        ·exact zn
        ·intro r
         have hri:=r.hi
         have hJ:((r.i:Int)).toNat=r.i:=Int.toNat_natCast _
         have hm4:(r.i:Int).tmod 4=((r.i%4:Nat):Int):=by rw [Int.tmod_eq_emod_of_nonneg (by omega)];omega
         have hm16:((r.i:Int)+4*(r.i:Int).tmod 4).tmod 16=(((r.i+4*(r.i%4))%16:Nat):Int):=by rw [hm4,Int.tmod_eq_emod_of_nonneg (by omega)];omega
         have hlo:=yg (l:=List.replicate 16 (0:UInt8)) (a:=0) (i:=r.i) (by rw [List.length_replicate];omega) (fun i=>box.getD (X.getD ((i+4*(i%4))%16) 0).toNat 0)
         rw [List.length_replicate] at hlo
         by_cases h5:r.i<16
         ·repeat ((conv=>whnf);first|refine zu ?_|refine zg ?_|refine zh ?_|refine zb ?_|refine zr (by first|exact zdn _) ?_|refine zj (by first|exact zdn _) ?_|refine zk (by first|exact zdn _) ?_)
          conv=>whnf
          refine ⟨⟨r.i+1,h5⟩,[0,1,2,3,4],by show (16)-(r.i+1)<(16)-r.i;omega,?_⟩
          repeat ((conv=>whnf);refine zb ?_)
          conv=>whnf
          refine zv (congrArg (fun x=>SV.agg [SV.arr8 16 x]) (z9 (by rw [List.length_replicate];omega) ?hv ?hkk)) ?_
          case hkk=>show r.i=0+r.i;omega
          case hv=>
            show box.getD (UInt8.toNat (X.getD (((r.i:Int)+4*(r.i:Int).tmod 4).tmod 16).toNat 0)) 0=_
            rw [hm16,Int.toNat_natCast]
          exact zn
         ·have e5:r.i=16:=by omega
          rw [e5,y4 (List.length_replicate),show (List.range 16).map (fun i=>box.getD (X.getD ((i+4*(i%4))%16) 0).toNat 0)=xh X by unfold xh;rfl]
          clear hm4 hm16 hlo hJ hri h5 e5 r
          have hS:=zjc X
          have hRR:((R:Int)-1:Int)=((R-1:Nat):Int):=by omega
          by_cases h6:q.i+1<R-1
          ·refine za ?_
           refine zt (Ix (4)) (fun m=>⟨[(0,.ptr 0 0 0 []),(3,.ptr 2 0 0 []),(4,.ptr 3 0 0 []),(6,.int ((q.i:Int)+1)),(7,.ptr 4 0 0 []),(9,.int (4*(m.i:Int)))],[.mk t0 [.arr8 256 box,.sl 1 0 0 [] R c],.mk t1 [.arr8 N ks],.mk 168 [.arr8 16 X],.mk 168 [.arr8 16 (List.replicate 16 0)],.mk 168 [.arr8 16 (ovr (xh X) 0 (ziq (xh X)) (4*m.i))]]⟩) (fun m=>(4)-m.i) ⟨0,Nat.zero_le _⟩ [0,1,2,3,4] ?_ ?_
           ·exact zn
           ·intro m
            have hmi:=m.hi
            have hlm:=yg (l:=xh X) (a:=0) (i:=4*m.i) (by omega) (ziq (xh X))
            by_cases h8:m.i<4
            ·refine za ?_
             refine ⟨⟨m.i+1,h8⟩,[0,1,2,3,4],by show (4)-(m.i+1)<(4)-m.i;omega,?_⟩
             repeat ((conv=>whnf);refine zb ?_)
             conv=>whnf
             exact zo (congrArg (fun x=>SV.agg [SV.arr8 16 x]) (z51 (T:=xh X) (c:=m.i) (by omega) rfl rfl rfl rfl rfl rfl))
            ·have e8:m.i=4:=by omega
             rw [e8,show ovr (xh X) 0 (ziq (xh X)) (4*4)=zgn (xh X) by unfold zgn;exact y4 hS _]
             clear hlm hmi h8 e8 m
             refine za ?_
             refine zt (Ix (16)) (fun k=>⟨[(0,.ptr 0 0 0 []),(3,.ptr 2 0 0 []),(4,.ptr 3 0 0 []),(6,.int ((q.i:Int)+1)),(7,.ptr 4 0 0 []),(142,.int k.i)],[.mk t0 [.arr8 256 box,.sl 1 0 0 [] R c],.mk t1 [.arr8 N ks],.mk 168 [.arr8 16 (ovr X 0 (fun j=>(zgn (xh X)).getD j 0^^^ks.getD (16*(q.i+1)+j) 0) k.i)],.mk 168 [.arr8 16 (List.replicate 16 0)],.mk 168 [.arr8 16 (zgn (xh X))]]⟩) (fun k=>(16)-k.i) ⟨0,Nat.zero_le _⟩ [0,1,2,3,4] ?_ ?_
             ·exact zn
             ·intro k
              have hki:=k.hi
              have hK:((k.i:Int)).toNat=k.i:=Int.toNat_natCast _
              have hQ:((q.i:Int)+1).toNat=q.i+1:=by omega
              have hlo:=yg (l:=X) (a:=0) (i:=k.i) (by omega) (fun j=>(zgn (xh X)).getD j 0^^^ks.getD (16*(q.i+1)+j) 0)
              have hls:(zgn (xh X)).length=16:=zvc _
              by_cases h7:k.i<16
              ·refine za ?_
               refine ⟨⟨k.i+1,h7⟩,[0,1,2,3,4],by show (16)-(k.i+1)<(16)-k.i;omega,?_⟩
               repeat ((conv=>whnf);refine zb ?_)
               conv=>whnf
               refine zv (congrArg (fun x=>SV.agg [SV.arr8 16 x]) (z9 (by omega) ?hv ?hkk)) ?_
               case hkk=>show k.i=0+k.i;omega
               case hv=>
                 show List.getD _ k.i 0^^^ks.getD (((q.i:Int)+1).toNat*16+k.i) 0=_
                 rw [hQ,Nat.mul_comm]
               exact zn
              ·have e7:k.i=16:=by omega
               have hnx:ovr X 0 (fun j=>(zgn (xh X)).getD j 0^^^ks.getD (16*(q.i+1)+j) 0) 16=zb1 ks R b (q.i+1):=by
                 rw [y4 hX]
                 simp only [zb1]
                 unfold rnd zqy
                 rw [hXe,if_pos h6]
               rw [e7,hnx]
               refine za ?_
               refine ⟨⟨q.i+1,h4⟩,[0,1,2,3],by show ((R-1))-(q.i+1)<((R-1))-q.i;omega,?_⟩
               exact zn
          ·refine za ?_
           refine zt (Ix (16)) (fun k=>⟨[(0,.ptr 0 0 0 []),(3,.ptr 2 0 0 []),(4,.ptr 3 0 0 []),(6,.int ((q.i:Int)+1)),(7,.ptr 4 0 0 []),(142,.int k.i)],[.mk t0 [.arr8 256 box,.sl 1 0 0 [] R c],.mk t1 [.arr8 N ks],.mk 168 [.arr8 16 (ovr X 0 (fun j=>(xh X).getD j 0^^^ks.getD (16*(q.i+1)+j) 0) k.i)],.mk 168 [.arr8 16 (List.replicate 16 0)],.mk 168 [.arr8 16 (xh X)]]⟩) (fun k=>(16)-k.i) ⟨0,Nat.zero_le _⟩ [0,1,2,3,4] ?_ ?_
           ·exact zn
           ·intro k
            have hki:=k.hi
            have hK:((k.i:Int)).toNat=k.i:=Int.toNat_natCast _
            have hQ:((q.i:Int)+1).toNat=q.i+1:=by omega
            have hlo:=yg (l:=X) (a:=0) (i:=k.i) (by omega) (fun j=>(xh X).getD j 0^^^ks.getD (16*(q.i+1)+j) 0)
            have hls:(xh X).length=16:=zjc X
            by_cases h7:k.i<16
            ·refine za ?_
             refine ⟨⟨k.i+1,h7⟩,[0,1,2,3,4],by show (16)-(k.i+1)<(16)-k.i;omega,?_⟩
             repeat ((conv=>whnf);refine zb ?_)
             conv=>whnf
             refine zv (congrArg (fun x=>SV.agg [SV.arr8 16 x]) (z9 (by omega) ?hv ?hkk)) ?_
             case hkk=>show k.i=0+k.i;omega
             case hv=>
               show List.getD _ k.i 0^^^ks.getD (((q.i:Int)+1).toNat*16+k.i) 0=_
               rw [hQ,Nat.mul_comm]
             exact zn
            ·have e7:k.i=16:=by omega
             have hnx:ovr X 0 (fun j=>(xh X).getD j 0^^^ks.getD (16*(q.i+1)+j) 0) 16=zb1 ks R b (q.i+1):=by
               rw [y4 hX]
               simp only [zb1]
               unfold rnd zqy
               rw [hXe,if_neg h6]
             rw [e7,hnx]
             refine za ?_
             refine ⟨⟨q.i+1,h4⟩,[0,1,2,3],by show ((R-1))-(q.i+1)<((R-1))-q.i;omega,?_⟩
             exact zn
       ·have e4:q.i=R-1:=by omega
        rw [e4]
        refine za ?_
        exact zf [0,1] h
   ·exact h.elim
end Go.Sym.Z

namespace Go.Sym.Gcm
open Go.Sym Go.Sym.Lp Go.Sym.Aes
def gW (key:List UInt8):List UInt8:=ks key (key.length/ 4) (4*(key.length/ 4+7))
def gR (key:List UInt8):Nat:=key.length/ 4+7
theorem zpg {key:List UInt8} (h:key.length=16∨key.length=32):(gW key).length=16*gR key:=by
  unfold gW gR
  rw [zbm (by omega)]
  omega
def gH (W:List UInt8) (R:Nat):El:=ld (enc W R (List.replicate 16 0))
def kb (W:List UInt8) (R:Nat) (nonce:List UInt8) (n:UInt32):List UInt8:=enc W R (ctr nonce n)
def stG (W:List UInt8) (R:Nat) (nonce:List UInt8) (n:UInt32) (s:List UInt8) (i:Nat):UInt8:=s.getD i 0^^^(kb W R nonce (n+UInt32.ofNat (i/ 16))).getD (i%16) 0
def gst (W:List UInt8) (R:Nat) (nonce:List UInt8) (n:UInt32) (s:List UInt8):List UInt8:=(List.range s.length).map (stG W R nonce n s)
theorem zhu (W:List UInt8) (R:Nat) (nonce:List UInt8) (n:UInt32) (s:List UInt8):(gst W R nonce n s).length=s.length:=zz _ _
def zi3 (W:List UInt8) (R:Nat) (nonce:List UInt8) (n:UInt32) (l:List UInt8) (k:Nat):List UInt8:=ovr l 0 (stG W R nonce n l) k
theorem zp1 {W:List UInt8} {R:Nat} {nonce:List UInt8} {n:UInt32} {l:List UInt8} {k:Nat} (h:k≤l.length):(zi3 W R nonce n l k).length=l.length:=yg (by omega) _
theorem z65 {W:List UInt8} {R:Nat} {nonce:List UInt8} {n:UInt32} {l:List UInt8} {k:Nat} (h:k≤l.length):zi3 W R nonce n l k=gst W R nonce n (l.take k)++l.drop k:=by
  unfold zi3 gst ovr
  rw [List.take_zero,List.nil_append,Nat.zero_add,List.length_take,Nat.min_eq_left h]
  congr 1
  apply yo
  intro i hi
  unfold stG
  congr 1
  rw [List.getD_eq_getElem?_getD,List.getD_eq_getElem?_getD,List.getElem?_take_of_lt hi]
theorem u32_add (c:UInt32) (t:Nat):c+UInt32.ofNat t+1=c+UInt32.ofNat (t+1):=by
  rw [UInt32.add_assoc]
  congr 1
  apply UInt32.toNat_inj.1
  rw [UInt32.toNat_add,UInt32.toNat_ofNat',UInt32.toNat_ofNat']
  show (t%4294967296+1)%4294967296=(t+1)%4294967296
  omega
end Go.Sym.Gcm

namespace Go.Sym.Z
open Go Go.Proofs.Tryz Go.Sym.Lp Go.Sym.Gcm Go.Sym.Aes
set_option maxRecDepth 100000
attribute [local irreducible] ldE ld yl hf4 zgm zgz zbt enc ks box ctr
def yiu:List (Nat×List PStep):= []
def yjh:List (Nat×List PStep):= [(3,[⟨0,[]⟩,⟨1,[]⟩,⟨2,[]⟩,⟨3,[]⟩,⟨4,[0,1,2,3]⟩,⟨5,[0,1,2,3,4]⟩,⟨8,[0,1,2,3,4,5]⟩,⟨6,[0,1,2,3,8]⟩,⟨7,[8]⟩,⟨9,[]⟩]),(8,[⟨0,[]⟩,⟨1,[0]⟩,⟨2,[]⟩,⟨3,[]⟩,⟨4,[0,1,2,3]⟩,⟨5,[0,1,2,3]⟩,⟨6,[0,1,2,3]⟩,⟨7,[]⟩,⟨8,[]⟩,⟨9,[]⟩])]
abbrev gkey (t0 t1 t2:Nat) (h1 h2:UInt64) (R c N:Nat) (W:List UInt8):List Blk:= [.mk t0 [.ptr 1 0 0 [],.u64 h1,.u64 h2],.mk t1 [.arr8 256 box,.sl 2 0 0 [] R c],.mk t2 [.arr8 N W]]
def zsn:Spec:=fun args hp K=>match args,hp with
  | [.str key],[]=>ye (decide (key.length=16∨key.length=32))
      (K (.tup [.ptr 0 0 0 [],.bool true]) [.mk 186 [.ptr 1 0 0 [],.u64 (gH (gW key) (gR key)).1,.u64 (gH (gW key) (gR key)).2],.mk 216 [.arr8 256 box,.sl 2 0 0 [] (gR key) (gR key)],.mk 168 [.arr8 (16*gR key) (gW key)]])
      (K (.tup [.nilptr,.bool false]) [])
  |_,_=>False
theorem z6k:zp prog 115 zsn:=by
  refine zm y5 (zd z49 (zd zlj (zd z04 zi))) rfl func115 rfl call115 (D:=yiu) ?_ ?_
  ·intro args hp K h
   unfold zsn at h
   split at h
   ·exact Nat.le_of_ble_eq_true rfl
   ·exact h.elim
  ·intro args hp K h
   unfold zsn at h
   split at h
   ·rename_i key
    obtain ⟨ht,hn⟩:=z8 h
    by_cases hk:key.length=16∨key.length=32
    ·have h:=ht (decide_eq_true hk)
     have hd:=decide_eq_true hk
     have hWl:=zpg hk
     have hR:gR key=key.length/ 4+7:=rfl
     have hp5:box=box∧(List.replicate 16 (0:UInt8)).length=16∧1≤gR key∧gR key≤100∧16*gR key≤(gW key).length:=⟨rfl,List.length_replicate,by omega,by omega,by omega⟩
     have hel:=zh4 (gW key) (gR key) (List.replicate 16 0)
     have htk:List.take 16 (List.drop (off []) (enc (gW key) (gR key) (List.replicate 16 0)))=enc (gW key) (gR key) (List.replicate 16 0):=List.take_of_length_le (Nat.le_of_eq hel)
     have hw:ks key (key.length/ 4) (4*gR key)=gW key:=by unfold gW gR;rfl
     repeat ((conv=>whnf);first|refine zu ?_|refine zg ?_|refine zh ?_|refine zb ?_|refine zr (by first|exact hd) ?_|refine zj (by first|exact hd) ?_|refine zk (by first|exact hd) ?_)
     conv=>whnf
     rw [←hR,hw]
     refine za ?_
     rw [htk,show ld (enc (gW key) (gR key) (List.replicate 16 0))=gH (gW key) (gR key) by unfold gH;rfl]
     conv=>whnf
     exact zf [3,0,1] h
    ·have h:=hn (decide_eq_false hk)
     have hd:=decide_eq_false hk
     repeat ((conv=>whnf);first|refine zu ?_|refine zg ?_|refine zh ?_|refine zb ?_|refine zr (by first|exact hd) ?_|refine zj (by first|exact hd) ?_|refine zk (by first|exact hd) ?_)
     conv=>whnf
     exact zf [] h
   ·exact h.elim
structure Xg (n:Nat) where
  t:Nat
  x:Nat
  k:Nat
  c:Nat
  hn:k+16*t=n∨(k=0∧n≤16*t)
  hx:0<k→x=16*t
  hc:k≤c
def z8b:Spec:=fun args hp K=>match args,hp with
  | [.ptr 0 0 0 [],.str nonce,.sl 3 0 0 [] n cap],[.mk t0 [.ptr 1 0 0 [],.u64 h1,.u64 h2],.mk t1 [.arr8 256 bx,.sl 2 0 0 [] R c],.mk t2 [.arr8 N W],.mk t [.arr8 m l]]=>
      Pre (bx=box∧nonce.length=12∧1≤R∧R≤100∧16*R≤W.length∧n≤l.length∧n≤cap∧n≤9223372036854775807)
      (K (.tup []) [.mk t0 [.ptr 1 0 0 [],.u64 h1,.u64 h2],.mk t1 [.arr8 256 bx,.sl 2 0 0 [] R c],.mk t2 [.arr8 N W],.mk t [.arr8 m (gst W R nonce 2 (l.take n)++l.drop n)]])
  |_,_=>False
set_option maxHeartbeats 4000000 in
theorem ye2:zp prog 117 z8b:=by
  refine zm y5 (zd zoe (zd zlj zi)) rfl func117 rfl call117 (D:=yjh) ?_ ?_
  ·intro args hp K h
   unfold z8b at h
   split at h
   ·exact Nat.le_of_ble_eq_true rfl
   ·exact h.elim
  ·intro args hp K h
   unfold z8b at h
   split at h
   ·rename_i nonce n cap t0 h1 h2 t1 bx R c t2 N W t m l
    obtain ⟨⟨rfl,hnon,hR1,hR2,hW,hl,hcap,hmax⟩,h⟩:=zq h
    rw [←z65 hl] at h
    refine za ?_
    refine zt (Option (Xg n)) (fun q=>match q with
      |none=>⟨[(0,.ptr 0 0 0 []),(1,.str nonce),(2,.sl 3 0 0 [] n cap),(6,.u32 2)],gkey t0 t1 t2 h1 h2 R c N W++ [.mk t [.arr8 m l]]⟩
      |some s=>⟨[(0,.ptr 0 0 0 []),(1,.str nonce),(2,.sl 3 0 0 [(s.x,1)] s.k s.c),(6,.u32 (2+UInt32.ofNat s.t))],gkey t0 t1 t2 h1 h2 R c N W++ [.mk t [.arr8 m (zi3 W R nonce 2 l (n-s.k))]]⟩)
      (fun q=>match q with|none=>n+1|some s=>s.k) none [0,1,2,3] ?_ ?_
    ·exact zn
    ·intro q
     cases q with
     |none=>
      by_cases h4:0<n
      ·skip
       skip
       have hmn:(min (n:Int) 16).toNat=min n 16:=by omega
       have hcl:=znb hnon (2:UInt32)
       have hp5:box=box∧(ctr nonce (2:UInt32)).length=16∧1≤R∧R≤100∧16*R≤W.length:=⟨rfl,hcl,hR1,hR2,hW⟩
       have hkl:=zh4 W R (ctr nonce (2:UInt32))
       refine za ?_
       refine zt (Ix ((min n 16))) (fun r=>⟨[(0,.ptr 0 0 0 []),(1,.str nonce),(2,.sl 3 0 0 [] n cap),(6,.u32 (2:UInt32)),(7,.ptr 4 0 0 []),(8,.int (min (n:Int) 16)),(26,.int (min (n:Int) 16)),(27,.int r.i)],[.mk t0 [.ptr 1 0 0 [],.u64 h1,.u64 h2],.mk t1 [.arr8 256 box,.sl 2 0 0 [] R c],.mk t2 [.arr8 N W],.mk t [.arr8 m (zi3 W R nonce 2 l (0+r.i))],.mk 168 [.arr8 16 (enc W R (ctr nonce (2:UInt32)))]]⟩) (fun r=>((min n 16))-r.i) ⟨0,Nat.zero_le _⟩ [0,1,2,3,4] ?_ ?_
       ·exact zn
       ·intro r
        have hri:=r.hi
        have hlr:(zi3 W R nonce 2 l (0+r.i)).length=l.length:=zp1 (by omega)
        have hR:((r.i:Int)).toNat=r.i:=Int.toNat_natCast _
        by_cases h5:r.i<min n 16
        ·refine za ?_
         refine ⟨⟨r.i+1,h5⟩,[0,1,2,3,4],by show ((min n 16))-(r.i+1)<((min n 16))-r.i;omega,?_⟩
         repeat ((conv=>whnf);refine zb ?_)
         conv=>whnf
         refine zv (congrArg (fun x=>SV.agg [SV.arr8 m x]) (z9 (by omega) ?hv ?hkk)) ?_
         case hkk=>show r.i=0+(0+r.i);omega
         case hv=>
           show List.getD (ovr l 0 (stG W R nonce 2 l) (0+r.i)) (r.i) 0^^^List.getD (enc W R (ctr nonce (2:UInt32))) r.i 0=_
           rw [yw (by omega) _ (by omega)]
           unfold stG kb
           rw [show (0+r.i)/ 16=0 by omega,show (0+r.i)%16=r.i by omega,show (2:UInt32)+UInt32.ofNat 0=2 from rfl,Nat.zero_add]
         exact zn
        ·have e5:r.i=min n 16:=by omega
         rw [e5]
         refine za ?_
         rw [hmn]
         refine ⟨some ⟨0+1,slO cap (min n 16),n-min n 16,cap-min n 16,by omega,fun h0=>by
           have hne:cap≠min n 16:=by omega
           rw [y7 hne];omega,by omega⟩,[0,1,2,3],by show n-min n 16<n+1;omega,?_⟩
         repeat ((conv=>whnf);refine zb ?_)
         conv=>whnf
         refine zv (congrArg (fun k=>SV.agg [SV.arr8 m (zi3 W R nonce 2 l k)]) (by show 0+min n 16=n-(n-min n 16);omega)) ?_
         repeat ((conv=>whnf);refine zb ?_)
         skip
         exact trivial
      ·have e4:n=0:=by omega
       refine za ?_
       refine yu (hp':= [.mk t0 [.ptr 1 0 0 [],.u64 h1,.u64 h2],.mk t1 [.arr8 256 box,.sl 2 0 0 [] R c],.mk t2 [.arr8 N W],.mk t [.arr8 m (zi3 W R nonce 2 l n)]]) [0,1,2,3] h ?_
       repeat ((conv=>whnf);refine zb ?_)
       conv=>whnf
       exact zo (congrArg (fun x=>SV.agg [SV.arr8 m x]) (by rw [e4];unfold zi3;exact (zaj _ _ _).symm))
     |some s=>
      have hsn:=s.hn
      have hsx:=s.hx
      have hsc:=s.hc
      have hls:(zi3 W R nonce 2 l (n-s.k)).length=l.length:=zp1 (by omega)
      by_cases h4:0<s.k
      ·have hX:=hsx h4
       have hD:n-s.k=16*s.t:=by omega
       have hmn:(min (s.k:Int) 16).toNat=min s.k 16:=by omega
       have hcl:=znb hnon (2+UInt32.ofNat s.t)
       have hp5:box=box∧(ctr nonce (2+UInt32.ofNat s.t)).length=16∧1≤R∧R≤100∧16*R≤W.length:=⟨rfl,hcl,hR1,hR2,hW⟩
       have hkl:=zh4 W R (ctr nonce (2+UInt32.ofNat s.t))
       refine za ?_
       refine zt (Ix ((min s.k 16))) (fun r=>⟨[(0,.ptr 0 0 0 []),(1,.str nonce),(2,.sl 3 0 0 [(s.x,1)] s.k s.c),(6,.u32 (2+UInt32.ofNat s.t)),(7,.ptr 4 0 0 []),(8,.int (min (s.k:Int) 16)),(26,.int (min (s.k:Int) 16)),(27,.int r.i)],[.mk t0 [.ptr 1 0 0 [],.u64 h1,.u64 h2],.mk t1 [.arr8 256 box,.sl 2 0 0 [] R c],.mk t2 [.arr8 N W],.mk t [.arr8 m (zi3 W R nonce 2 l ((n-s.k)+r.i))],.mk 168 [.arr8 16 (enc W R (ctr nonce (2+UInt32.ofNat s.t)))]]⟩) (fun r=>((min s.k 16))-r.i) ⟨0,Nat.zero_le _⟩ [0,1,2,3,4] ?_ ?_
       ·exact zn
       ·intro r
        have hri:=r.hi
        have hlr:(zi3 W R nonce 2 l ((n-s.k)+r.i)).length=l.length:=zp1 (by omega)
        have hR:((r.i:Int)).toNat=r.i:=Int.toNat_natCast _
        by_cases h5:r.i<min s.k 16
        ·refine za ?_
         refine ⟨⟨r.i+1,h5⟩,[0,1,2,3,4],by show ((min s.k 16))-(r.i+1)<((min s.k 16))-r.i;omega,?_⟩
         repeat ((conv=>whnf);refine zb ?_)
         conv=>whnf
         refine zv (congrArg (fun x=>SV.agg [SV.arr8 m x]) (z9 (by omega) ?hv ?hkk)) ?_
         case hkk=>show s.x+r.i=0+((n-s.k)+r.i);omega
         case hv=>
           show List.getD (ovr l 0 (stG W R nonce 2 l) ((n-s.k)+r.i)) (s.x+r.i) 0^^^List.getD (enc W R (ctr nonce (2+UInt32.ofNat s.t))) r.i 0=_
           rw [yw (by omega) _ (by omega)]
           unfold stG kb
           rw [show ((n-s.k)+r.i)/ 16=s.t by omega,show ((n-s.k)+r.i)%16=r.i by omega,show s.x+r.i=n-s.k+r.i by omega]
         exact zn
        ·have e5:r.i=min s.k 16:=by omega
         rw [e5]
         refine za ?_
         rw [hmn]
         refine ⟨some ⟨s.t+1,s.x+slO s.c (min s.k 16),s.k-min s.k 16,s.c-min s.k 16,by omega,fun h0=>by
           have hne:s.c≠min s.k 16:=by omega
           rw [y7 hne];omega,by omega⟩,[0,1,2,3],by show s.k-min s.k 16<s.k;omega,?_⟩
         repeat ((conv=>whnf);refine zb ?_)
         conv=>whnf
         refine zv (congrArg (fun k=>SV.agg [SV.arr8 m (zi3 W R nonce 2 l k)]) (by show (n-s.k)+min s.k 16=n-(s.k-min s.k 16);omega)) ?_
         repeat ((conv=>whnf);refine zb ?_)
         conv=>whnf
         exact zo (congrArg SV.u32 (by show (2+UInt32.ofNat s.t)+UInt32.ofNat 1=2+UInt32.ofNat (s.t+1);exact Go.Sym.Gcm.u32_add _ _))
      ·have e4:s.k=0:=by omega
       refine za ?_
       refine yu (hp':= [.mk t0 [.ptr 1 0 0 [],.u64 h1,.u64 h2],.mk t1 [.arr8 256 box,.sl 2 0 0 [] R c],.mk t2 [.arr8 N W],.mk t [.arr8 m (zi3 W R nonce 2 l n)]]) [0,1,2,3] h ?_
       repeat ((conv=>whnf);refine zb ?_)
       conv=>whnf
       exact zo (congrArg (fun k=>SV.agg [SV.arr8 m (zi3 W R nonce 2 l k)]) (by show n-s.k=n;omega))
   ·exact h.elim
end Go.Sym.Z

namespace Go.Sym.Z
open Go Go.Proofs.Tryz Go.Sym.Lp Go.Sym.Gcm Go.Sym.Aes
set_option maxRecDepth 100000
attribute [local irreducible] ldE ld yl hf4 zgm zgz zbt enc ks box ctr tb fl gaB wr zha
def yg0:List (Nat×List PStep):= [(8,[⟨0,[]⟩,⟨1,[]⟩,⟨2,[]⟩,⟨3,[]⟩,⟨4,[0,1,2,3]⟩,⟨7,[0,1,2,3,4]⟩,⟨5,[0,1,2,3,7]⟩,⟨6,[7]⟩,⟨8,[]⟩]),(12,[⟨0,[]⟩,⟨1,[]⟩,⟨2,[]⟩,⟨3,[0,1,2]⟩,⟨4,[0,1,2]⟩,⟨5,[0,1,2]⟩,⟨6,[]⟩,⟨7,[]⟩,⟨8,[]⟩])]
def gtg (W:List UInt8) (R:Nat) (h:El) (nonce aad b:List UInt8):List UInt8:=
  gst W R nonce 1 (wr (zha h (zqs aad b) (gN aad b)))
def z8r:Spec:=fun args hp K=>match args,hp with
  | [.ptr 0 0 0 [],.str nonce,.str aad,.sl 3 0 0 [] n c],[.mk t0 [.ptr 1 0 0 [],.u64 h1,.u64 h2],.mk t1 [.arr8 256 bx,.sl 2 0 0 [] R cR],.mk t2 [.arr8 N W],.mk t [.arr8 m l]]=>
      Pre (bx=box∧nonce.length=12∧1≤R∧R≤100∧16*R≤W.length∧n≤l.length∧n≤c∧aad.length≤65536∧n≤70000)
      (K (.str (gtg W R (h1,h2) nonce aad (l.take n))) [.mk t0 [.ptr 1 0 0 [],.u64 h1,.u64 h2],.mk t1 [.arr8 256 bx,.sl 2 0 0 [] R cR],.mk t2 [.arr8 N W],.mk t [.arr8 m l]])
  |_,_=>False
set_option maxHeartbeats 4000000 in
theorem yev:zp prog 119 z8r:=by
  refine zm y5 (zd yei (zd yf9 (zd z8k (zd z6j (zd zoe (zd zlj zi)))))) rfl func119 rfl call119 (D:=yg0) ?_ ?_
  ·intro args hp K h
   unfold z8r at h
   split at h
   ·exact Nat.le_of_ble_eq_true rfl
   ·exact h.elim
  ·intro args hp K h
   unfold z8r at h
   split at h
   ·rename_i nonce aad n c t0 h1 h2 t1 bx R cR t2 N W t m l
    obtain ⟨⟨rfl,hnon,hR1,hR2,hW,hl,hc,ha,hn⟩,h⟩:=zq h
    have hT:=yea (h1,h2)
    have hF:fl.length=16:=by unfold fl;simp
    refine za ?_
    refine yi fun tl=>?_
    have hw16:=zi1 (UInt64.ofInt (aad.length:Int)*UInt64.ofNat 8,UInt64.ofInt (n:Int)*UInt64.ofNat 8)
    have hpa:(tb (h1,h2)).length=32∧fl.length=16∧16≤16∧off []+16≤(wr (UInt64.ofInt (aad.length:Int)*UInt64.ofNat 8,UInt64.ofInt (n:Int)*UInt64.ofNat 8)).length:=⟨hT,hF,by decide,by rw [hw16];decide⟩
    have hcl:=znb hnon 1
    have hpe:box=box∧(ctr nonce 1).length=16∧1≤R∧R≤100∧16*R≤W.length:=⟨rfl,hcl,hR1,hR2,hW⟩
    obtain ⟨O,hO⟩: ∃O,O=wr (zha (h1,h2) (zqs aad (l.take n)) (gN aad (l.take n))):=⟨_,rfl⟩
    have hOl:O.length=16:=by rw [hO];exact zi1 _
    have hbl:(l.take n).length=n:=by rw [List.length_take];omega
    have hlen: ∀k:Nat,UInt64.ofInt (k:Int)*UInt64.ofNat 8=UInt64.ofNat (8*k):=fun k=>by
      rw [z1c,UInt64.ofNat_mul,UInt64.mul_comm]
    have hraw:wr (zgz (tb (h1,h2)) fl (xr (ld (List.take 16 (List.drop (off []) (wr (UInt64.ofInt (aad.length:Int)*UInt64.ofNat 8,UInt64.ofInt (n:Int)*UInt64.ofNat 8))))) (gaB (tb (h1,h2)) fl (gaB (tb (h1,h2)) fl (0,0) (List.take aad.length (aad++tl))) (List.take n l))))=O:=by
      have e1:List.take aad.length (aad++tl)=aad:=List.take_left' rfl
      have e2:List.take 16 (List.drop (off []) (wr (UInt64.ofInt (aad.length:Int)*UInt64.ofNat 8,UInt64.ofInt (n:Int)*UInt64.ofNat 8)))=wr (UInt64.ofInt (aad.length:Int)*UInt64.ofNat 8,UInt64.ofInt (n:Int)*UInt64.ofNat 8):=List.take_of_length_le (Nat.le_of_eq hw16)
      have e3:=ygl (h1,h2) aad (l.take n)
      rw [hbl] at e3
      rw [e1,e2,hlen,hlen,hO,←e3]
      rfl
    have hG:gtg W R (h1,h2) nonce aad (l.take n)=gst W R nonce 1 O:=by unfold gtg;rw [hO]
    rw [hG] at h
    have hkl:=zh4 W R (ctr nonce 1)
    refine za ?_
    refine zt (Ix (16)) (fun q=>⟨[(12,.ptr 4 0 0 []),(13,.ptr 5 0 0 []),(53,.int q.i)],[.mk t0 [.ptr 1 0 0 [],.u64 h1,.u64 h2],.mk t1 [.arr8 256 box,.sl 2 0 0 [] R cR],.mk t2 [.arr8 N W],.mk t [.arr8 m l],.mk 168 [.arr8 16 (ovr O 0 (stG W R nonce 1 O) q.i)],.mk 168 [.arr8 16 (enc W R (ctr nonce 1))]]⟩) (fun q=>(16)-q.i) ⟨0,Nat.zero_le _⟩ [0,1,2,3,8,9] ?_ ?_
    ·repeat ((conv=>whnf);refine zb ?_)
     conv=>whnf
     exact zo (congrArg (fun x=>SV.agg [SV.arr8 16 x]) (hraw.trans (zaj _ _ _).symm))
    ·intro q
     have hi:=q.hi
     have hlo:=yg (l:=O) (a:=0) (i:=q.i) (by omega) (stG W R nonce 1 O)
     have hI:((q.i:Int)).toNat=q.i:=Int.toNat_natCast _
     by_cases h4:q.i<16
     ·refine za ?_
      refine ⟨⟨q.i+1,h4⟩,[0,1,2,3,4,5],by show (16)-(q.i+1)<(16)-q.i;omega,?_⟩
      repeat ((conv=>whnf);refine zb ?_)
      conv=>whnf
      refine zv (congrArg (fun x=>SV.agg [SV.arr8 16 x]) (z9 (by omega) ?hv ?hkk)) ?_
      case hkk=>show q.i=0+q.i;omega
      case hv=>
        show List.getD (ovr O 0 (stG W R nonce 1 O) q.i) q.i 0^^^List.getD (enc W R (ctr nonce 1)) q.i 0=_
        rw [yw (by omega) _ (by omega)]
        unfold stG kb
        rw [show q.i/ 16=0 by omega,show q.i%16=q.i by omega,show (1:UInt32)+UInt32.ofNat 0=1 from rfl]
      exact zn
     ·have e4:q.i=16:=by omega
      have hfin:List.take 16 (List.drop (off []) (ovr O 0 (stG W R nonce 1 O) 16))=gst W R nonce 1 O:=by
        rw [y4 hOl]
        unfold gst
        rw [hOl]
        exact List.take_of_length_le (by simp)
      rw [e4] at hlo
      rw [e4]
      refine za ?_
      rw [hfin]
      conv=>whnf
      exact zf [0,1,2,3] h
   ·exact h.elim
end Go.Sym.Z

namespace Go.Sym.Z
open Go Go.Proofs.Tryz Go.Sym.Lp Go.Sym.Gcm Go.Sym.Aes
set_option maxRecDepth 100000
attribute [local irreducible] gst gtg gH gW enc ks box
def kl (key:List UInt8):Prop:=key.length=16∨key.length=32
instance (key:List UInt8):Decidable (kl key):=by unfold kl;exact inferInstance
def zew (key nonce aad b:List UInt8):List UInt8:=gtg (gW key) (gR key) (gH (gW key) (gR key)) nonce aad b
theorem z60 (key nonce aad b:List UInt8):(zew key nonce aad b).length=16:=by
  unfold zew gtg;rw [zhu,zi1]
def zft (key nonce s:List UInt8):List UInt8:=gst (gW key) (gR key) nonce 2 s
theorem z8u (key nonce s:List UInt8):(zft key nonce s).length=s.length:=zhu _ _ _ _ _
def zgf (key nonce aad s:List UInt8):List UInt8:=zft key nonce s++zew key nonce aad (zft key nonce s)
def zpu:Spec:=fun args hp K=>match args,hp with
  | [.str key,.str nonce,.str aad,.str s],[]=>
      if (key.length=16∨key.length=32)∧nonce.length=12∧aad.length≤65536∧(s.length:Int)≤65536 then
       K (.tup [.str (zgf key nonce aad s),.int 0]) []
      else K (.tup [.str [],.int 500]) []
  |_,_=>False
def zpz:Spec:=fun args hp K=>match args,hp with
  | [.str key,.str nonce,.str aad,.str s],[]=>
      if (key.length=16∨key.length=32)∧nonce.length=12∧aad.length≤65536∧(s.length:Int)≤65552 then
       (if 16≤s.length∧zew key nonce aad (s.take (s.length-16))=s.drop (s.length-16) then K (.tup [.str (zft key nonce (s.take (s.length-16))),.int 0]) []
       else K (.tup [.str [],.int 501]) [])
      else K (.tup [.str [],.int 500]) []
  |_,_=>False
end Go.Sym.Z

namespace Go.Sym.Ib
open Go Go.Sym
theorem z3f {a m:Int} (h0:0≤m) (h1:m<9223372036854775808):0≤zae .and a m∧zae .and a m≤m:=by
  unfold zae
  dsimp only
  have hle:(BitVec.ofInt 64 a&&&BitVec.ofInt 64 m).toNat≤(BitVec.ofInt 64 m).toNat:=by
    rw [BitVec.toNat_and];exact Nat.and_le_right
  have hm:((BitVec.ofInt 64 m).toNat:Int)=m:=by
    rw [BitVec.toNat_ofInt]
    have:(2^64:Nat)=18446744073709551616:=by decide
    rw [this]
    omega
  rw [zao _ (by unfold ya;omega)]
  omega
theorem z3h {a:Int} (h:0≤a):zae .and a 255=a%256:=by
  have hb:=z3f (a:=a) (m:=255) (by decide) (by decide)
  unfold zae at hb ⊢
  dsimp only at hb ⊢
  have hle:(BitVec.ofInt 64 a&&&BitVec.ofInt 64 255).toNat=(BitVec.ofInt 64 a).toNat%256:=by
    rw [BitVec.toNat_and];exact Nat.and_two_pow_sub_one_eq_mod _ 8
  rw [hle,zao _ (by unfold ya;omega),BitVec.toNat_ofInt]
  have:(2^64:Nat)=18446744073709551616:=by decide
  rw [this]
  omega
theorem u8_255 {a:Int} (h:0≤a):UInt8.ofInt (zae .and a 255)=UInt8.ofInt a:=by
  rw [z3h h]
  apply UInt8.toNat_inj.1
  have h1:=zjg (a%256)
  have h2:=zjg a
  omega
theorem ibits_or {a b:Nat} (ha:a<9223372036854775808) (hb:b<9223372036854775808) (h:a|||b<9223372036854775808):zae .or (a:Int) (b:Int)=((a|||b:Nat):Int):=by
  unfold zae
  dsimp only
  have e:(2^64:Nat)=18446744073709551616:=by decide
  have e1:(BitVec.ofInt 64 (a:Int)).toNat=a:=by rw [BitVec.toNat_ofInt,e];omega
  have e2:(BitVec.ofInt 64 (b:Int)).toNat=b:=by rw [BitVec.toNat_ofInt,e];omega
  rw [BitVec.toNat_or,e1,e2,zao _ (by unfold ya;omega)]
theorem ibits_or_bit {a c k:Nat} (h:a<2^k) (hc:c≤1) (hk:k<8):zae .or (a:Int) ((c:Int)*2^k)=((a+c*2^k:Nat):Int):=by
  have hp:2^k≤2^7:=Nat.pow_le_pow_right (by decide) (by omega)
  have hcm:c*2^k≤1*2^7:=Nat.mul_le_mul hc hp
  have e:2^k*c|||a=2^k*c+a:=(Nat.two_pow_add_eq_or_of_lt h c).symm
  have eo:a|||c*2^k=a+c*2^k:=by rw [Nat.or_comm,Nat.mul_comm c,e,Nat.add_comm]
  have ec:((c:Int)*2^k)=((c*2^k:Nat):Int):=by rw [Int.natCast_mul,Int.natCast_pow];rfl
  rw [ec,ibits_or (by omega) (by omega) (by rw [eo];omega),eo]
end Go.Sym.Ib
