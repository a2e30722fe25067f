/-
  Contracts of functions of the program, each said of symbolic values, and plain laws; no condition beyond each statement's own.
-/
import Derived.Test.YtmmpgjcpielefaaGreatG21
set_option linter.unusedSimpArgs false
set_option linter.unusedVariables false
namespace Go.Sym.Z
open Go Go.Proofs.Tryz Go.Sym.Lp Go.Sym.Aes
set_option maxRecDepth 100000
attribute [local irreducible] box tw rc ks
def yfr:List (Nat×List PStep):= []
def yhq:List (Nat×List PStep):= [(6,[⟨0,[]⟩,⟨1,[0]⟩,⟨2,[0,1]⟩,⟨3,[0,1]⟩,⟨4,[0]⟩,⟨5,[0,1,2,3,4]⟩,⟨6,[0,1,2,3,4,5]⟩,⟨7,[0,1,2,3,4,5]⟩,⟨8,[0,1,2,3,4,5]⟩,⟨9,[0,1,2,3,4]⟩,⟨10,[0,1,2,3,4,5,6,7,8,9]⟩,⟨11,[0,1,2,3,4,5,6,7,8,9,10]⟩,⟨12,[0,1,2,3,4,5,6,7,8,9,10]⟩,⟨13,[0,1,2,3,4,5,6,7,8,9,10]⟩,⟨14,[0,1,2,3,4,5,6,7,8,9]⟩,⟨15,[0,1,2,3,4,5,6,7,8,9,10,11,12,13,14]⟩,⟨16,[0,1,2,3,4,5,6,7,8,9,10,11,12,13,14,15]⟩,⟨17,[0,1,2,3,4,5,6,7,8,9,10,11,12,13,14,15]⟩,⟨18,[0,1,2,3,4,5,6,7,8,9,10,11,12,13,14,15]⟩,⟨19,[0,1,2,3,4,5,6,7,8,9,10,11,12,13,14]⟩,⟨20,[0]⟩,⟨21,[0]⟩,⟨22,[]⟩,⟨23,[]⟩]),(13,[⟨0,[]⟩,⟨1,[]⟩,⟨2,[]⟩,⟨3,[0,1,2]⟩,⟨4,[]⟩,⟨5,[0,1,2,3,4]⟩,⟨6,[0,1,2,3,4]⟩,⟨7,[0,1,2,3,4]⟩,⟨8,[0,1,2,3,4,5,6,7]⟩,⟨9,[0,1,2,3,4,5,6,7]⟩,⟨10,[0,1,2,3,4,5,6,7]⟩,⟨11,[0,1,2,3,4,5,6,7,8,9,10]⟩,⟨12,[0,1,2,3,4,5,6,7,8,9,10]⟩,⟨13,[0,1,2,3,4,5,6,7,8,9,10]⟩,⟨14,[]⟩,⟨15,[]⟩]),(16,[⟨0,[]⟩,⟨1,[]⟩,⟨2,[]⟩,⟨3,[0,1,2]⟩,⟨4,[0,1,2]⟩,⟨5,[0,1,2]⟩,⟨6,[0,1,2,3,4,5]⟩,⟨7,[0,1,2,3,4,5]⟩,⟨8,[0,1,2,3,4,5]⟩,⟨9,[0,1,2,3,4,5,6,7,8]⟩,⟨10,[0,1,2,3,4,5,6,7,8]⟩,⟨11,[0,1,2,3,4,5,6,7,8]⟩,⟨12,[]⟩,⟨13,[]⟩]),(20,[⟨0,[]⟩,⟨1,[0]⟩,⟨2,[0]⟩,⟨3,[0]⟩,⟨4,[0,1,2,3]⟩,⟨5,[0,1,2,3,4]⟩,⟨6,[0,1,2,3,4,5]⟩,⟨7,[0,1,2,3,4]⟩,⟨8,[0,1,2,3,4,5,6,7]⟩,⟨9,[0,1,2,3,8]⟩,⟨10,[0,1,2,3]⟩,⟨11,[0,1,2,3]⟩,⟨12,[0]⟩,⟨13,[]⟩,⟨14,[]⟩])]
def zrm:Spec:=fun args hp K=>match args,hp with
  | [.u8 x],[]=>K (.u8 (tw x)) []
  |_,_=>False
theorem zvf:zm prog 106 zrm:=by
  refine zk zc5 zg rfl func106 rfl call106 (D:=yfr) ?_ ?_
  ·intro args hp K h
   unfold zrm at h
   split at h
   ·exact Nat.le_of_ble_eq_true rfl
   ·exact h.elim
  ·intro args hp K h
   unfold zrm at h
   split at h
   ·rename_i x
    by_cases hx:127<x.toNat
    ·have hd:decide (UInt8.ofNat 127<x)=true:=decide_eq_true (by rw [UInt8.lt_iff_toNat_lt];exact hx)
     repeat ((conv=>whnf);first|refine zu ?_|refine zi ?_|refine zj ?_|refine zb ?_|refine zw (by first|exact hd) ?_|refine zo (by first|exact hd) ?_|refine zn (by first|exact hd) ?_)
     conv=>whnf
     rw [ygb hx] at h
     conv=>whnf
     exact ze [] h
    ·have hd:decide (UInt8.ofNat 127<x)=false:=decide_eq_false (by rw [UInt8.lt_iff_toNat_lt];exact hx)
     repeat ((conv=>whnf);first|refine zu ?_|refine zi ?_|refine zj ?_|refine zb ?_|refine zw (by first|exact hd) ?_|refine zo (by first|exact hd) ?_|refine zn (by first|exact hd) ?_)
     conv=>whnf
     rw [ydl hx] at h
     conv=>whnf
     exact ze [] h
   ·exact h.elim
structure Wx (n:Nat) where
  i:Nat
  hi:i≤n
  t:Tl UInt8 4
structure Wz (n m:Nat) where
  i:Nat
  h1:n≤i
  h2:i≤m
  t:Tl UInt8 4
def zr7:Spec:=fun args hp K=>match args,hp with
  | [.str key],[]=>Pre (key.length=16∨key.length=32) (zc4 fun x:Tl UInt8 4=>K (.sl 0 0 0 [] (key.length+28) (key.length+28+x.t)) [.mk 148 [.arr8 (4*(key.length+28)+x.t*4) (ks key (key.length/ 4) (key.length+28)++x.l)]])
  |_,_=>False
set_option maxHeartbeats 8000000 in
theorem z24:zm prog 77 zr7:=by
  refine zk zc5 (zc zvf zg) rfl func77 rfl call77 (D:=yhq) ?_ ?_
  ·intro args hp K h
   unfold zr7 at h
   split at h
   ·exact Nat.le_of_ble_eq_true rfl
   ·exact h.elim
  ·intro args hp K h
   unfold zr7 at h
   split at h
   ·rename_i key
    obtain ⟨hk,h⟩:=zl h
    have hB:=zmj
    rcases hk with hk|hk
    ·have hkn:key.length=4*4:=hk
     have hq:(key.length:Int).tdiv 4=4:=by rw [hk];rfl
     have hf:yb ((key.length:Int).tdiv 4):=by rw [hq];unfold yb;omega
     have hf2:(4:Int)≠0∧yb ((key.length:Int).tdiv 4):=⟨by decide,hf⟩
     have h:=zbk h
     rw [hk] at h
     replace h: ∀x:Tl UInt8 4,K (.sl 0 0 0 [] 44 (44+x.t)) [.mk 148 [.arr8 (4*44+x.t*4) (ks key 4 44++x.l)]]:=h
     refine za ?_
     rw [hq]
     refine za ?_
     refine zp (Option (Wx 4)) (fun q=>match q with
       |none=>⟨[(0,.str key),(3,.int 4),(4,.nilsl),(5,.int 0)],[]⟩
       |some s=>⟨[(0,.str key),(3,.int 4),(4,.sl 0 0 0 [] s.i (s.i+s.t.t)),(5,.int s.i)],[.mk 148 [.arr8 (4*s.i+s.t.t*4) (ks key 4 s.i++s.t.l)]]⟩)
       (fun q=>match q with|none=>4+1|some s=>4-s.i) none [] ?_ ?_
     ·exact zt
     ·intro q
      cases q with
      |none=>
       refine za ?_
       refine y0 fun x=>?_
       refine za ?_
       refine ⟨some ⟨1,by decide,x⟩,[1],by show 4-1<4+1;omega,?_⟩
       repeat ((conv=>whnf);refine zb ?_)
       conv=>whnf
       refine zq (zpi rfl ?hl) ?_
       case hl=>
         show [key.getD 0 0,key.getD 1 0,key.getD 2 0,key.getD 3 0]++x.l=ks key 4 1++x.l
         rw [zdg key 4 0,zyv]
         unfold xi
         rw [if_pos (by decide),take4 (by omega)];rfl
       exact zt
      |some s=>
       have hi:=s.hi
       have hl:=za3 hkn s.i
       have ht:=s.t.h
       have hI:((s.i:Int)).toNat=s.i:=Int.toNat_natCast _
       by_cases h4:s.i<4
       ·refine za ?_
        refine zw ⟨Nat.le_add_right _ _,by show 4*s.i+s.t.t*4=(s.i+s.t.t)*4;omega,by decide,by show (s.i+1)*4≤_;omega⟩ ?_
        refine za ?_
        refine y0 fun x=>?_
        refine za ?_
        refine ⟨some ⟨s.i+1,h4,x⟩,[2],by show 4-(s.i+1)<4-s.i;omega,?_⟩
        repeat ((conv=>whnf);refine zb ?_)
        conv=>whnf
        refine zq (zpi (by show s.i*4+1*4+x.t*4=4*(s.i+1)+x.t*4;omega) ?hl) ?_
        case hl=>
          show List.take (s.i*4) (ks key 4 s.i++s.t.l)++ [key.getD (4*s.i) 0,key.getD (4*s.i+1) 0,key.getD (4*s.i+2) 0,key.getD (4*s.i+3) 0]++x.l=ks key 4 (s.i+1)++x.l
          rw [List.take_left' (by rw [hl];omega)]
          rw [zdg]
          unfold xi
          rw [if_pos h4,take4 (by omega)]
        exact zt
       ·have e4:s.i=4:=by omega
        obtain ⟨si,shi,st⟩:=s
        replace e4:si=4:=e4
        subst e4
        clear hi hI h4 hl ht
        refine za ?_
        refine zp (Wz 4 44) (fun s=>⟨[(0,.str key),(3,.int 4),(4,.sl 0 0 0 [] s.i (s.i+s.t.t)),(6,.u8 (rc ((s.i-1)/ 4))),(7,.int s.i)],[.mk 148 [.arr8 (4*s.i+s.t.t*4) (ks key 4 s.i++s.t.l)]]⟩)
          (fun s=>44-s.i) ⟨4,by decide,by decide,st⟩ [0] ?_ ?_
        ·repeat ((conv=>whnf);refine zb ?_)
         conv=>whnf
         exact zh (congrArg SV.u8 (by show UInt8.ofNat 1=rc ((4-1)/ 4);rw [show (4-1)/ 4=0 by decide];unfold rc;rfl))
        ·intro s
         have hi1:=s.h1
         have hi2:=s.h2
         have hl:=za3 hkn s.i
         have ht:=s.t.h
         have hI:((s.i:Int)).toNat=s.i:=Int.toNat_natCast _
         have hm0:((s.i:Int)).tmod 4=((s.i%4:Nat):Int):=by rw [Int.tmod_eq_emod_of_nonneg (by omega)];omega
         by_cases h4:s.i<44
         ·obtain ⟨T,hT⟩: ∃T,T=((ks key 4 s.i).drop (4*(s.i-1))).take 4:=⟨_,rfl⟩
          have hTl:T.length=4:=by rw [hT,List.length_take,List.length_drop,za3 hkn];omega
          have tT:List.take zan.sz (List.drop (off (ye [] ((s.i:Int)-1).toNat zan.sz)) (ks key 4 s.i++s.t.l))=T:=by
            rw [hT]
            show List.take 4 (List.drop (((s.i:Int)-1).toNat*4) _)=_
            rw [show ((s.i:Int)-1).toNat*4=4*(s.i-1) by omega,List.drop_append_of_le_length (by omega),List.take_append_of_le_length (by rw [List.length_drop];omega)]
          have hnx:(List.range 4).map (fun k=>(ks key 4 s.i).getD (4*(s.i-4)+k) 0^^^(xz 4 s.i T).getD k 0)=xi key 4 s.i (ks key 4 s.i):=by
            unfold xi;rw [if_neg (by omega),←hT]
          by_cases h6:s.i%4=0
          ·refine za ?_
           rw [z7h,tT]
           refine zp (Ix (4)) (fun r=>⟨[(0,.str key),(3,.int 4),(4,.sl 0 0 0 [] s.i (s.i+s.t.t)),(6,.u8 (tw (rc ((s.i-1)/ 4)))),(7,.int s.i),(8,.ptr 1 0 0 []),(9,.int r.i)],[.mk 148 [.arr8 (4*s.i+s.t.t*4) (ks key 4 s.i++s.t.l)],.mk 148 [.arr8 4 (ovr (xz 4 s.i T) 0 (fun k=>(ks key 4 s.i).getD (4*(s.i-4)+k) 0^^^(xz 4 s.i T).getD k 0) r.i)]]⟩) (fun r=>(4)-r.i) ⟨0,Nat.zero_le _⟩ [0,1] ?_ ?_
           ·repeat ((conv=>whnf);refine zb ?_)
            conv=>whnf
            exact zh (by show _=SV.agg [SV.arr8 4 (ovr _ 0 _ 0)];rw [zab];unfold xz;rw [if_pos h6];rfl)
           ·intro r
            have hri:=r.hi
            have hJ:((r.i:Int)).toNat=r.i:=Int.toNat_natCast _
            have hTW:=zbn (n:=4) (i:=s.i) hTl
            have hlo:=yc (l:=xz 4 s.i T) (a:=0) (i:=r.i) (by omega) (fun k=>(ks key 4 s.i).getD (4*(s.i-4)+k) 0^^^(xz 4 s.i T).getD k 0)
            have hWl:(ks key 4 s.i++s.t.l).length=4*s.i+s.t.t*4:=by rw [List.length_append,hl,ht]
            by_cases h7:r.i<4
            ·refine za ?_
             refine ⟨⟨r.i+1,h7⟩,[0,1],by show (4)-(r.i+1)<(4)-r.i;omega,?_⟩
             repeat ((conv=>whnf);refine zb ?_)
             conv=>whnf
             refine zq (congrArg (fun x=>SV.agg [SV.arr8 4 x]) (z8 (by omega) ?hv ?hkk)) ?_
             case hkk=>show r.i=0+r.i;omega
             case hv=>
               show List.getD (ovr _ _ _ _) r.i 0^^^List.getD (ks key 4 s.i++s.t.l) (((s.i:Int)-4).toNat*4+r.i) 0=_
               rw [yp (by omega) _ (by omega),show ((s.i:Int)-4).toNat*4+r.i=4*(s.i-4)+r.i by omega,List.getD_eq_getElem?_getD (l:=_++_),List.getElem?_append_left (by omega),←List.getD_eq_getElem?_getD,UInt8.xor_comm]
             exact zt
            ·have e7:r.i=4:=by omega
             rw [e7,yy hTW,hnx]
             have hNl:=zcf (i:=s.i) hkn (ks key 4 s.i)
             have eSp:z9 (List.replicate (1*4) 0) (off [(0,zan.sz)]) (xi key 4 s.i (ks key 4 s.i))=xi key 4 s.i (ks key 4 s.i):=by
               show List.take 0 _++xi key 4 s.i (ks key 4 s.i)++List.drop (0+_) (List.replicate 4 0)=_
               rw [hNl];simp
             refine za ?_
             rw [eSp]
             refine za ?_
             refine zw ⟨Nat.le_add_right _ _,by show 4*s.i+s.t.t*4=(s.i+s.t.t)*4;omega,by decide,by show (s.i+1)*4≤_;omega⟩ ?_
             refine za ?_
             refine y0 fun x=>?_
             refine za ?_
             refine ⟨⟨s.i+1,by omega,h4,x⟩,[3],by show 44-(s.i+1)<44-s.i;omega,?_⟩
             repeat ((conv=>whnf);refine zb ?_)
             conv=>whnf
             refine zq (zpi (by show s.i*4+1*4+x.t*4=4*(s.i+1)+x.t*4;omega) ?hl) ?_
             case hl=>
               show List.take (s.i*4) (ks key 4 s.i++s.t.l)++List.take (1*4) (xi key 4 s.i (ks key 4 s.i))++x.l=ks key 4 (s.i+1)++x.l
               rw [List.take_left' (by rw [hl];omega),zdg,List.take_of_length_le (by omega)]
             repeat ((conv=>whnf);refine zb ?_)
             conv=>whnf
             exact zh (congrArg SV.u8 (by show (tw (rc ((s.i-1)/ 4)))=rc ((s.i+1-1)/ 4);rw [Nat.add_sub_cancel,zl8 (by omega) (by omega) h6]))
          ·refine za ?_
           rw [tT]
           refine zp (Ix (4)) (fun r=>⟨[(0,.str key),(3,.int 4),(4,.sl 0 0 0 [] s.i (s.i+s.t.t)),(6,.u8 (rc ((s.i-1)/ 4))),(7,.int s.i),(8,.ptr 1 0 0 []),(9,.int r.i)],[.mk 148 [.arr8 (4*s.i+s.t.t*4) (ks key 4 s.i++s.t.l)],.mk 148 [.arr8 4 (ovr (xz 4 s.i T) 0 (fun k=>(ks key 4 s.i).getD (4*(s.i-4)+k) 0^^^(xz 4 s.i T).getD k 0) r.i)]]⟩) (fun r=>(4)-r.i) ⟨0,Nat.zero_le _⟩ [0,1] ?_ ?_
           ·repeat ((conv=>whnf);refine zb ?_)
            conv=>whnf
            exact zh (by show SV.agg [SV.arr8 4 T]=SV.agg [SV.arr8 4 (ovr _ 0 _ 0)];rw [zab];unfold xz;rw [if_neg h6,if_neg (fun h=>absurd h.1 (by decide))])
           ·intro r
            have hri:=r.hi
            have hJ:((r.i:Int)).toNat=r.i:=Int.toNat_natCast _
            have hTW:=zbn (n:=4) (i:=s.i) hTl
            have hlo:=yc (l:=xz 4 s.i T) (a:=0) (i:=r.i) (by omega) (fun k=>(ks key 4 s.i).getD (4*(s.i-4)+k) 0^^^(xz 4 s.i T).getD k 0)
            have hWl:(ks key 4 s.i++s.t.l).length=4*s.i+s.t.t*4:=by rw [List.length_append,hl,ht]
            by_cases h7:r.i<4
            ·refine za ?_
             refine ⟨⟨r.i+1,h7⟩,[0,1],by show (4)-(r.i+1)<(4)-r.i;omega,?_⟩
             repeat ((conv=>whnf);refine zb ?_)
             conv=>whnf
             refine zq (congrArg (fun x=>SV.agg [SV.arr8 4 x]) (z8 (by omega) ?hv ?hkk)) ?_
             case hkk=>show r.i=0+r.i;omega
             case hv=>
               show List.getD (ovr _ _ _ _) r.i 0^^^List.getD (ks key 4 s.i++s.t.l) (((s.i:Int)-4).toNat*4+r.i) 0=_
               rw [yp (by omega) _ (by omega),show ((s.i:Int)-4).toNat*4+r.i=4*(s.i-4)+r.i by omega,List.getD_eq_getElem?_getD (l:=_++_),List.getElem?_append_left (by omega),←List.getD_eq_getElem?_getD,UInt8.xor_comm]
             exact zt
            ·have e7:r.i=4:=by omega
             rw [e7,yy hTW,hnx]
             have hNl:=zcf (i:=s.i) hkn (ks key 4 s.i)
             have eSp:z9 (List.replicate (1*4) 0) (off [(0,zan.sz)]) (xi key 4 s.i (ks key 4 s.i))=xi key 4 s.i (ks key 4 s.i):=by
               show List.take 0 _++xi key 4 s.i (ks key 4 s.i)++List.drop (0+_) (List.replicate 4 0)=_
               rw [hNl];simp
             refine za ?_
             rw [eSp]
             refine za ?_
             refine zw ⟨Nat.le_add_right _ _,by show 4*s.i+s.t.t*4=(s.i+s.t.t)*4;omega,by decide,by show (s.i+1)*4≤_;omega⟩ ?_
             refine za ?_
             refine y0 fun x=>?_
             refine za ?_
             refine ⟨⟨s.i+1,by omega,h4,x⟩,[3],by show 44-(s.i+1)<44-s.i;omega,?_⟩
             repeat ((conv=>whnf);refine zb ?_)
             conv=>whnf
             refine zq (zpi (by show s.i*4+1*4+x.t*4=4*(s.i+1)+x.t*4;omega) ?hl) ?_
             case hl=>
               show List.take (s.i*4) (ks key 4 s.i++s.t.l)++List.take (1*4) (xi key 4 s.i (ks key 4 s.i))++x.l=ks key 4 (s.i+1)++x.l
               rw [List.take_left' (by rw [hl];omega),zdg,List.take_of_length_le (by omega)]
             repeat ((conv=>whnf);refine zb ?_)
             conv=>whnf
             exact zh (congrArg SV.u8 (by show (rc ((s.i-1)/ 4))=rc ((s.i+1-1)/ 4);rw [Nat.add_sub_cancel,zh9 (by omega) h6]))
         ·have e4:s.i=44:=by omega
          obtain ⟨si,sh1,sh2,st⟩:=s
          replace e4:si=44:=e4
          subst e4
          have h:=h st
          refine za ?_
          exact ze [0] h
    ·have hkn:key.length=4*8:=hk
     have hq:(key.length:Int).tdiv 4=8:=by rw [hk];rfl
     have hf:yb ((key.length:Int).tdiv 4):=by rw [hq];unfold yb;omega
     have hf2:(4:Int)≠0∧yb ((key.length:Int).tdiv 4):=⟨by decide,hf⟩
     have h:=zbk h
     rw [hk] at h
     replace h: ∀x:Tl UInt8 4,K (.sl 0 0 0 [] 60 (60+x.t)) [.mk 148 [.arr8 (4*60+x.t*4) (ks key 8 60++x.l)]]:=h
     refine za ?_
     rw [hq]
     refine za ?_
     refine zp (Option (Wx 8)) (fun q=>match q with
       |none=>⟨[(0,.str key),(3,.int 8),(4,.nilsl),(5,.int 0)],[]⟩
       |some s=>⟨[(0,.str key),(3,.int 8),(4,.sl 0 0 0 [] s.i (s.i+s.t.t)),(5,.int s.i)],[.mk 148 [.arr8 (4*s.i+s.t.t*4) (ks key 8 s.i++s.t.l)]]⟩)
       (fun q=>match q with|none=>8+1|some s=>8-s.i) none [] ?_ ?_
     ·exact zt
     ·intro q
      cases q with
      |none=>
       refine za ?_
       refine y0 fun x=>?_
       refine za ?_
       refine ⟨some ⟨1,by decide,x⟩,[1],by show 8-1<8+1;omega,?_⟩
       repeat ((conv=>whnf);refine zb ?_)
       conv=>whnf
       refine zq (zpi rfl ?hl) ?_
       case hl=>
         show [key.getD 0 0,key.getD 1 0,key.getD 2 0,key.getD 3 0]++x.l=ks key 8 1++x.l
         rw [zdg key 8 0,zyv]
         unfold xi
         rw [if_pos (by decide),take4 (by omega)];rfl
       exact zt
      |some s=>
       have hi:=s.hi
       have hl:=za3 hkn s.i
       have ht:=s.t.h
       have hI:((s.i:Int)).toNat=s.i:=Int.toNat_natCast _
       by_cases h4:s.i<8
       ·refine za ?_
        refine zw ⟨Nat.le_add_right _ _,by show 4*s.i+s.t.t*4=(s.i+s.t.t)*4;omega,by decide,by show (s.i+1)*4≤_;omega⟩ ?_
        refine za ?_
        refine y0 fun x=>?_
        refine za ?_
        refine ⟨some ⟨s.i+1,h4,x⟩,[2],by show 8-(s.i+1)<8-s.i;omega,?_⟩
        repeat ((conv=>whnf);refine zb ?_)
        conv=>whnf
        refine zq (zpi (by show s.i*4+1*4+x.t*4=4*(s.i+1)+x.t*4;omega) ?hl) ?_
        case hl=>
          show List.take (s.i*4) (ks key 8 s.i++s.t.l)++ [key.getD (4*s.i) 0,key.getD (4*s.i+1) 0,key.getD (4*s.i+2) 0,key.getD (4*s.i+3) 0]++x.l=ks key 8 (s.i+1)++x.l
          rw [List.take_left' (by rw [hl];omega)]
          rw [zdg]
          unfold xi
          rw [if_pos h4,take4 (by omega)]
        exact zt
       ·have e4:s.i=8:=by omega
        obtain ⟨si,shi,st⟩:=s
        replace e4:si=8:=e4
        subst e4
        clear hi hI h4 hl ht
        refine za ?_
        refine zp (Wz 8 60) (fun s=>⟨[(0,.str key),(3,.int 8),(4,.sl 0 0 0 [] s.i (s.i+s.t.t)),(6,.u8 (rc ((s.i-1)/ 8))),(7,.int s.i)],[.mk 148 [.arr8 (4*s.i+s.t.t*4) (ks key 8 s.i++s.t.l)]]⟩)
          (fun s=>60-s.i) ⟨8,by decide,by decide,st⟩ [0] ?_ ?_
        ·repeat ((conv=>whnf);refine zb ?_)
         conv=>whnf
         exact zh (congrArg SV.u8 (by show UInt8.ofNat 1=rc ((8-1)/ 8);rw [show (8-1)/ 8=0 by decide];unfold rc;rfl))
        ·intro s
         have hi1:=s.h1
         have hi2:=s.h2
         have hl:=za3 hkn s.i
         have ht:=s.t.h
         have hI:((s.i:Int)).toNat=s.i:=Int.toNat_natCast _
         have hm0:((s.i:Int)).tmod 8=((s.i%8:Nat):Int):=by rw [Int.tmod_eq_emod_of_nonneg (by omega)];omega
         by_cases h4:s.i<60
         ·obtain ⟨T,hT⟩: ∃T,T=((ks key 8 s.i).drop (4*(s.i-1))).take 4:=⟨_,rfl⟩
          have hTl:T.length=4:=by rw [hT,List.length_take,List.length_drop,za3 hkn];omega
          have tT:List.take zan.sz (List.drop (off (ye [] ((s.i:Int)-1).toNat zan.sz)) (ks key 8 s.i++s.t.l))=T:=by
            rw [hT]
            show List.take 4 (List.drop (((s.i:Int)-1).toNat*4) _)=_
            rw [show ((s.i:Int)-1).toNat*4=4*(s.i-1) by omega,List.drop_append_of_le_length (by omega),List.take_append_of_le_length (by rw [List.length_drop];omega)]
          have hnx:(List.range 4).map (fun k=>(ks key 8 s.i).getD (4*(s.i-8)+k) 0^^^(xz 8 s.i T).getD k 0)=xi key 8 s.i (ks key 8 s.i):=by
            unfold xi;rw [if_neg (by omega),←hT]
          by_cases h6:s.i%8=0
          ·refine za ?_
           rw [z7h,tT]
           refine zp (Ix (4)) (fun r=>⟨[(0,.str key),(3,.int 8),(4,.sl 0 0 0 [] s.i (s.i+s.t.t)),(6,.u8 (tw (rc ((s.i-1)/ 8)))),(7,.int s.i),(8,.ptr 1 0 0 []),(9,.int r.i)],[.mk 148 [.arr8 (4*s.i+s.t.t*4) (ks key 8 s.i++s.t.l)],.mk 148 [.arr8 4 (ovr (xz 8 s.i T) 0 (fun k=>(ks key 8 s.i).getD (4*(s.i-8)+k) 0^^^(xz 8 s.i T).getD k 0) r.i)]]⟩) (fun r=>(4)-r.i) ⟨0,Nat.zero_le _⟩ [0,1] ?_ ?_
           ·repeat ((conv=>whnf);refine zb ?_)
            conv=>whnf
            exact zh (by show _=SV.agg [SV.arr8 4 (ovr _ 0 _ 0)];rw [zab];unfold xz;rw [if_pos h6];rfl)
           ·intro r
            have hri:=r.hi
            have hJ:((r.i:Int)).toNat=r.i:=Int.toNat_natCast _
            have hTW:=zbn (n:=8) (i:=s.i) hTl
            have hlo:=yc (l:=xz 8 s.i T) (a:=0) (i:=r.i) (by omega) (fun k=>(ks key 8 s.i).getD (4*(s.i-8)+k) 0^^^(xz 8 s.i T).getD k 0)
            have hWl:(ks key 8 s.i++s.t.l).length=4*s.i+s.t.t*4:=by rw [List.length_append,hl,ht]
            by_cases h7:r.i<4
            ·refine za ?_
             refine ⟨⟨r.i+1,h7⟩,[0,1],by show (4)-(r.i+1)<(4)-r.i;omega,?_⟩
             repeat ((conv=>whnf);refine zb ?_)
             conv=>whnf
             refine zq (congrArg (fun x=>SV.agg [SV.arr8 4 x]) (z8 (by omega) ?hv ?hkk)) ?_
             case hkk=>show r.i=0+r.i;omega
             case hv=>
               show List.getD (ovr _ _ _ _) r.i 0^^^List.getD (ks key 8 s.i++s.t.l) (((s.i:Int)-8).toNat*4+r.i) 0=_
               rw [yp (by omega) _ (by omega),show ((s.i:Int)-8).toNat*4+r.i=4*(s.i-8)+r.i by omega,List.getD_eq_getElem?_getD (l:=_++_),List.getElem?_append_left (by omega),←List.getD_eq_getElem?_getD,UInt8.xor_comm]
             exact zt
            ·have e7:r.i=4:=by omega
             rw [e7,yy hTW,hnx]
             have hNl:=zcf (i:=s.i) hkn (ks key 8 s.i)
             have eSp:z9 (List.replicate (1*4) 0) (off [(0,zan.sz)]) (xi key 8 s.i (ks key 8 s.i))=xi key 8 s.i (ks key 8 s.i):=by
               show List.take 0 _++xi key 8 s.i (ks key 8 s.i)++List.drop (0+_) (List.replicate 4 0)=_
               rw [hNl];simp
             refine za ?_
             rw [eSp]
             refine za ?_
             refine zw ⟨Nat.le_add_right _ _,by show 4*s.i+s.t.t*4=(s.i+s.t.t)*4;omega,by decide,by show (s.i+1)*4≤_;omega⟩ ?_
             refine za ?_
             refine y0 fun x=>?_
             refine za ?_
             refine ⟨⟨s.i+1,by omega,h4,x⟩,[3],by show 60-(s.i+1)<60-s.i;omega,?_⟩
             repeat ((conv=>whnf);refine zb ?_)
             conv=>whnf
             refine zq (zpi (by show s.i*4+1*4+x.t*4=4*(s.i+1)+x.t*4;omega) ?hl) ?_
             case hl=>
               show List.take (s.i*4) (ks key 8 s.i++s.t.l)++List.take (1*4) (xi key 8 s.i (ks key 8 s.i))++x.l=ks key 8 (s.i+1)++x.l
               rw [List.take_left' (by rw [hl];omega),zdg,List.take_of_length_le (by omega)]
             repeat ((conv=>whnf);refine zb ?_)
             conv=>whnf
             exact zh (congrArg SV.u8 (by show (tw (rc ((s.i-1)/ 8)))=rc ((s.i+1-1)/ 8);rw [Nat.add_sub_cancel,zl8 (by omega) (by omega) h6]))
          ·by_cases h9:s.i%8=4
           ·refine za ?_
            rw [z7h,tT]
            refine zp (Ix (4)) (fun r=>⟨[(0,.str key),(3,.int 8),(4,.sl 0 0 0 [] s.i (s.i+s.t.t)),(6,.u8 (rc ((s.i-1)/ 8))),(7,.int s.i),(8,.ptr 1 0 0 []),(9,.int r.i)],[.mk 148 [.arr8 (4*s.i+s.t.t*4) (ks key 8 s.i++s.t.l)],.mk 148 [.arr8 4 (ovr (xz 8 s.i T) 0 (fun k=>(ks key 8 s.i).getD (4*(s.i-8)+k) 0^^^(xz 8 s.i T).getD k 0) r.i)]]⟩) (fun r=>(4)-r.i) ⟨0,Nat.zero_le _⟩ [0,1] ?_ ?_
            ·repeat ((conv=>whnf);refine zb ?_)
             conv=>whnf
             exact zh (by show _=SV.agg [SV.arr8 4 (ovr _ 0 _ 0)];rw [zab];unfold xz;rw [if_neg h6,if_pos ⟨rfl,h9⟩];rfl)
            ·intro r
             have hri:=r.hi
             have hJ:((r.i:Int)).toNat=r.i:=Int.toNat_natCast _
             have hTW:=zbn (n:=8) (i:=s.i) hTl
             have hlo:=yc (l:=xz 8 s.i T) (a:=0) (i:=r.i) (by omega) (fun k=>(ks key 8 s.i).getD (4*(s.i-8)+k) 0^^^(xz 8 s.i T).getD k 0)
             have hWl:(ks key 8 s.i++s.t.l).length=4*s.i+s.t.t*4:=by rw [List.length_append,hl,ht]
             by_cases h7:r.i<4
             ·refine za ?_
              refine ⟨⟨r.i+1,h7⟩,[0,1],by show (4)-(r.i+1)<(4)-r.i;omega,?_⟩
              repeat ((conv=>whnf);refine zb ?_)
              conv=>whnf
              refine zq (congrArg (fun x=>SV.agg [SV.arr8 4 x]) (z8 (by omega) ?hv ?hkk)) ?_
              case hkk=>show r.i=0+r.i;omega
              case hv=>
                show List.getD (ovr _ _ _ _) r.i 0^^^List.getD (ks key 8 s.i++s.t.l) (((s.i:Int)-8).toNat*4+r.i) 0=_
                rw [yp (by omega) _ (by omega),show ((s.i:Int)-8).toNat*4+r.i=4*(s.i-8)+r.i by omega,List.getD_eq_getElem?_getD (l:=_++_),List.getElem?_append_left (by omega),←List.getD_eq_getElem?_getD,UInt8.xor_comm]
              exact zt
             ·have e7:r.i=4:=by omega
              rw [e7,yy hTW,hnx]
              have hNl:=zcf (i:=s.i) hkn (ks key 8 s.i)
              have eSp:z9 (List.replicate (1*4) 0) (off [(0,zan.sz)]) (xi key 8 s.i (ks key 8 s.i))=xi key 8 s.i (ks key 8 s.i):=by
                show List.take 0 _++xi key 8 s.i (ks key 8 s.i)++List.drop (0+_) (List.replicate 4 0)=_
                rw [hNl];simp
              refine za ?_
              rw [eSp]
              refine za ?_
              refine zw ⟨Nat.le_add_right _ _,by show 4*s.i+s.t.t*4=(s.i+s.t.t)*4;omega,by decide,by show (s.i+1)*4≤_;omega⟩ ?_
              refine za ?_
              refine y0 fun x=>?_
              refine za ?_
              refine ⟨⟨s.i+1,by omega,h4,x⟩,[3],by show 60-(s.i+1)<60-s.i;omega,?_⟩
              repeat ((conv=>whnf);refine zb ?_)
              conv=>whnf
              refine zq (zpi (by show s.i*4+1*4+x.t*4=4*(s.i+1)+x.t*4;omega) ?hl) ?_
              case hl=>
                show List.take (s.i*4) (ks key 8 s.i++s.t.l)++List.take (1*4) (xi key 8 s.i (ks key 8 s.i))++x.l=ks key 8 (s.i+1)++x.l
                rw [List.take_left' (by rw [hl];omega),zdg,List.take_of_length_le (by omega)]
              repeat ((conv=>whnf);refine zb ?_)
              conv=>whnf
              exact zh (congrArg SV.u8 (by show (rc ((s.i-1)/ 8))=rc ((s.i+1-1)/ 8);rw [Nat.add_sub_cancel,zh9 (by omega) h6]))
           ·refine za ?_
            rw [tT]
            refine zp (Ix (4)) (fun r=>⟨[(0,.str key),(3,.int 8),(4,.sl 0 0 0 [] s.i (s.i+s.t.t)),(6,.u8 (rc ((s.i-1)/ 8))),(7,.int s.i),(8,.ptr 1 0 0 []),(9,.int r.i)],[.mk 148 [.arr8 (4*s.i+s.t.t*4) (ks key 8 s.i++s.t.l)],.mk 148 [.arr8 4 (ovr (xz 8 s.i T) 0 (fun k=>(ks key 8 s.i).getD (4*(s.i-8)+k) 0^^^(xz 8 s.i T).getD k 0) r.i)]]⟩) (fun r=>(4)-r.i) ⟨0,Nat.zero_le _⟩ [0,1] ?_ ?_
            ·repeat ((conv=>whnf);refine zb ?_)
             conv=>whnf
             exact zh (by show SV.agg [SV.arr8 4 T]=SV.agg [SV.arr8 4 (ovr _ 0 _ 0)];rw [zab];unfold xz;rw [if_neg h6,if_neg (fun h=>h9 h.2)])
            ·intro r
             have hri:=r.hi
             have hJ:((r.i:Int)).toNat=r.i:=Int.toNat_natCast _
             have hTW:=zbn (n:=8) (i:=s.i) hTl
             have hlo:=yc (l:=xz 8 s.i T) (a:=0) (i:=r.i) (by omega) (fun k=>(ks key 8 s.i).getD (4*(s.i-8)+k) 0^^^(xz 8 s.i T).getD k 0)
             have hWl:(ks key 8 s.i++s.t.l).length=4*s.i+s.t.t*4:=by rw [List.length_append,hl,ht]
             by_cases h7:r.i<4
             ·refine za ?_
              refine ⟨⟨r.i+1,h7⟩,[0,1],by show (4)-(r.i+1)<(4)-r.i;omega,?_⟩
              repeat ((conv=>whnf);refine zb ?_)
              conv=>whnf
              refine zq (congrArg (fun x=>SV.agg [SV.arr8 4 x]) (z8 (by omega) ?hv ?hkk)) ?_
              case hkk=>show r.i=0+r.i;omega
              case hv=>
                show List.getD (ovr _ _ _ _) r.i 0^^^List.getD (ks key 8 s.i++s.t.l) (((s.i:Int)-8).toNat*4+r.i) 0=_
                rw [yp (by omega) _ (by omega),show ((s.i:Int)-8).toNat*4+r.i=4*(s.i-8)+r.i by omega,List.getD_eq_getElem?_getD (l:=_++_),List.getElem?_append_left (by omega),←List.getD_eq_getElem?_getD,UInt8.xor_comm]
              exact zt
             ·have e7:r.i=4:=by omega
              rw [e7,yy hTW,hnx]
              have hNl:=zcf (i:=s.i) hkn (ks key 8 s.i)
              have eSp:z9 (List.replicate (1*4) 0) (off [(0,zan.sz)]) (xi key 8 s.i (ks key 8 s.i))=xi key 8 s.i (ks key 8 s.i):=by
                show List.take 0 _++xi key 8 s.i (ks key 8 s.i)++List.drop (0+_) (List.replicate 4 0)=_
                rw [hNl];simp
              refine za ?_
              rw [eSp]
              refine za ?_
              refine zw ⟨Nat.le_add_right _ _,by show 4*s.i+s.t.t*4=(s.i+s.t.t)*4;omega,by decide,by show (s.i+1)*4≤_;omega⟩ ?_
              refine za ?_
              refine y0 fun x=>?_
              refine za ?_
              refine ⟨⟨s.i+1,by omega,h4,x⟩,[3],by show 60-(s.i+1)<60-s.i;omega,?_⟩
              repeat ((conv=>whnf);refine zb ?_)
              conv=>whnf
              refine zq (zpi (by show s.i*4+1*4+x.t*4=4*(s.i+1)+x.t*4;omega) ?hl) ?_
              case hl=>
                show List.take (s.i*4) (ks key 8 s.i++s.t.l)++List.take (1*4) (xi key 8 s.i (ks key 8 s.i))++x.l=ks key 8 (s.i+1)++x.l
                rw [List.take_left' (by rw [hl];omega),zdg,List.take_of_length_le (by omega)]
              repeat ((conv=>whnf);refine zb ?_)
              conv=>whnf
              exact zh (congrArg SV.u8 (by show (rc ((s.i-1)/ 8))=rc ((s.i+1-1)/ 8);rw [Nat.add_sub_cancel,zh9 (by omega) h6]))
         ·have e4:s.i=60:=by omega
          obtain ⟨si,sh1,sh2,st⟩:=s
          replace e4:si=60:=e4
          subst e4
          have h:=h st
          refine za ?_
          exact ze [0] h
   ·exact h.elim
end Go.Sym.Z

namespace Go.Sym.Z
open Go Go.Proofs.Tryz Go.Sym.Lp Go.Sym.Aes
set_option maxRecDepth 100000
attribute [local irreducible] box tw xg zgb
def ygt:List (Nat×List PStep):= [(5,[⟨0,[]⟩,⟨1,[0]⟩,⟨2,[0,1]⟩,⟨3,[0]⟩,⟨4,[0,1,2,3]⟩,⟨5,[0,1,2,3,4]⟩,⟨6,[0,1,2,3,4]⟩,⟨7,[0,1,2,3,4,5,6]⟩,⟨8,[0,1,2,3,4,5,6]⟩,⟨9,[0,1,2,3,7,8]⟩,⟨10,[0,1,2,3]⟩,⟨11,[0,1,2,3]⟩,⟨12,[0]⟩,⟨13,[]⟩,⟨14,[]⟩]),(19,[⟨0,[]⟩,⟨1,[]⟩,⟨2,[]⟩,⟨3,[0,1,2]⟩,⟨4,[0,1,2]⟩,⟨5,[0,1,2]⟩,⟨6,[0,1,2]⟩,⟨7,[]⟩,⟨8,[0,1,2,3,4,5,6,7]⟩,⟨9,[0,1,2,3,4,5,6,7]⟩,⟨10,[0,1,2,3,4,5,6,7]⟩,⟨11,[0,1,2,3,4,5,6,7]⟩,⟨12,[]⟩,⟨13,[0,1,2,3,4,5,6,7,8,9,10,11,12]⟩,⟨14,[0,1,2,3,4,5,6,7,8,9,10,11,12]⟩,⟨15,[0,1,2,3,4,5,6,7,8,9,10,11,12]⟩,⟨16,[0,1,2,3,4,5,6,7,8,9,10,11,12]⟩,⟨17,[]⟩,⟨18,[]⟩]),(24,[⟨0,[]⟩,⟨1,[0]⟩,⟨2,[]⟩,⟨3,[0,1,2]⟩,⟨4,[0,1,2,3]⟩,⟨5,[0,1,2]⟩,⟨6,[0,1,2]⟩,⟨7,[0,1,2]⟩,⟨8,[0,1,2,3,4,5,6,7]⟩,⟨9,[0,1,2]⟩,⟨10,[0,1,2,3,4,5,6,7,8,9]⟩,⟨11,[0,1,2,3,4,5,6,7,8,9,10]⟩,⟨12,[0,1,2,3,4,5,6,7,8,9]⟩,⟨13,[0,1,2,3,4,5,6,7,8,9]⟩,⟨14,[0,1,2,3,4,5,6,7,8,9]⟩,⟨15,[0,1,2,3,4,5,6,7,8,9,10,11,12,13,14]⟩,⟨16,[0,1,2,3,4,5,6,7,8,9,10,11,12,13,14,15]⟩,⟨17,[0,1,2,3,4,5,6,7,8,9,10,11,12,13,14]⟩,⟨18,[0,1,2,3,4,5,6,7,8,9,10,11,12,13,14]⟩,⟨19,[0,1,2,3,4,5,6,7,8,9,10,11,12,13,14]⟩,⟨20,[0,1,2,3,4,5,6,7,8,9,10,11,12,13,14]⟩,⟨21,[0,1,2,3,4,5,6,7,8,9]⟩,⟨22,[0,1,2,3,4,5,6,7,8,9]⟩,⟨23,[0,1,2]⟩,⟨24,[]⟩,⟨25,[]⟩]),(25,[⟨0,[]⟩,⟨1,[]⟩,⟨2,[0,1]⟩,⟨3,[0,1]⟩,⟨4,[0,1]⟩,⟨5,[0,1]⟩,⟨6,[0,1,2,3,4,5]⟩,⟨7,[0,1]⟩,⟨8,[0,1,2,3,4,5,6,7]⟩,⟨9,[0,1,2,3,4,5,6,7]⟩,⟨10,[0,1,2,3,4,5,6,7]⟩,⟨11,[0,1,2,3,4,5,6,7]⟩,⟨12,[0,1,2,3,4,5,6,7,8,9,10,11]⟩,⟨13,[0,1,2,3,4,5,6,7]⟩,⟨14,[0,1,2,3,4,5,6,7]⟩,⟨15,[0,1]⟩,⟨16,[]⟩,⟨17,[]⟩]),(29,[⟨0,[]⟩,⟨1,[0]⟩,⟨2,[0]⟩,⟨3,[0]⟩,⟨4,[0,1,2,3]⟩,⟨5,[0,1,2,3,4]⟩,⟨6,[0,1,2,3,4]⟩,⟨7,[0,1,2,3,4,5,6]⟩,⟨8,[0,1,2,3,4,5,6]⟩,⟨9,[0,1,2,3,4]⟩,⟨10,[0,1,2,3,4,5,6,7,8,9]⟩,⟨11,[0,1,2,3,4,5,6,7,8,9]⟩,⟨12,[0,1,2,3,10,11]⟩,⟨13,[0,1,2,3]⟩,⟨14,[0,1,2,3]⟩,⟨15,[0]⟩,⟨16,[]⟩,⟨17,[]⟩])]
def znz:Spec:=fun args hp K=>match args,hp with
  | [.sl 0 0 0 [] n c,.str s],[.mk t [.arr8 N W]]=> ∃R,(n=4*R∧1≤R∧R≤100∧s.length=16∧16*R≤W.length)∧K (.str (enc W R s)) [.mk t [.arr8 N W]]
  |_,_=>False
set_option maxHeartbeats 8000000 in
theorem zq3:zm prog 107 znz:=by
  refine zk zc5 (zc zvf zg) rfl func107 rfl call107 (D:=ygt) ?_ ?_
  ·intro args hp K h
   unfold znz at h
   split at h
   ·exact Nat.le_of_ble_eq_true rfl
   ·exact h.elim
  ·intro args hp K h
   unfold znz at h
   split at h
   ·rename_i n c s t N W
    obtain ⟨R,⟨rfl,hR,hR2,hs,hW⟩,h⟩:=h
    have hB:=zmj
    refine za ?_
    refine zp (Ix (16)) (fun q=>⟨[(0,.sl 0 0 0 [] (4*R) c),(1,.str s),(5,.ptr 1 0 0 []),(6,.int q.i)],[.mk t [.arr8 N W],.mk 168 [.arr8 16 (ovr (List.replicate 16 0) 0 (fun j=>s.getD j 0^^^W.getD (16*0+j) 0) q.i)]]⟩) (fun q=>(16)-q.i) ⟨0,Nat.zero_le _⟩ [0,1] ?_ ?_
    ·exact zt
    ·intro q
     have hi:=q.hi
     have hI:((q.i:Int)).toNat=q.i:=Int.toNat_natCast _
     have hd4:(q.i:Int).tdiv 4=((q.i/ 4:Nat):Int):=by rw [Int.tdiv_eq_ediv_of_nonneg (by omega)];omega
     have hm4:(q.i:Int).tmod 4=((q.i%4:Nat):Int):=by rw [Int.tmod_eq_emod_of_nonneg (by omega)];omega
     have hpd:(4:Int)≠0∧yb ((q.i:Int).tdiv 4):=⟨by decide,by unfold yb;omega⟩
     have hlo:=yc (l:=List.replicate 16 (0:UInt8)) (a:=0) (i:=q.i) (by rw [List.length_replicate];omega) (fun j=>s.getD j 0^^^W.getD (16*0+j) 0)
     rw [List.length_replicate] at hlo
     by_cases h4:q.i<16
     ·refine za ?_
      refine ⟨⟨q.i+1,h4⟩,[0,1],by show (16)-(q.i+1)<(16)-q.i;omega,?_⟩
      repeat ((conv=>whnf);refine zb ?_)
      conv=>whnf
      refine zq (congrArg (fun x=>SV.agg [SV.arr8 16 x]) (z8 (by rw [List.length_replicate];omega) ?hv ?hkk)) ?_
      case hkk=>show q.i=0+q.i;omega
      case hv=>
        show s.getD q.i 0^^^W.getD (((q.i:Int).tdiv 4).toNat*4+((q.i:Int).tmod 4).toNat) 0=_
        rw [show ((q.i:Int).tdiv 4).toNat*4+((q.i:Int).tmod 4).toNat=16*0+q.i by omega]
      exact zt
     ·have e4:q.i=16:=by omega
      rw [e4,yy (List.length_replicate),show (List.range 16).map (fun j=>s.getD j 0^^^W.getD (16*0+j) 0)=zbm W R s 0 from rfl]
      clear hlo hI hi h4 e4 hd4 hm4 hpd q
      have hR4:((4*R:Nat):Int).tdiv 4=(R:Int):=by rw [Int.tdiv_eq_ediv_of_nonneg (by omega)];omega
      have hpd:(4:Int)≠0∧yb (((4*R:Nat):Int).tdiv 4):=⟨by decide,by unfold yb;omega⟩
      refine za ?_
      rw [hR4]
      refine zp (Ix ((R-1))) (fun q=>⟨[(0,.sl 0 0 0 [] (4*R) c),(1,.str s),(5,.ptr 1 0 0 []),(7,.int ((R:Int)-1)),(8,.int ((q.i:Int)+1))],[.mk t [.arr8 N W],.mk 168 [.arr8 16 (zbm W R s q.i)]]⟩) (fun q=>((R-1))-q.i) ⟨0,Nat.zero_le _⟩ [0,1] ?_ ?_
      ·exact zt
      ·intro q
       have hi:=q.hi
       have hX:=zh3 W R s q.i
       by_cases h4:q.i<R-1
       ·refine za ?_
        generalize hXe:zbm W R s q.i=X at*
        refine zp (Ix (16)) (fun r=>⟨[(0,.sl 0 0 0 [] (4*R) c),(1,.str s),(5,.ptr 1 0 0 []),(7,.int ((R:Int)-1)),(8,.int ((q.i:Int)+1)),(9,.ptr 2 0 0 []),(10,.int r.i)],[.mk t [.arr8 N W],.mk 168 [.arr8 16 X],.mk 168 [.arr8 16 (ovr (List.replicate 16 0) 0 (fun i=>box.getD (X.getD ((i+4*(i%4))%16) 0).toNat 0) r.i)]]⟩) (fun r=>(16)-r.i) ⟨0,Nat.zero_le _⟩ [0,1,2] ?_ ?_
        ·exact zt
        ·intro r
         have hri:=r.hi
         have hJ:((r.i:Int)).toNat=r.i:=Int.toNat_natCast _
         have hm4:(r.i:Int).tmod 4=((r.i%4:Nat):Int):=by rw [Int.tmod_eq_emod_of_nonneg (by omega)];omega
         have hm16:((r.i:Int)+4*(r.i:Int).tmod 4).tmod 16=(((r.i+4*(r.i%4))%16:Nat):Int):=by rw [hm4,Int.tmod_eq_emod_of_nonneg (by omega)];omega
         have hlo:=yc (l:=List.replicate 16 (0:UInt8)) (a:=0) (i:=r.i) (by rw [List.length_replicate];omega) (fun i=>box.getD (X.getD ((i+4*(i%4))%16) 0).toNat 0)
         rw [List.length_replicate] at hlo
         by_cases h5:r.i<16
         ·refine za ?_
          rw [z7h]
          conv=>whnf
          refine ⟨⟨r.i+1,h5⟩,[0,1,2],by show (16)-(r.i+1)<(16)-r.i;omega,?_⟩
          repeat ((conv=>whnf);refine zb ?_)
          conv=>whnf
          refine zq (congrArg (fun x=>SV.agg [SV.arr8 16 x]) (z8 (by rw [List.length_replicate];omega) ?hv ?hkk)) ?_
          case hkk=>show r.i=0+r.i;omega
          case hv=>
            show box.getD (UInt8.toNat (X.getD (((r.i:Int)+4*(r.i:Int).tmod 4).tmod 16).toNat 0)) 0=_
            rw [hm16,Int.toNat_natCast]
          exact zt
         ·have e5:r.i=16:=by omega
          rw [e5,yy (List.length_replicate),show (List.range 16).map (fun i=>box.getD (X.getD ((i+4*(i%4))%16) 0).toNat 0)=xg X by unfold xg;rfl]
          clear hm4 hm16 hlo hJ hri h5 e5 r
          have hS:=zj8 X
          by_cases h6:q.i+1<R-1
          ·refine za ?_
           refine zp (Ix (4)) (fun m=>⟨[(0,.sl 0 0 0 [] (4*R) c),(1,.str s),(5,.ptr 1 0 0 []),(7,.int ((R:Int)-1)),(8,.int ((q.i:Int)+1)),(9,.ptr 2 0 0 []),(11,.int (4*(m.i:Int)))],[.mk t [.arr8 N W],.mk 168 [.arr8 16 X],.mk 168 [.arr8 16 (ovr (xg X) 0 (zi3 (xg X)) (4*m.i))]]⟩) (fun m=>(4)-m.i) ⟨0,Nat.zero_le _⟩ [0,1,2] ?_ ?_
           ·exact zt
           ·intro m
            have hmi:=m.hi
            have hlm:=yc (l:=xg X) (a:=0) (i:=4*m.i) (by omega) (zi3 (xg X))
            by_cases h8:m.i<4
            ·have hg: ∀j,4*m.i≤j→(ovr (xg X) 0 (zi3 (xg X)) (4*m.i)).getD j 0=(xg X).getD j 0:=fun j hj=>yp (by omega) _ (by omega) _
             refine za ?_
             obtain ⟨al,hal⟩: ∃al,al=(xg X).getD (4*m.i) 0^^^(xg X).getD (4*m.i+1) 0^^^(xg X).getD (4*m.i+2) 0^^^(xg X).getD (4*m.i+3) 0:=⟨_,rfl⟩
             refine zp (Ix (3)) (fun u=>⟨[(0,.sl 0 0 0 [] (4*R) c),(1,.str s),(5,.ptr 1 0 0 []),(7,.int ((R:Int)-1)),(8,.int ((q.i:Int)+1)),(9,.ptr 2 0 0 []),(11,.int (4*(m.i:Int))),(12,.u8 al),(13,.u8 ((xg X).getD (4*m.i) 0)),(14,.int u.i)],[.mk t [.arr8 N W],.mk 168 [.arr8 16 X],.mk 168 [.arr8 16 (ovr (xg X) 0 (zi3 (xg X)) (4*m.i+u.i))]]⟩) (fun u=>(3)-u.i) ⟨0,Nat.zero_le _⟩ [0,1,2] ?_ ?_
             ·repeat ((conv=>whnf);refine zb ?_)
              conv=>whnf
              refine zq (congrArg SV.u8 (by show (ovr _ _ _ _).getD (4*m.i) 0^^^(ovr _ _ _ _).getD (4*m.i+1) 0^^^(ovr _ _ _ _).getD (4*m.i+2) 0^^^(ovr _ _ _ _).getD (4*m.i+3) 0=al;rw [hg _ (by omega),hg _ (by omega),hg _ (by omega),hg _ (by omega),hal])) ?_
              repeat ((conv=>whnf);refine zb ?_)
              conv=>whnf
              exact zh (congrArg SV.u8 (by show (ovr _ _ _ _).getD (4*m.i) 0=(xg X).getD (4*m.i) 0;rw [hg _ (by omega)]))
             ·intro u
              have hui:=u.hi
              have hlu:=yc (l:=xg X) (a:=0) (i:=4*m.i+u.i) (by omega) (zi3 (xg X))
              have hgu: ∀j,4*m.i+u.i≤j→(ovr (xg X) 0 (zi3 (xg X)) (4*m.i+u.i)).getD j 0=(xg X).getD j 0:=fun j hj=>yp (by omega) _ (by omega) _
              by_cases h9:u.i<3
              ·have hat:=zhy (xg X) m.i u.i (by omega)
               rw [←hal,Nat.mod_eq_of_lt (by omega)] at hat
               refine za ?_
               refine ⟨⟨u.i+1,h9⟩,[0,1,2],by show (3)-(u.i+1)<(3)-u.i;omega,?_⟩
               repeat ((conv=>whnf);refine zb ?_)
               conv=>whnf
               refine zq (congrArg (fun x=>SV.agg [SV.arr8 16 x]) (z8 (by omega) ?hv ?hkk)) ?_
               case hkk=>show 4*m.i+u.i=0+(4*m.i+u.i);omega
               case hv=>
                 show (ovr _ _ _ _).getD (4*m.i+u.i) 0^^^al^^^tw ((ovr _ _ _ _).getD (4*m.i+u.i) 0^^^(ovr _ _ _ _).getD (4*m.i+u.i+1) 0)=_
                 rw [hgu _ (by omega),hgu _ (by omega),hat,UInt8.xor_assoc];rfl
               exact zt
              ·have e9:u.i=3:=by omega
               have hat:=zhy (xg X) m.i 3 (by omega)
               rw [←hal,show (3+1)%4=0 by decide,Nat.add_zero] at hat
               rw [e9] at hlu hgu
               rw [e9]
               refine za ?_
               refine ⟨⟨m.i+1,h8⟩,[0,1,2],by show (4)-(m.i+1)<(4)-m.i;omega,?_⟩
               repeat ((conv=>whnf);refine zb ?_)
               conv=>whnf
               refine zq (congrArg (fun x=>SV.agg [SV.arr8 16 x]) (z8 (by omega) ?hv ?hkk)) ?_
               case hkk=>show 4*m.i+3=0+(4*m.i+3);omega
               case hv=>
                 show (ovr _ _ _ _).getD (4*m.i+3) 0^^^al^^^tw ((ovr _ _ _ _).getD (4*m.i+3) 0^^^(xg X).getD (4*m.i) 0)=_
                 rw [hgu _ (by omega),hat,UInt8.xor_assoc];rfl
               exact zt
            ·have e8:m.i=4:=by omega
             rw [e8,show ovr (xg X) 0 (zi3 (xg X)) (4*4)=zgb (xg X) by unfold zgb;exact yy hS _]
             clear hlm hmi h8 e8 m
             refine za ?_
             refine zp (Ix (16)) (fun k=>⟨[(0,.sl 0 0 0 [] (4*R) c),(1,.str s),(5,.ptr 1 0 0 []),(7,.int ((R:Int)-1)),(8,.int ((q.i:Int)+1)),(9,.ptr 2 0 0 []),(15,.int k.i)],[.mk t [.arr8 N W],.mk 168 [.arr8 16 (ovr X 0 (fun j=>(zgb (xg X)).getD j 0^^^W.getD (16*(q.i+1)+j) 0) k.i)],.mk 168 [.arr8 16 (zgb (xg X))]]⟩) (fun k=>(16)-k.i) ⟨0,Nat.zero_le _⟩ [0,1,2] ?_ ?_
             ·exact zt
             ·intro k
              have hki:=k.hi
              have hK:((k.i:Int)).toNat=k.i:=Int.toNat_natCast _
              have hd4:(k.i:Int).tdiv 4=((k.i/ 4:Nat):Int):=by rw [Int.tdiv_eq_ediv_of_nonneg (by omega)];omega
              have hm4:(k.i:Int).tmod 4=((k.i%4:Nat):Int):=by rw [Int.tmod_eq_emod_of_nonneg (by omega)];omega
              have hpd:(4:Int)≠0∧yb ((k.i:Int).tdiv 4):=⟨by decide,by unfold yb;omega⟩
              have hlo:=yc (l:=X) (a:=0) (i:=k.i) (by omega) (fun j=>(zgb (xg X)).getD j 0^^^W.getD (16*(q.i+1)+j) 0)
              have hls:(zgb (xg X)).length=16:=zt7 _
              by_cases h7:k.i<16
              ·refine za ?_
               refine ⟨⟨k.i+1,h7⟩,[0,1,2],by show (16)-(k.i+1)<(16)-k.i;omega,?_⟩
               repeat ((conv=>whnf);refine zb ?_)
               conv=>whnf
               refine zq (congrArg (fun x=>SV.agg [SV.arr8 16 x]) (z8 (by omega) ?hv ?hkk)) ?_
               case hkk=>show k.i=0+k.i;omega
               case hv=>
                 show List.getD _ k.i 0^^^W.getD ((4*((q.i:Int)+1)+(k.i:Int).tdiv 4).toNat*4+((k.i:Int).tmod 4).toNat) 0=_
                 rw [show (4*((q.i:Int)+1)+(k.i:Int).tdiv 4).toNat*4+((k.i:Int).tmod 4).toNat=16*(q.i+1)+k.i by omega]
               exact zt
              ·have e7:k.i=16:=by omega
               have hnx:ovr X 0 (fun j=>(zgb (xg X)).getD j 0^^^W.getD (16*(q.i+1)+j) 0) 16=zbm W R s (q.i+1):=by
                 rw [yy hX]
                 simp only [zbm]
                 unfold rnd zph
                 rw [hXe,if_pos h6]
               rw [e7,hnx]
               refine za ?_
               refine ⟨⟨q.i+1,h4⟩,[0,1],by show ((R-1))-(q.i+1)<((R-1))-q.i;omega,?_⟩
               exact zt
          ·refine za ?_
           refine zp (Ix (16)) (fun k=>⟨[(0,.sl 0 0 0 [] (4*R) c),(1,.str s),(5,.ptr 1 0 0 []),(7,.int ((R:Int)-1)),(8,.int ((q.i:Int)+1)),(9,.ptr 2 0 0 []),(15,.int k.i)],[.mk t [.arr8 N W],.mk 168 [.arr8 16 (ovr X 0 (fun j=>(xg X).getD j 0^^^W.getD (16*(q.i+1)+j) 0) k.i)],.mk 168 [.arr8 16 (xg X)]]⟩) (fun k=>(16)-k.i) ⟨0,Nat.zero_le _⟩ [0,1,2] ?_ ?_
           ·exact zt
           ·intro k
            have hki:=k.hi
            have hK:((k.i:Int)).toNat=k.i:=Int.toNat_natCast _
            have hd4:(k.i:Int).tdiv 4=((k.i/ 4:Nat):Int):=by rw [Int.tdiv_eq_ediv_of_nonneg (by omega)];omega
            have hm4:(k.i:Int).tmod 4=((k.i%4:Nat):Int):=by rw [Int.tmod_eq_emod_of_nonneg (by omega)];omega
            have hpd:(4:Int)≠0∧yb ((k.i:Int).tdiv 4):=⟨by decide,by unfold yb;omega⟩
            have hlo:=yc (l:=X) (a:=0) (i:=k.i) (by omega) (fun j=>(xg X).getD j 0^^^W.getD (16*(q.i+1)+j) 0)
            have hls:(xg X).length=16:=zj8 X
            by_cases h7:k.i<16
            ·refine za ?_
             refine ⟨⟨k.i+1,h7⟩,[0,1,2],by show (16)-(k.i+1)<(16)-k.i;omega,?_⟩
             repeat ((conv=>whnf);refine zb ?_)
             conv=>whnf
             refine zq (congrArg (fun x=>SV.agg [SV.arr8 16 x]) (z8 (by omega) ?hv ?hkk)) ?_
             case hkk=>show k.i=0+k.i;omega
             case hv=>
               show List.getD _ k.i 0^^^W.getD ((4*((q.i:Int)+1)+(k.i:Int).tdiv 4).toNat*4+((k.i:Int).tmod 4).toNat) 0=_
               rw [show (4*((q.i:Int)+1)+(k.i:Int).tdiv 4).toNat*4+((k.i:Int).tmod 4).toNat=16*(q.i+1)+k.i by omega]
             exact zt
            ·have e7:k.i=16:=by omega
             have hnx:ovr X 0 (fun j=>(xg X).getD j 0^^^W.getD (16*(q.i+1)+j) 0) 16=zbm W R s (q.i+1):=by
               rw [yy hX]
               simp only [zbm]
               unfold rnd zph
               rw [hXe,if_neg h6]
             rw [e7,hnx]
             refine za ?_
             refine ⟨⟨q.i+1,h4⟩,[0,1],by show ((R-1))-(q.i+1)<((R-1))-q.i;omega,?_⟩
             exact zt
       ·have e4:q.i=R-1:=by omega
        rw [e4]
        have hE:=zh3 W R s (R-1)
        have hT:List.take 16 (List.drop (off []) (zbm W R s (R-1)))=enc W R s:=by unfold enc;exact List.take_of_length_le (Nat.le_of_eq hE)
        refine za ?_
        rw [hT]
        conv=>whnf
        exact ze [0] h
   ·exact h.elim
end Go.Sym.Z
