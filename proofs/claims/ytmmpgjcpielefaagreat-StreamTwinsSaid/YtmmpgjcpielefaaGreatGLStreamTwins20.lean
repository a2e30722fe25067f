/-
  Contracts of functions of the program, each said of symbolic values, and plain laws; no condition beyond each statement's own.
-/
import Derived.Test.YtmmpgjcpielefaaGreatGLStreamTwins19
import Derived.Test.YtmmpgjcpielefaaGreatGLStreamTwins18
set_option linter.unusedSimpArgs false
set_option linter.unusedVariables false
namespace Go.Sym.Z
open Go Go.Proofs.Tryz Go.Sym.Lp Go.Sym.Gcm
set_option maxRecDepth 100000
attribute [local irreducible] ldE zl8 ld y8 hf4 ze3 zgd za0
def z9n:List (Nat×List PStep):= []
def z83:List (Nat×List PStep):= []
structure Gs (n:Nat) where
  t:Nat
  x:Nat
  k:Nat
  c:Nat
  hn:k+16*t=n
  hx:0<k→x=16*t
  hc:k≤c
def zz0:Spec:=fun args hp K=>match args,hp with
  | [.ptr 0 0 0 [],.sl 1 0 0 [] n c],[.mk t0 [.arr64 32 T,.arr64 16 F,.u64 y1,.u64 y2],.mk t [.arr8 m l]]=>Pre (T.length=32∧F.length=16∧n≤l.length∧n≤c)
      (K (.tup []) [.mk t0 [.arr64 32 T,.arr64 16 F,.u64 (gaB T F (y1,y2) (l.take n)).1,.u64 (gaB T F (y1,y2) (l.take n)).2],.mk t [.arr8 m l]])
  |_,_=>False
set_option maxHeartbeats 4000000 in
theorem z7c:zp prog 147 zz0:=by
  refine zn xn (zd z22 zl) rfl func147 rfl call147 (D:=z9n) ?_ ?_
  ·intro args hp K h
   unfold zz0 at h
   split at h
   ·exact Nat.le_of_ble_eq_true rfl
   ·exact h.elim
  ·intro args hp K h
   unfold zz0 at h
   split at h
   ·rename_i n c t0 T F y1 y2 t m l
    obtain ⟨⟨hT,hF,hl,hc⟩,h⟩:=zm h
    have hB:(l.take n).length=n:=by rw [List.length_take];omega
    refine za ?_
    refine zz (Option (Gs n)) (fun q=>match q with
      |none=>⟨[(0,.ptr 0 0 0 []),(1,.sl 1 0 0 [] n c)],[.mk t0 [.arr64 32 T,.arr64 16 F,.u64 y1,.u64 y2],.mk t [.arr8 m l]]⟩
      |some s=>⟨[(0,.ptr 0 0 0 []),(1,.sl 1 0 0 [(s.x,1)] s.k s.c)],[.mk t0 [.arr64 32 T,.arr64 16 F,.u64 (zgy T F (y1,y2) (l.take n) s.t).1,.u64 (zgy T F (y1,y2) (l.take n) s.t).2],.mk t [.arr8 m l]]⟩)
      (fun q=>match q with|none=>n+1|some s=>s.k) none [0,1] ?_ ?_
    ·exact zu
    ·intro q
     cases q with
     |none=>
      by_cases h4:16≤n
      ·have hp4:T.length=32∧F.length=16∧16≤n∧off []+n≤l.length:=⟨hT,hF,h4,by show 0+_≤_;omega⟩
       refine za ?_
       rw [show zgd T F (xr (ld ((l.drop (off [])).take 16)) (y1,y2))=zgy T F (y1,y2) (l.take n) (0+1) by rw [zu4 T F (y1,y2) (by omega) hl];rfl]
       refine ⟨some ⟨0+1,slO c 16,n-16,c-16,by omega,fun h0=>by
         have hne:c≠16:=by omega
         rw [yy hne],by omega⟩,[0,1],by show n-16<n+1;omega,?_⟩
       exact zu
      ·by_cases h0:0<n
       ·have hvl:(List.take n (List.drop (off []) l)).length=n:=by rw [List.length_take,List.length_drop];show min n (l.length-0)=n;omega
        have hsp:=zl1 (v:=List.take n (List.drop (off []) l)) (by omega)
        have hpl:=zoo (v:=List.take n (List.drop (off []) l)) (by omega)
        have hpp:T.length=32∧F.length=16∧16≤16∧off []+16≤(za0 (List.take n (List.drop (off []) l))).length:=⟨hT,hF,by decide,by rw [hpl];decide⟩
        have htk:List.take 16 (List.drop (off []) (za0 (List.take n (List.drop (off []) l))))=za0 (List.take n (List.drop (off []) l)):=by show List.take 16 (za0 _)=_;exact List.take_of_length_le (by omega)
        have hla:=zvf T F (y1,y2) (l:=l) (n:=n) (t:=0) (k:=n) (by omega) (by omega) (by omega) hl
        rw [hla] at h
        skip
        refine za ?_
        rw [hsp]
        refine za ?_
        rw [htk]
        conv=>whnf
        exact zh [0,1] h
       ·have hno:=zvw T F (y1,y2) (l:=l) (n:=n) (t:=0) (by omega) hl
        rw [hno] at h
        refine za ?_
        exact zh [0,1] h
     |some s=>
      have hsn:=s.hn
      have hsx:=s.hx
      have hsc:=s.hc
      by_cases h4:16≤s.k
      ·have hp4:T.length=32∧F.length=16∧16≤s.k∧off [(s.x,1)]+s.k≤l.length:=⟨hT,hF,h4,by have:=hsx (by omega);show s.x+_≤_;omega⟩
       have hX:=hsx (by omega)
       refine za ?_
       rw [show zgd T F (xr (ld ((l.drop (off [(s.x,1)])).take 16)) ((zgy T F (y1,y2) (l.take n) s.t).1,(zgy T F (y1,y2) (l.take n) s.t).2))=zgy T F (y1,y2) (l.take n) (s.t+1) by rw [zu4 T F (y1,y2) (by omega) hl];rw [←hX];rfl]
       refine ⟨some ⟨s.t+1,s.x+slO s.c 16,s.k-16,s.c-16,by omega,fun h0=>by
         have hne:s.c≠16:=by omega
         rw [yy hne];omega,by omega⟩,[0,1],by show s.k-16<s.k;omega,?_⟩
       exact zu
      ·by_cases h0:0<s.k
       ·have hX:=hsx h0
        have hvl:(List.take s.k (List.drop (off [(s.x,1)]) l)).length=s.k:=by rw [List.length_take,List.length_drop];show min s.k (l.length-s.x)=s.k;omega
        have hsp:=zl1 (v:=List.take s.k (List.drop (off [(s.x,1)]) l)) (by omega)
        have hpl:=zoo (v:=List.take s.k (List.drop (off [(s.x,1)]) l)) (by omega)
        have hpp:T.length=32∧F.length=16∧16≤16∧off []+16≤(za0 (List.take s.k (List.drop (off [(s.x,1)]) l))).length:=⟨hT,hF,by decide,by rw [hpl];decide⟩
        have htk:List.take 16 (List.drop (off []) (za0 (List.take s.k (List.drop (off [(s.x,1)]) l))))=za0 (List.take s.k (List.drop (off [(s.x,1)]) l)):=by show List.take 16 (za0 _)=_;exact List.take_of_length_le (by omega)
        have hla:=zvf T F (y1,y2) (l:=l) (n:=n) (t:=s.t) (k:=s.k) (by omega) (by omega) (by omega) hl
        rw [hla] at h
        rw [←hX] at h
        refine za ?_
        rw [hsp]
        refine za ?_
        rw [htk]
        conv=>whnf
        exact zh [0,1] h
       ·have hno:=zvw T F (y1,y2) (l:=l) (n:=n) (t:=s.t) (by omega) hl
        rw [hno] at h
        refine za ?_
        exact zh [0,1] h
   ·exact h.elim
def zjd:Spec:=fun args hp K=>match args,hp with
  | [.str nonce,.u32 n],[]=>Pre (nonce.length=12) (K (.arr8 16 (ctr nonce n)) [])
  |_,_=>False
theorem zmz:zp prog 139 zjd:=by
  refine zn xn zl rfl func139 rfl call139 (D:=z83) ?_ ?_
  ·intro args hp K h
   unfold zjd at h
   split at h
   ·exact Nat.le_of_ble_eq_true rfl
   ·exact h.elim
  ·intro args hp K h
   unfold zjd at h
   split at h
   ·rename_i nonce n
    obtain ⟨hn,h⟩:=zm h
    have hsp:zw (List.replicate 16 0) (off []) (List.take (min nonce.length 16) nonce)=zqn nonce n 0:=by
      obtain ⟨a0,a1,a2,a3,a4,a5,a6,a7,a8,a9,b0,b1,rfl⟩:=z1v hn
      rfl
    refine za ?_
    rw [hsp]
    refine zz (Ix (4)) (fun q=>⟨[(0,.str nonce),(1,.u32 n),(4,.ptr 0 0 0 []),(5,.ptr 1 0 0 []),(10,.int q.i)],[.mk 168 [.arr8 16 (List.replicate 16 0)],.mk 168 [.arr8 16 (zqn nonce n q.i)]]⟩) (fun q=>(4)-q.i) ⟨0,Nat.zero_le _⟩ [0,1] ?_ ?_
    ·exact zu
    ·intro q
     have hi:=q.hi
     have hl:=zrx hn n q.i
     have hA:((15:Int)-(q.i:Int)).toNat=15-q.i:=by omega
     have hB:(8*(q.i:Int)).toNat=8*q.i:=by omega
     by_cases h4:q.i<4
     ·refine za ?_
      refine ⟨⟨q.i+1,h4⟩,[0,1],by show (4)-(q.i+1)<(4)-q.i;omega,?_⟩
      repeat ((conv=>whnf);refine zb ?_)
      conv=>whnf
      exact zx (congrArg (fun x=>SV.agg [SV.arr8 16 x]) (show _=zqn nonce n (q.i+1) by simp only [zqn];rw [←hA,←hB];rfl))
     ·have e4:q.i=4:=by omega
      rw [←z1x hn n] at h
      rw [e4]
      refine za ?_
      conv=>whnf
      exact zh [] h
   ·exact h.elim
end Go.Sym.Z

namespace Go.Sym.Z
open Go Go.Proofs.Tryz Go.Sym.Lp Go.Sym.Aes
set_option maxRecDepth 100000
attribute [local irreducible] box rc
def z9p:List (Nat×List PStep):= [(11,[⟨0,[]⟩,⟨1,[0]⟩,⟨2,[]⟩,⟨3,[]⟩,⟨4,[0,1,2,3]⟩,⟨5,[0,1,2,3,4]⟩,⟨6,[0,1,2,3,4]⟩,⟨7,[0,1,2,3]⟩,⟨8,[]⟩]),(14,[⟨0,[]⟩,⟨1,[0]⟩,⟨2,[0]⟩,⟨3,[1,2]⟩,⟨4,[1,2]⟩,⟨5,[]⟩,⟨6,[]⟩,⟨7,[0,1,2,3,4,5,6]⟩,⟨8,[]⟩,⟨9,[0,1,2,3,4,5,6,7,8]⟩,⟨10,[0,1,2,3,4,5,6,7,8,9]⟩,⟨11,[0,1,2,3,4,5,6,7,8,9]⟩,⟨12,[0,1,2,3,4,5,6,7,8,10,11]⟩,⟨13,[0,1,2,3,4,5,6,7,8,10,11]⟩,⟨14,[0,1,2,3,4,5,6,7,8]⟩,⟨15,[0,1,2,3,4,5,6,7,8]⟩,⟨16,[0,1,2,3,4,5,6,7,8,9,10,11,12,13,14,15]⟩,⟨17,[0,1,2,3,4,5,6,7,8,9,10,11,12,13,14,15,16]⟩,⟨18,[0,1,2,3,4,5,6,7,8,9,10,11,12,13,14,15,16]⟩,⟨19,[0,1,2,3,4,5,6,7,8,9,10,11,12,13,14,15,17,18]⟩,⟨20,[0,1,2,3,4,5,6,7,8,9,10,11,12,13,14,15,17,18]⟩,⟨21,[0,1,2,3,4,5,6,7,8,9,10,11,12,13,14,15]⟩,⟨22,[0,1,2,3,4,5,6,7,8,9,10,11,12,13,14,15]⟩,⟨23,[0,1,2,3,4,5,6,7,8,9,10,11,12,13,14,15,16,17,18,19,20,21,22]⟩,⟨24,[0,1,2,3,4,5,6,7,8,9,10,11,12,13,14,15,16,17,18,19,20,21,22,23]⟩,⟨25,[0,1,2,3,4,5,6,7,8,9,10,11,12,13,14,15,16,17,18,19,20,21,22,23]⟩,⟨26,[0,1,2,3,4,5,6,7,8,9,10,11,12,13,14,15,16,17,18,19,20,21,22,24,25]⟩,⟨27,[0,1,2,3,4,5,6,7,8,9,10,11,12,13,14,15,16,17,18,19,20,21,22,24,25]⟩,⟨28,[0,1,2,3,4,5,6,7,8,9,10,11,12,13,14,15,16,17,18,19,20,21,22]⟩,⟨29,[0,1,2,3,4,5,6,7,8,9,10,11,12,13,14,15,16,17,18,19,20,21,22]⟩,⟨30,[]⟩,⟨31,[]⟩]),(20,[⟨0,[]⟩,⟨1,[0]⟩,⟨2,[0,1]⟩,⟨3,[0,1]⟩,⟨4,[0,1]⟩,⟨5,[0,2,3,4]⟩,⟨6,[0,2,3,4]⟩,⟨7,[0]⟩,⟨8,[0]⟩,⟨9,[]⟩,⟨10,[]⟩]),(25,[⟨0,[]⟩,⟨1,[0]⟩,⟨2,[0,1]⟩,⟨3,[0,1,2]⟩,⟨4,[0,1,2,3]⟩,⟨5,[0,1,2,3,4]⟩,⟨6,[0,1,2,3]⟩,⟨7,[0,1,2,3,4,5,6]⟩,⟨8,[0,1,2,7]⟩,⟨9,[0,1,2]⟩,⟨10,[0,1,2]⟩,⟨11,[0,1,2,3,4,5,6,7,8,9,10]⟩,⟨12,[0,1,2,3,4,5,6,7,8,9,10]⟩,⟨13,[0,1,2,3,4,5,6,7,8,9,10]⟩,⟨14,[0,1,2]⟩,⟨15,[2,3,4,5,6,7,8,9,10,11,12,13,14]⟩,⟨16,[]⟩,⟨17,[]⟩]),(32,[⟨0,[]⟩,⟨1,[]⟩,⟨2,[]⟩,⟨3,[]⟩,⟨4,[0,1,2,3]⟩,⟨5,[0,1,2,3]⟩,⟨6,[]⟩,⟨7,[0,1,2,3,4,5,6]⟩,⟨8,[0,1,2,3,4,5,6]⟩,⟨9,[0,1,2,3,4,5,6]⟩,⟨10,[]⟩,⟨11,[0,1,2,3,4,5,6,7,8,9,10]⟩,⟨12,[0,1,2,3,4,5,6,7,8,9,10,11]⟩,⟨13,[0,1,2,3,4,5,6,7,8,9,10]⟩,⟨14,[0,1,2,3,4,5,6,7,8,9,10]⟩,⟨15,[]⟩])]
def zqt:Spec:=fun args hp K=>match args,hp with
  | [.str key],[]=>zv (decide (key.length=16∨key.length=32))
      (K (.tup [.ptr 0 0 0 [],.bool true]) [.mk 216 [.arr8 256 box,.sl 1 0 0 [] (key.length/ 4+7) (key.length/ 4+7)],.mk 168 [.arr8 (16*(key.length/ 4+7)) (ks key (key.length/ 4) (4*(key.length/ 4+7)))]])
      (K (.tup [.nilptr,.bool false]) [])
  |_,_=>False
theorem zns {key:List UInt8} {n N i k:Nat} (hk:key.length=4*n) (h:4*i+4≤N) {v:List UInt8} (hv:v=zeu key n i (ks key n i)) (hkk:k=4*i):zw (kw key n N i) k v=kw key n N (i+1):=by
  subst hkk
  have hl:v.length=4:=by rw [hv];exact znr hk _
  unfold zw
  rw [hl]
  exact zwu hk h hv
theorem znk {W:List UInt8} {i k:Nat} (h:4*i+4≤W.length) {v:List UInt8} (hv:v=(W.drop (4*i)).take 4) (hkk:k=4*i):zw (kc W i) k v=kc W (i+1):=by
  subst hkk
  have hl:v.length=4:=by rw [hv,List.length_take,List.length_drop];omega
  unfold zw
  rw [hl,hv]
  exact z5r h
theorem zk4 {key:List UInt8} {n N i:Nat} (hk:key.length=4*n) (h:4*i+4≤N) {g:Nat→UInt8} (hv:(List.range 4).map g=zeu key n i (ks key n i)):ovr (kw key n N i) (4*i) g 4=kw key n N (i+1):=zwu hk h hv
set_option maxHeartbeats 8000000 in
theorem zzd:zp prog 134 zqt:=by
  refine zn zf6 (zd z3v (zd zpe zl)) rfl func134 rfl call134 (D:=z9p) ?_ ?_
  ·intro args hp K h
   unfold zqt at h
   split at h
   ·exact Nat.le_of_ble_eq_true rfl
   ·exact h.elim
  ·intro args hp K h
   unfold zqt at h
   split at h
   ·rename_i key
    obtain ⟨ht,hn⟩:=zt h
    by_cases hk:key.length=16
    ·have h:=ht (decide_eq_true (.inl hk))
     have hkn:key.length=4*4:=hk
     rw [hk] at h
     have hq:(key.length:Int).tdiv 4=4:=by rw [hk];rfl
     have hf:yn ((key.length:Int).tdiv 4):=by rw [hq];unfold yn;omega
     have hf2:(4:Int)≠0∧yn ((key.length:Int).tdiv 4):=⟨by decide,hf⟩
     refine za ?_
     rw [hq]
     refine za ?_
     refine zz (Ix (44)) (fun q=>⟨[(0,.str key),(2,.nilptr),(3,.bool false),(4,.ptr 0 0 0 []),(5,.int 4),(6,.sl 1 0 0 [] 44 44),(7,.u8 (rc ((q.i-1)/ 4))),(32,.int 44),(33,.int q.i)],[.mk 216 [.arr8 256 box,.nilsl],.mk 148 [.arr8 176 (kw key 4 176 q.i)]]⟩) (fun q=>(44)-q.i) ⟨0,Nat.zero_le _⟩ [0,1] ?_ ?_
     ·repeat ((conv=>whnf);refine zb ?_)
      conv=>whnf
      exact zx (congrArg SV.u8 (by unfold rc;rfl))
     ·intro q
      have hi:=q.hi
      have hl:=zzc hkn (N:=176) (i:=q.i) (by omega)
      have hI:((q.i:Int)).toNat=q.i:=Int.toNat_natCast _
      by_cases h4:q.i<44
      ·by_cases h5:q.i<4
       ·refine za ?_
        refine ⟨⟨q.i+1,h4⟩,[0,1],by show (44)-(q.i+1)<(44)-q.i;omega,?_⟩
        repeat ((conv=>whnf);refine zb ?_)
        conv=>whnf
        refine yc (congrArg (fun x=>SV.agg [SV.arr8 176 x]) (zns hkn (by omega) ?hv ?hkk)) ?_
        case hkk=>show q.i*4=4*q.i;omega
        case hv=>
          unfold zeu
          rw [if_pos h5,show (4*(q.i:Int)).toNat=4*q.i by omega,List.length_drop,Nat.min_eq_right (by omega)]
        repeat ((conv=>whnf);refine zb ?_)
        conv=>whnf
        exact zx (congrArg SV.u8 (by show rc ((q.i-1)/ 4)=rc ((q.i+1-1)/ 4);rw [zrv h5,Nat.add_sub_cancel]))
       ·have hm0:((q.i:Int)).tmod 4=((q.i%4:Nat):Int):=by rw [Int.tmod_eq_emod_of_nonneg (by omega)];omega
        obtain ⟨T,hT⟩: ∃T,T=((ks key 4 q.i).drop (4*(q.i-1))).take 4:=⟨_,rfl⟩
        have hTl:T.length=4:=by rw [hT,List.length_take,List.length_drop,zcv hkn];omega
        have tT:List.take zcb.sz (List.drop (off (yb [] ((q.i:Int)-1).toNat zcb.sz)) (kw key 4 176 q.i))=T:=by
          rw [hT,←z2s hkn (N:=176) (by omega)]
          show List.take 4 (List.drop (((q.i:Int)-1).toNat*4) _)=_
          rw [show ((q.i:Int)-1).toNat*4=4*(q.i-1) by omega]
        have hnx:(List.range 4).map (fun k=>(ks key 4 q.i).getD (4*(q.i-4)+k) 0^^^(zcg 4 q.i T).getD k 0)=zeu key 4 q.i (ks key 4 q.i):=by
          unfold zeu;rw [if_neg h5,←hT]
        by_cases h6:q.i%4=0
        ·refine za ?_
         rw [tT]
         repeat ((conv=>whnf);first|refine zo ?_|refine zf ?_|refine zg ?_|refine zb ?_|refine zr (by first|exact zcd _) ?_|refine zi (by first|exact zcd _) ?_|refine zj (by first|exact zcd _) ?_)
         conv=>whnf
         refine zz (Ix (4)) (fun r=>⟨[(0,.str key),(2,.nilptr),(3,.bool false),(4,.ptr 0 0 0 []),(5,.int 4),(6,.sl 1 0 0 [] 44 44),(7,.u8 (tw (rc ((q.i-1)/ 4)))),(32,.int 44),(33,.int q.i),(8,.int q.i),(9,.ptr 2 0 0 []),(112,.int r.i)],[.mk 216 [.arr8 256 box,.nilsl],.mk 148 [.arr8 176 (ovr (kw key 4 176 q.i) (4*q.i) (fun k=>(ks key 4 q.i).getD (4*(q.i-4)+k) 0^^^(zcg 4 q.i T).getD k 0) r.i)],.mk 148 [.arr8 4 (zcg 4 q.i T)]]⟩) (fun r=>(4)-r.i) ⟨0,Nat.zero_le _⟩ [0,1,2] ?_ ?_
         ·repeat ((conv=>whnf);refine zb ?_)
          conv=>whnf
          refine yc (congrArg (fun x=>SV.agg [SV.arr8 176 x]) (zcc _ _ _).symm) ?_
          repeat ((conv=>whnf);refine zb ?_)
          conv=>whnf
          exact zx (congrArg (fun x=>SV.agg [SV.arr8 4 x]) (by unfold zcg;rw [if_pos h6];rfl))
         ·intro r
          have hri:=r.hi
          have hJ:((r.i:Int)).toNat=r.i:=Int.toNat_natCast _
          have hTW:=zfu (n:=4) (i:=q.i) hTl
          have hlo:=yr (l:=kw key 4 176 q.i) (a:=4*q.i) (i:=r.i) (by omega) (fun k=>(ks key 4 q.i).getD (4*(q.i-4)+k) 0^^^(zcg 4 q.i T).getD k 0)
          by_cases h7:r.i<4
          ·refine za ?_
           refine ⟨⟨r.i+1,h7⟩,[0,1,2],by show (4)-(r.i+1)<(4)-r.i;omega,?_⟩
           repeat ((conv=>whnf);refine zb ?_)
           conv=>whnf
           refine yc (congrArg (fun x=>SV.agg [SV.arr8 176 x]) (ye (by omega) ?hv ?hkk)) ?_
           case hkk=>show q.i*4+r.i=4*q.i+r.i;omega
           case hv=>
             show (ovr _ _ _ _).getD (((q.i:Int)-4).toNat*4+r.i) 0^^^_=_
             rw [yz (by omega) _ (by omega),zl0 hkn (by omega),show ((q.i:Int)-4).toNat*4+r.i=4*(q.i-4)+r.i by omega]
             rfl
           exact zu
          ·have e7:r.i=4:=by omega
           rw [e7,zk4 hkn (by omega) hnx]
           refine za ?_
           refine ⟨⟨q.i+1,h4⟩,[0,1],by show (44)-(q.i+1)<(44)-q.i;omega,?_⟩
           repeat ((conv=>whnf);refine zb ?_)
           conv=>whnf
           exact zx (congrArg SV.u8 (by show (tw (rc ((q.i-1)/ 4)))=rc ((q.i+1-1)/ 4);rw [Nat.add_sub_cancel,zv5 (by omega) (by omega) h6]))
        ·refine za ?_
         rw [tT]
         refine zz (Ix (4)) (fun r=>⟨[(0,.str key),(2,.nilptr),(3,.bool false),(4,.ptr 0 0 0 []),(5,.int 4),(6,.sl 1 0 0 [] 44 44),(7,.u8 (rc ((q.i-1)/ 4))),(32,.int 44),(33,.int q.i),(8,.int q.i),(9,.ptr 2 0 0 []),(112,.int r.i)],[.mk 216 [.arr8 256 box,.nilsl],.mk 148 [.arr8 176 (ovr (kw key 4 176 q.i) (4*q.i) (fun k=>(ks key 4 q.i).getD (4*(q.i-4)+k) 0^^^(zcg 4 q.i T).getD k 0) r.i)],.mk 148 [.arr8 4 (zcg 4 q.i T)]]⟩) (fun r=>(4)-r.i) ⟨0,Nat.zero_le _⟩ [0,1,2] ?_ ?_
         ·repeat ((conv=>whnf);refine zb ?_)
          conv=>whnf
          refine yc (congrArg (fun x=>SV.agg [SV.arr8 176 x]) (zcc _ _ _).symm) ?_
          repeat ((conv=>whnf);refine zb ?_)
          conv=>whnf
          exact zx (congrArg (fun x=>SV.agg [SV.arr8 4 x]) (by unfold zcg;rw [if_neg h6,if_neg (fun h=>absurd h.1 (by decide))]))
         ·intro r
          have hri:=r.hi
          have hJ:((r.i:Int)).toNat=r.i:=Int.toNat_natCast _
          have hTW:=zfu (n:=4) (i:=q.i) hTl
          have hlo:=yr (l:=kw key 4 176 q.i) (a:=4*q.i) (i:=r.i) (by omega) (fun k=>(ks key 4 q.i).getD (4*(q.i-4)+k) 0^^^(zcg 4 q.i T).getD k 0)
          by_cases h7:r.i<4
          ·refine za ?_
           refine ⟨⟨r.i+1,h7⟩,[0,1,2],by show (4)-(r.i+1)<(4)-r.i;omega,?_⟩
           repeat ((conv=>whnf);refine zb ?_)
           conv=>whnf
           refine yc (congrArg (fun x=>SV.agg [SV.arr8 176 x]) (ye (by omega) ?hv ?hkk)) ?_
           case hkk=>show q.i*4+r.i=4*q.i+r.i;omega
           case hv=>
             show (ovr _ _ _ _).getD (((q.i:Int)-4).toNat*4+r.i) 0^^^_=_
             rw [yz (by omega) _ (by omega),zl0 hkn (by omega),show ((q.i:Int)-4).toNat*4+r.i=4*(q.i-4)+r.i by omega]
             rfl
           exact zu
          ·have e7:r.i=4:=by omega
           rw [e7,zk4 hkn (by omega) hnx]
           refine za ?_
           refine ⟨⟨q.i+1,h4⟩,[0,1],by show (44)-(q.i+1)<(44)-q.i;omega,?_⟩
           repeat ((conv=>whnf);refine zb ?_)
           conv=>whnf
           exact zx (congrArg SV.u8 (by show (rc ((q.i-1)/ 4))=rc ((q.i+1-1)/ 4);rw [Nat.add_sub_cancel,zpi (by omega) h6]))
      ·have e4:q.i=44:=by omega
       rw [e4,z3r (by rfl)]
       have hW:=zcv hkn 44
       generalize ks key 4 44=W at*
       refine za ?_
       refine zz (Ix (44)) (fun u=>⟨[(0,.str key),(2,.nilptr),(3,.bool false),(4,.ptr 0 0 0 []),(5,.int 4),(6,.sl 1 0 0 [] 44 44),(141,.int 44),(142,.int u.i)],[.mk 216 [.arr8 256 box,.sl 2 0 0 [] 11 11],.mk 148 [.arr8 176 W],.mk 168 [.arr8 176 (kc W u.i)]]⟩) (fun u=>(44)-u.i) ⟨0,Nat.zero_le _⟩ [0,1,2] ?_ ?_
       ·repeat ((conv=>whnf);refine zb ?_)
        conv=>whnf
        exact zx (congrArg (fun x=>SV.agg [SV.arr8 176 x]) (by rw [zwc,hW];rfl))
       ·intro u
        have hui:=u.hi
        have hlk:=z3l (W:=W) (i:=u.i) (by omega)
        have hU:((u.i:Int)).toNat=u.i:=Int.toNat_natCast _
        have hd:(u.i:Int).tdiv 4=((u.i/ 4:Nat):Int):=by rw [Int.tdiv_eq_ediv_of_nonneg (by omega)];omega
        have hm:(u.i:Int).tmod 4=((u.i%4:Nat):Int):=by rw [Int.tmod_eq_emod_of_nonneg (by omega)];omega
        have hpd:(4:Int)≠0∧yn ((u.i:Int).tdiv 4):=⟨by decide,by unfold yn;omega⟩
        by_cases h8:u.i<44
        ·have hs:slO 16 (4*(u.i:Int).tmod 4).toNat=4*(u.i%4):=by rw [yy (by omega)];omega
         have hv4:(List.take 4 (List.drop (off (yb [] ((u.i:Int)).toNat zcb.sz)) W))=(W.drop (4*u.i)).take 4:=by
           show List.take 4 (List.drop (((u.i:Int)).toNat*4) W)=_
           rw [hU,Nat.mul_comm]
         have hv5:((W.drop (4*u.i)).take 4).length=4:=by rw [List.length_take,List.length_drop];omega
         refine za ?_
         rw [hs,hv4,hv5,Nat.min_eq_left (show 4≤16-(4*(u.i:Int).tmod 4).toNat by omega)]
         conv=>whnf
         refine ⟨⟨u.i+1,h8⟩,[0,1,2],by show (44)-(u.i+1)<(44)-u.i;omega,?_⟩
         repeat ((conv=>whnf);refine zb ?_)
         conv=>whnf
         refine yc (congrArg (fun x=>SV.agg [SV.arr8 176 x]) (znk (by omega) ?hv ?hkk)) ?_
         case hkk=>show ((u.i:Int).tdiv 4).toNat*16+4*(u.i%4)=4*u.i;omega
         case hv=>exact List.take_of_length_le (by omega)
         exact zu
        ·have e8:u.i=44:=by omega
         rw [e8,z2a (by omega)]
         refine za ?_
         exact zh [0,2] h
    ·by_cases hk2:key.length=32
     ·have h:=ht (decide_eq_true (.inr hk2))
      have hk:=hk2
      have hkn:key.length=4*8:=hk2
      rw [hk2] at h
      have hq:(key.length:Int).tdiv 4=8:=by rw [hk];rfl
      have hf:yn ((key.length:Int).tdiv 4):=by rw [hq];unfold yn;omega
      have hf2:(4:Int)≠0∧yn ((key.length:Int).tdiv 4):=⟨by decide,hf⟩
      refine za ?_
      rw [hq]
      refine za ?_
      refine zz (Ix (60)) (fun q=>⟨[(0,.str key),(2,.nilptr),(3,.bool false),(4,.ptr 0 0 0 []),(5,.int 8),(6,.sl 1 0 0 [] 60 60),(7,.u8 (rc ((q.i-1)/ 8))),(32,.int 60),(33,.int q.i)],[.mk 216 [.arr8 256 box,.nilsl],.mk 148 [.arr8 240 (kw key 8 240 q.i)]]⟩) (fun q=>(60)-q.i) ⟨0,Nat.zero_le _⟩ [0,1] ?_ ?_
      ·repeat ((conv=>whnf);refine zb ?_)
       conv=>whnf
       exact zx (congrArg SV.u8 (by unfold rc;rfl))
      ·intro q
       have hi:=q.hi
       have hl:=zzc hkn (N:=240) (i:=q.i) (by omega)
       have hI:((q.i:Int)).toNat=q.i:=Int.toNat_natCast _
       by_cases h4:q.i<60
       ·by_cases h5:q.i<8
        ·refine za ?_
         refine ⟨⟨q.i+1,h4⟩,[0,1],by show (60)-(q.i+1)<(60)-q.i;omega,?_⟩
         repeat ((conv=>whnf);refine zb ?_)
         conv=>whnf
         refine yc (congrArg (fun x=>SV.agg [SV.arr8 240 x]) (zns hkn (by omega) ?hv ?hkk)) ?_
         case hkk=>show q.i*4=4*q.i;omega
         case hv=>
           unfold zeu
           rw [if_pos h5,show (4*(q.i:Int)).toNat=4*q.i by omega,List.length_drop,Nat.min_eq_right (by omega)]
         repeat ((conv=>whnf);refine zb ?_)
         conv=>whnf
         exact zx (congrArg SV.u8 (by show rc ((q.i-1)/ 8)=rc ((q.i+1-1)/ 8);rw [zrv h5,Nat.add_sub_cancel]))
        ·have hm0:((q.i:Int)).tmod 8=((q.i%8:Nat):Int):=by rw [Int.tmod_eq_emod_of_nonneg (by omega)];omega
         obtain ⟨T,hT⟩: ∃T,T=((ks key 8 q.i).drop (4*(q.i-1))).take 4:=⟨_,rfl⟩
         have hTl:T.length=4:=by rw [hT,List.length_take,List.length_drop,zcv hkn];omega
         have tT:List.take zcb.sz (List.drop (off (yb [] ((q.i:Int)-1).toNat zcb.sz)) (kw key 8 240 q.i))=T:=by
           rw [hT,←z2s hkn (N:=240) (by omega)]
           show List.take 4 (List.drop (((q.i:Int)-1).toNat*4) _)=_
           rw [show ((q.i:Int)-1).toNat*4=4*(q.i-1) by omega]
         have hnx:(List.range 4).map (fun k=>(ks key 8 q.i).getD (4*(q.i-8)+k) 0^^^(zcg 8 q.i T).getD k 0)=zeu key 8 q.i (ks key 8 q.i):=by
           unfold zeu;rw [if_neg h5,←hT]
         by_cases h6:q.i%8=0
         ·refine za ?_
          rw [tT]
          repeat ((conv=>whnf);first|refine zo ?_|refine zf ?_|refine zg ?_|refine zb ?_|refine zr (by first|exact zcd _) ?_|refine zi (by first|exact zcd _) ?_|refine zj (by first|exact zcd _) ?_)
          conv=>whnf
          refine zz (Ix (4)) (fun r=>⟨[(0,.str key),(2,.nilptr),(3,.bool false),(4,.ptr 0 0 0 []),(5,.int 8),(6,.sl 1 0 0 [] 60 60),(7,.u8 (tw (rc ((q.i-1)/ 8)))),(32,.int 60),(33,.int q.i),(8,.int q.i),(9,.ptr 2 0 0 []),(112,.int r.i)],[.mk 216 [.arr8 256 box,.nilsl],.mk 148 [.arr8 240 (ovr (kw key 8 240 q.i) (4*q.i) (fun k=>(ks key 8 q.i).getD (4*(q.i-8)+k) 0^^^(zcg 8 q.i T).getD k 0) r.i)],.mk 148 [.arr8 4 (zcg 8 q.i T)]]⟩) (fun r=>(4)-r.i) ⟨0,Nat.zero_le _⟩ [0,1,2] ?_ ?_
          ·repeat ((conv=>whnf);refine zb ?_)
           conv=>whnf
           refine yc (congrArg (fun x=>SV.agg [SV.arr8 240 x]) (zcc _ _ _).symm) ?_
           repeat ((conv=>whnf);refine zb ?_)
           conv=>whnf
           exact zx (congrArg (fun x=>SV.agg [SV.arr8 4 x]) (by unfold zcg;rw [if_pos h6];rfl))
          ·intro r
           have hri:=r.hi
           have hJ:((r.i:Int)).toNat=r.i:=Int.toNat_natCast _
           have hTW:=zfu (n:=8) (i:=q.i) hTl
           have hlo:=yr (l:=kw key 8 240 q.i) (a:=4*q.i) (i:=r.i) (by omega) (fun k=>(ks key 8 q.i).getD (4*(q.i-8)+k) 0^^^(zcg 8 q.i T).getD k 0)
           by_cases h7:r.i<4
           ·refine za ?_
            refine ⟨⟨r.i+1,h7⟩,[0,1,2],by show (4)-(r.i+1)<(4)-r.i;omega,?_⟩
            repeat ((conv=>whnf);refine zb ?_)
            conv=>whnf
            refine yc (congrArg (fun x=>SV.agg [SV.arr8 240 x]) (ye (by omega) ?hv ?hkk)) ?_
            case hkk=>show q.i*4+r.i=4*q.i+r.i;omega
            case hv=>
              show (ovr _ _ _ _).getD (((q.i:Int)-8).toNat*4+r.i) 0^^^_=_
              rw [yz (by omega) _ (by omega),zl0 hkn (by omega),show ((q.i:Int)-8).toNat*4+r.i=4*(q.i-8)+r.i by omega]
              rfl
            exact zu
           ·have e7:r.i=4:=by omega
            rw [e7,zk4 hkn (by omega) hnx]
            refine za ?_
            refine ⟨⟨q.i+1,h4⟩,[0,1],by show (60)-(q.i+1)<(60)-q.i;omega,?_⟩
            repeat ((conv=>whnf);refine zb ?_)
            conv=>whnf
            exact zx (congrArg SV.u8 (by show (tw (rc ((q.i-1)/ 8)))=rc ((q.i+1-1)/ 8);rw [Nat.add_sub_cancel,zv5 (by omega) (by omega) h6]))
         ·by_cases h9:q.i%8=4
          ·refine za ?_
           rw [tT]
           refine za ?_
           refine zz (Ix (4)) (fun k=>⟨[(0,.str key),(2,.nilptr),(3,.bool false),(4,.ptr 0 0 0 []),(5,.int 8),(6,.sl 1 0 0 [] 60 60),(7,.u8 (rc ((q.i-1)/ 8))),(32,.int 60),(33,.int q.i),(8,.int q.i),(9,.ptr 2 0 0 []),(98,.int k.i)],[.mk 216 [.arr8 256 box,.nilsl],.mk 148 [.arr8 240 (kw key 8 240 q.i)],.mk 148 [.arr8 4 (ovr T 0 (fun j=>box.getD (T.getD j 0).toNat 0) k.i)]]⟩) (fun k=>(4)-k.i) ⟨0,Nat.zero_le _⟩ [0,1,2] ?_ ?_
           ·exact zu
           ·intro k
            have hki:=k.hi
            have hKK:((k.i:Int)).toNat=k.i:=Int.toNat_natCast _
            have hlo:=yr (l:=T) (a:=0) (i:=k.i) (by omega) (fun j=>box.getD (T.getD j 0).toNat 0)
            by_cases h10:k.i<4
            ·repeat ((conv=>whnf);first|refine zo ?_|refine zf ?_|refine zg ?_|refine zb ?_|refine zr (by first|exact zcd _) ?_|refine zi (by first|exact zcd _) ?_|refine zj (by first|exact zcd _) ?_)
             conv=>whnf
             refine ⟨⟨k.i+1,h10⟩,[0,1,2],by show (4)-(k.i+1)<(4)-k.i;omega,?_⟩
             repeat ((conv=>whnf);refine zb ?_)
             conv=>whnf
             refine yc (congrArg (fun x=>SV.agg [SV.arr8 4 x]) (ye (by omega) ?hv ?hkk)) ?_
             case hkk=>show k.i=0+k.i;omega
             case hv=>
               show box.getD (UInt8.toNat ((ovr _ _ _ _).getD k.i 0)) 0=box.getD (T.getD k.i 0).toNat 0
               rw [yz (by omega) _ (by omega)]
             exact zu
            ·have e10:k.i=4:=by omega
             rw [e10]
             refine za ?_
             refine zz (Ix (4)) (fun r=>⟨[(0,.str key),(2,.nilptr),(3,.bool false),(4,.ptr 0 0 0 []),(5,.int 8),(6,.sl 1 0 0 [] 60 60),(7,.u8 (rc ((q.i-1)/ 8))),(32,.int 60),(33,.int q.i),(8,.int q.i),(9,.ptr 2 0 0 []),(112,.int r.i)],[.mk 216 [.arr8 256 box,.nilsl],.mk 148 [.arr8 240 (ovr (kw key 8 240 q.i) (4*q.i) (fun k=>(ks key 8 q.i).getD (4*(q.i-8)+k) 0^^^(zcg 8 q.i T).getD k 0) r.i)],.mk 148 [.arr8 4 (zcg 8 q.i T)]]⟩) (fun r=>(4)-r.i) ⟨0,Nat.zero_le _⟩ [0,1,2] ?_ ?_
             ·repeat ((conv=>whnf);refine zb ?_)
              conv=>whnf
              refine yc (congrArg (fun x=>SV.agg [SV.arr8 240 x]) (zcc _ _ _).symm) ?_
              repeat ((conv=>whnf);refine zb ?_)
              conv=>whnf
              exact zx (congrArg (fun x=>SV.agg [SV.arr8 4 x]) (by unfold zcg;rw [if_neg h6,if_pos ⟨rfl,h9⟩];exact x2 hTl _))
             ·intro r
              have hri:=r.hi
              have hJ:((r.i:Int)).toNat=r.i:=Int.toNat_natCast _
              have hTW:=zfu (n:=8) (i:=q.i) hTl
              have hlo:=yr (l:=kw key 8 240 q.i) (a:=4*q.i) (i:=r.i) (by omega) (fun k=>(ks key 8 q.i).getD (4*(q.i-8)+k) 0^^^(zcg 8 q.i T).getD k 0)
              by_cases h7:r.i<4
              ·refine za ?_
               refine ⟨⟨r.i+1,h7⟩,[0,1,2],by show (4)-(r.i+1)<(4)-r.i;omega,?_⟩
               repeat ((conv=>whnf);refine zb ?_)
               conv=>whnf
               refine yc (congrArg (fun x=>SV.agg [SV.arr8 240 x]) (ye (by omega) ?hv ?hkk)) ?_
               case hkk=>show q.i*4+r.i=4*q.i+r.i;omega
               case hv=>
                 show (ovr _ _ _ _).getD (((q.i:Int)-8).toNat*4+r.i) 0^^^_=_
                 rw [yz (by omega) _ (by omega),zl0 hkn (by omega),show ((q.i:Int)-8).toNat*4+r.i=4*(q.i-8)+r.i by omega]
                 rfl
               exact zu
              ·have e7:r.i=4:=by omega
               rw [e7,zk4 hkn (by omega) hnx]
               refine za ?_
               refine ⟨⟨q.i+1,h4⟩,[0,1],by show (60)-(q.i+1)<(60)-q.i;omega,?_⟩
               repeat ((conv=>whnf);refine zb ?_)
               conv=>whnf
               exact zx (congrArg SV.u8 (by show (rc ((q.i-1)/ 8))=rc ((q.i+1-1)/ 8);rw [Nat.add_sub_cancel,zpi (by omega) h6]))
          ·refine za ?_
           rw [tT]
           refine zz (Ix (4)) (fun r=>⟨[(0,.str key),(2,.nilptr),(3,.bool false),(4,.ptr 0 0 0 []),(5,.int 8),(6,.sl 1 0 0 [] 60 60),(7,.u8 (rc ((q.i-1)/ 8))),(32,.int 60),(33,.int q.i),(8,.int q.i),(9,.ptr 2 0 0 []),(112,.int r.i)],[.mk 216 [.arr8 256 box,.nilsl],.mk 148 [.arr8 240 (ovr (kw key 8 240 q.i) (4*q.i) (fun k=>(ks key 8 q.i).getD (4*(q.i-8)+k) 0^^^(zcg 8 q.i T).getD k 0) r.i)],.mk 148 [.arr8 4 (zcg 8 q.i T)]]⟩) (fun r=>(4)-r.i) ⟨0,Nat.zero_le _⟩ [0,1,2] ?_ ?_
           ·repeat ((conv=>whnf);refine zb ?_)
            conv=>whnf
            refine yc (congrArg (fun x=>SV.agg [SV.arr8 240 x]) (zcc _ _ _).symm) ?_
            repeat ((conv=>whnf);refine zb ?_)
            conv=>whnf
            exact zx (congrArg (fun x=>SV.agg [SV.arr8 4 x]) (by unfold zcg;rw [if_neg h6,if_neg (fun h=>h9 h.2)]))
           ·intro r
            have hri:=r.hi
            have hJ:((r.i:Int)).toNat=r.i:=Int.toNat_natCast _
            have hTW:=zfu (n:=8) (i:=q.i) hTl
            have hlo:=yr (l:=kw key 8 240 q.i) (a:=4*q.i) (i:=r.i) (by omega) (fun k=>(ks key 8 q.i).getD (4*(q.i-8)+k) 0^^^(zcg 8 q.i T).getD k 0)
            by_cases h7:r.i<4
            ·refine za ?_
             refine ⟨⟨r.i+1,h7⟩,[0,1,2],by show (4)-(r.i+1)<(4)-r.i;omega,?_⟩
             repeat ((conv=>whnf);refine zb ?_)
             conv=>whnf
             refine yc (congrArg (fun x=>SV.agg [SV.arr8 240 x]) (ye (by omega) ?hv ?hkk)) ?_
             case hkk=>show q.i*4+r.i=4*q.i+r.i;omega
             case hv=>
               show (ovr _ _ _ _).getD (((q.i:Int)-8).toNat*4+r.i) 0^^^_=_
               rw [yz (by omega) _ (by omega),zl0 hkn (by omega),show ((q.i:Int)-8).toNat*4+r.i=4*(q.i-8)+r.i by omega]
               rfl
             exact zu
            ·have e7:r.i=4:=by omega
             rw [e7,zk4 hkn (by omega) hnx]
             refine za ?_
             refine ⟨⟨q.i+1,h4⟩,[0,1],by show (60)-(q.i+1)<(60)-q.i;omega,?_⟩
             repeat ((conv=>whnf);refine zb ?_)
             conv=>whnf
             exact zx (congrArg SV.u8 (by show (rc ((q.i-1)/ 8))=rc ((q.i+1-1)/ 8);rw [Nat.add_sub_cancel,zpi (by omega) h6]))
       ·have e4:q.i=60:=by omega
        rw [e4,z3r (by rfl)]
        have hW:=zcv hkn 60
        generalize ks key 8 60=W at*
        refine za ?_
        refine zz (Ix (60)) (fun u=>⟨[(0,.str key),(2,.nilptr),(3,.bool false),(4,.ptr 0 0 0 []),(5,.int 8),(6,.sl 1 0 0 [] 60 60),(141,.int 60),(142,.int u.i)],[.mk 216 [.arr8 256 box,.sl 2 0 0 [] 15 15],.mk 148 [.arr8 240 W],.mk 168 [.arr8 240 (kc W u.i)]]⟩) (fun u=>(60)-u.i) ⟨0,Nat.zero_le _⟩ [0,1,2] ?_ ?_
        ·repeat ((conv=>whnf);refine zb ?_)
         conv=>whnf
         exact zx (congrArg (fun x=>SV.agg [SV.arr8 240 x]) (by rw [zwc,hW];rfl))
        ·intro u
         have hui:=u.hi
         have hlk:=z3l (W:=W) (i:=u.i) (by omega)
         have hU:((u.i:Int)).toNat=u.i:=Int.toNat_natCast _
         have hd:(u.i:Int).tdiv 4=((u.i/ 4:Nat):Int):=by rw [Int.tdiv_eq_ediv_of_nonneg (by omega)];omega
         have hm:(u.i:Int).tmod 4=((u.i%4:Nat):Int):=by rw [Int.tmod_eq_emod_of_nonneg (by omega)];omega
         have hpd:(4:Int)≠0∧yn ((u.i:Int).tdiv 4):=⟨by decide,by unfold yn;omega⟩
         by_cases h8:u.i<60
         ·have hs:slO 16 (4*(u.i:Int).tmod 4).toNat=4*(u.i%4):=by rw [yy (by omega)];omega
          have hv4:(List.take 4 (List.drop (off (yb [] ((u.i:Int)).toNat zcb.sz)) W))=(W.drop (4*u.i)).take 4:=by
            show List.take 4 (List.drop (((u.i:Int)).toNat*4) W)=_
            rw [hU,Nat.mul_comm]
          have hv5:((W.drop (4*u.i)).take 4).length=4:=by rw [List.length_take,List.length_drop];omega
          refine za ?_
          rw [hs,hv4,hv5,Nat.min_eq_left (show 4≤16-(4*(u.i:Int).tmod 4).toNat by omega)]
          conv=>whnf
          refine ⟨⟨u.i+1,h8⟩,[0,1,2],by show (60)-(u.i+1)<(60)-u.i;omega,?_⟩
          repeat ((conv=>whnf);refine zb ?_)
          conv=>whnf
          refine yc (congrArg (fun x=>SV.agg [SV.arr8 240 x]) (znk (by omega) ?hv ?hkk)) ?_
          case hkk=>show ((u.i:Int).tdiv 4).toNat*16+4*(u.i%4)=4*u.i;omega
          case hv=>exact List.take_of_length_le (by omega)
          exact zu
         ·have e8:u.i=60:=by omega
          rw [e8,z2a (by omega)]
          refine za ?_
          exact zh [0,2] h
     ·have h:=hn (decide_eq_false (fun h=>h.elim hk hk2))
      refine za ?_
      exact zh [] h
   ·exact h.elim
end Go.Sym.Z

namespace Go.Sym.Z
open Go Go.Proofs.Tryz Go.Sym.Lp Go.Sym.Aes
set_option maxRecDepth 100000
attribute [local irreducible] box tw zce zm0
def yai:List (Nat×List PStep):= [(4,[⟨0,[]⟩,⟨1,[]⟩,⟨2,[]⟩,⟨3,[0,1,2]⟩,⟨4,[0,1,2]⟩,⟨5,[0,1,2]⟩,⟨6,[0,1,2]⟩,⟨7,[0,1,2,3,4,5,6]⟩,⟨8,[0,1,2,7]⟩,⟨9,[0,1,2]⟩,⟨10,[0,1,2]⟩,⟨11,[]⟩,⟨12,[]⟩,⟨13,[]⟩]),(13,[⟨0,[]⟩,⟨1,[0]⟩,⟨2,[0,1]⟩,⟨3,[0,1,2]⟩,⟨4,[0,1,2]⟩,⟨5,[0,1,2]⟩,⟨6,[0,1]⟩,⟨7,[0,1]⟩,⟨8,[0,1]⟩,⟨9,[0,1]⟩,⟨10,[0,2,3,4,5,6,7,8,9]⟩,⟨11,[0,2,3,4,5,6,7,8,9]⟩,⟨12,[0]⟩,⟨13,[0]⟩,⟨14,[]⟩,⟨15,[]⟩]),(19,[⟨0,[]⟩,⟨1,[]⟩,⟨2,[]⟩,⟨3,[0,1,2]⟩,⟨4,[0,1,2]⟩,⟨5,[0,1,2]⟩,⟨6,[0,1,2]⟩,⟨7,[0,1,2,3,4,5,6]⟩,⟨8,[0,1,2,3,4,5,6]⟩,⟨9,[0,1,2,3,4,5,6]⟩,⟨10,[0,1,2,3,4,5,6]⟩,⟨11,[0,1,2,3,4,5,6,7,8,9,10]⟩,⟨12,[0,1,2,3,4,5,6,7,8,9,10]⟩,⟨13,[0,1,2,3,4,5,6,7,8,9,10]⟩,⟨14,[0,1,2,3,4,5,6,7,8,9,10]⟩,⟨15,[3,4,5,6,7,8,9,10,11,12,13,14]⟩,⟨16,[7,8,9,10,11,12,13,14]⟩,⟨17,[11,12,13,14]⟩,⟨18,[]⟩]),(21,[⟨0,[]⟩,⟨1,[]⟩,⟨2,[]⟩,⟨3,[0,1,2]⟩,⟨4,[0,1,2,3]⟩,⟨5,[0,1,2,3,4]⟩,⟨6,[0,1,2,3]⟩,⟨7,[0,1,2,3]⟩,⟨8,[0,1,2]⟩,⟨9,[]⟩,⟨10,[]⟩,⟨11,[]⟩]),(22,[⟨0,[]⟩,⟨1,[]⟩,⟨2,[]⟩,⟨3,[]⟩,⟨4,[0,1,2,3]⟩,⟨5,[0,1,2,3,4]⟩,⟨6,[0,1,2,3,4,5]⟩,⟨7,[0,1,2,3,4]⟩,⟨8,[0,1,2,3,4]⟩,⟨9,[0,1,2,3]⟩,⟨10,[]⟩,⟨11,[]⟩,⟨12,[]⟩]),(23,[⟨0,[]⟩,⟨1,[]⟩,⟨2,[]⟩,⟨3,[]⟩,⟨4,[0,1,2,3]⟩,⟨5,[0,1,2,3,4]⟩,⟨6,[0,1,2,3,4,5]⟩,⟨7,[0,1,2,3,4]⟩,⟨8,[0,1,2,3,4]⟩,⟨9,[0,1,2,3]⟩,⟨10,[]⟩,⟨11,[]⟩,⟨12,[]⟩]),(24,[⟨0,[]⟩,⟨1,[]⟩,⟨2,[]⟩,⟨3,[]⟩,⟨4,[0,1,2,3]⟩,⟨5,[0,1,2,3,4]⟩,⟨6,[0,1,2,3,4,5]⟩,⟨7,[0,1,2,3,4]⟩,⟨8,[0,1,2,3,4]⟩,⟨9,[0,1,2,3]⟩,⟨10,[]⟩,⟨11,[]⟩,⟨12,[]⟩]),(28,[⟨0,[]⟩,⟨1,[0]⟩,⟨2,[0]⟩,⟨3,[0]⟩,⟨4,[0,1,2,3]⟩,⟨5,[0,1,2,3]⟩,⟨6,[0,1,2,3]⟩,⟨7,[0,1,2,3]⟩,⟨8,[0,1,2,3,4,5,6,7]⟩,⟨9,[0,1,2,3,4,5,6,7,8]⟩,⟨10,[0,1,2,3,9]⟩,⟨11,[0,1,2,3]⟩,⟨12,[0,1,2,3]⟩,⟨13,[0]⟩,⟨14,[]⟩,⟨15,[]⟩])]
def zmv:Spec:=fun args hp K=>match args,hp with
  | [.ptr 0 0 0 [],.arr8 16 b],[.mk t0 [.arr8 256 tb,.sl 1 0 0 [] R c],.mk t1 [.arr8 N ks]]=>Pre (tb=box∧b.length=16∧1≤R∧R≤100∧16*R≤ks.length)
      (K (.arr8 16 (enc ks R b)) [.mk t0 [.arr8 256 tb,.sl 1 0 0 [] R c],.mk t1 [.arr8 N ks]])
  |_,_=>False
set_option maxHeartbeats 8000000 in
theorem zj0:zp prog 135 zmv:=by
  refine zn zf6 (zd zpe zl) rfl func135 rfl call135 (D:=yai) ?_ ?_
  ·intro args hp K h
   unfold zmv at h
   split at h
   ·exact Nat.le_of_ble_eq_true rfl
   ·exact h.elim
  ·intro args hp K h
   unfold zmv at h
   split at h
   ·rename_i b t0 tb R c t1 N ks
    obtain ⟨⟨rfl,hb,hR,hR2,hN⟩,h⟩:=zm h
    have hB:=zwr
    refine za ?_
    refine zz (Ix (16)) (fun q=>⟨[(0,.ptr 0 0 0 []),(3,.ptr 2 0 0 []),(4,.ptr 3 0 0 []),(16,.int q.i)],[.mk t0 [.arr8 256 box,.sl 1 0 0 [] R c],.mk t1 [.arr8 N ks],.mk 168 [.arr8 16 (ovr b 0 (fun j=>b.getD j 0^^^ks.getD (16*0+j) 0) q.i)],.mk 168 [.arr8 16 (List.replicate 16 0)]]⟩) (fun q=>(16)-q.i) ⟨0,Nat.zero_le _⟩ [0,1,2,3] ?_ ?_
    ·exact zu
    ·intro q
     have hi:=q.hi
     have hI:((q.i:Int)).toNat=q.i:=Int.toNat_natCast _
     have hlo:=yr (l:=b) (a:=0) (i:=q.i) (by omega) (fun j=>b.getD j 0^^^ks.getD (16*0+j) 0)
     by_cases h4:q.i<16
     ·refine za ?_
      refine ⟨⟨q.i+1,h4⟩,[0,1,2,3],by show (16)-(q.i+1)<(16)-q.i;omega,?_⟩
      repeat ((conv=>whnf);refine zb ?_)
      conv=>whnf
      refine yc (congrArg (fun x=>SV.agg [SV.arr8 16 x]) (ye (by omega) ?hv ?hkk)) ?_
      case hkk=>show q.i=0+q.i;omega
      case hv=>
        show (ovr _ _ _ _).getD q.i 0^^^ks.getD (0*16+q.i) 0=_
        rw [yz (by omega) _ (by omega),Nat.zero_mul]
      exact zu
     ·have e4:q.i=16:=by omega
      rw [e4,x2 hb,show (List.range 16).map (fun j=>b.getD j 0^^^ks.getD (16*0+j) 0)=zg2 ks R b 0 from rfl]
      clear hlo hI hi h4 e4 q
      refine za ?_
      refine zz (Ix ((R-1))) (fun q=>⟨[(0,.ptr 0 0 0 []),(3,.ptr 2 0 0 []),(4,.ptr 3 0 0 []),(6,.int ((q.i:Int)+1))],[.mk t0 [.arr8 256 box,.sl 1 0 0 [] R c],.mk t1 [.arr8 N ks],.mk 168 [.arr8 16 (zg2 ks R b q.i)],.mk 168 [.arr8 16 (List.replicate 16 0)]]⟩) (fun q=>((R-1))-q.i) ⟨0,Nat.zero_le _⟩ [0,1,2,3] ?_ ?_
      ·exact zu
      ·intro q
       have hi:=q.hi
       have hX:=zok ks R b q.i
       by_cases h4:q.i<R-1
       ·refine za ?_
        generalize hXe:zg2 ks R b q.i=X at*
        refine zz (Ix (16)) (fun r=>⟨[(0,.ptr 0 0 0 []),(3,.ptr 2 0 0 []),(4,.ptr 3 0 0 []),(6,.int ((q.i:Int)+1)),(7,.ptr 4 0 0 []),(42,.int r.i)],[.mk t0 [.arr8 256 box,.sl 1 0 0 [] R c],.mk t1 [.arr8 N ks],.mk 168 [.arr8 16 X],.mk 168 [.arr8 16 (List.replicate 16 0)],.mk 168 [.arr8 16 (ovr (List.replicate 16 0) 0 (fun i=>box.getD (X.getD ((i+4*(i%4))%16) 0).toNat 0) r.i)]]⟩) (fun r=>(16)-r.i) ⟨0,Nat.zero_le _⟩ [0,1,2,3,4] ?_ ?_
        ·exact zu
        ·intro r
         have hri:=r.hi
         have hJ:((r.i:Int)).toNat=r.i:=Int.toNat_natCast _
         have hm4:(r.i:Int).tmod 4=((r.i%4:Nat):Int):=by rw [Int.tmod_eq_emod_of_nonneg (by omega)];omega
         have hm16:((r.i:Int)+4*(r.i:Int).tmod 4).tmod 16=(((r.i+4*(r.i%4))%16:Nat):Int):=by rw [hm4,Int.tmod_eq_emod_of_nonneg (by omega)];omega
         have hlo:=yr (l:=List.replicate 16 (0:UInt8)) (a:=0) (i:=r.i) (by rw [List.length_replicate];omega) (fun i=>box.getD (X.getD ((i+4*(i%4))%16) 0).toNat 0)
         rw [List.length_replicate] at hlo
         by_cases h5:r.i<16
         ·repeat ((conv=>whnf);first|refine zo ?_|refine zf ?_|refine zg ?_|refine zb ?_|refine zr (by first|exact zcd _) ?_|refine zi (by first|exact zcd _) ?_|refine zj (by first|exact zcd _) ?_)
          conv=>whnf
          refine ⟨⟨r.i+1,h5⟩,[0,1,2,3,4],by show (16)-(r.i+1)<(16)-r.i;omega,?_⟩
          repeat ((conv=>whnf);refine zb ?_)
          conv=>whnf
          refine yc (congrArg (fun x=>SV.agg [SV.arr8 16 x]) (ye (by rw [List.length_replicate];omega) ?hv ?hkk)) ?_
          case hkk=>show r.i=0+r.i;omega
          case hv=>
            show box.getD (UInt8.toNat (X.getD (((r.i:Int)+4*(r.i:Int).tmod 4).tmod 16).toNat 0)) 0=_
            rw [hm16,Int.toNat_natCast]
          exact zu
         ·have e5:r.i=16:=by omega
          rw [e5,x2 (List.length_replicate),show (List.range 16).map (fun i=>box.getD (X.getD ((i+4*(i%4))%16) 0).toNat 0)=zce X by unfold zce;rfl]
          clear hm4 hm16 hlo hJ hri h5 e5 r
          have hS:=zsj X
          have hRR:((R:Int)-1:Int)=((R-1:Nat):Int):=by omega
          by_cases h6:q.i+1<R-1
          ·refine za ?_
           refine zz (Ix (4)) (fun m=>⟨[(0,.ptr 0 0 0 []),(3,.ptr 2 0 0 []),(4,.ptr 3 0 0 []),(6,.int ((q.i:Int)+1)),(7,.ptr 4 0 0 []),(9,.int (4*(m.i:Int)))],[.mk t0 [.arr8 256 box,.sl 1 0 0 [] R c],.mk t1 [.arr8 N ks],.mk 168 [.arr8 16 X],.mk 168 [.arr8 16 (List.replicate 16 0)],.mk 168 [.arr8 16 (ovr (zce X) 0 (zrq (zce X)) (4*m.i))]]⟩) (fun m=>(4)-m.i) ⟨0,Nat.zero_le _⟩ [0,1,2,3,4] ?_ ?_
           ·exact zu
           ·intro m
            have hmi:=m.hi
            have hlm:=yr (l:=zce X) (a:=0) (i:=4*m.i) (by omega) (zrq (zce X))
            by_cases h8:m.i<4
            ·refine za ?_
             refine ⟨⟨m.i+1,h8⟩,[0,1,2,3,4],by show (4)-(m.i+1)<(4)-m.i;omega,?_⟩
             repeat ((conv=>whnf);refine zb ?_)
             conv=>whnf
             exact zx (congrArg (fun x=>SV.agg [SV.arr8 16 x]) (z25 (T:=zce X) (c:=m.i) (by omega) rfl rfl rfl rfl rfl rfl))
            ·have e8:m.i=4:=by omega
             rw [e8,show ovr (zce X) 0 (zrq (zce X)) (4*4)=zm0 (zce X) by unfold zm0;exact x2 hS _]
             clear hlm hmi h8 e8 m
             refine za ?_
             refine zz (Ix (16)) (fun k=>⟨[(0,.ptr 0 0 0 []),(3,.ptr 2 0 0 []),(4,.ptr 3 0 0 []),(6,.int ((q.i:Int)+1)),(7,.ptr 4 0 0 []),(142,.int k.i)],[.mk t0 [.arr8 256 box,.sl 1 0 0 [] R c],.mk t1 [.arr8 N ks],.mk 168 [.arr8 16 (ovr X 0 (fun j=>(zm0 (zce X)).getD j 0^^^ks.getD (16*(q.i+1)+j) 0) k.i)],.mk 168 [.arr8 16 (List.replicate 16 0)],.mk 168 [.arr8 16 (zm0 (zce X))]]⟩) (fun k=>(16)-k.i) ⟨0,Nat.zero_le _⟩ [0,1,2,3,4] ?_ ?_
             ·exact zu
             ·intro k
              have hki:=k.hi
              have hK:((k.i:Int)).toNat=k.i:=Int.toNat_natCast _
              have hQ:((q.i:Int)+1).toNat=q.i+1:=by omega
              have hlo:=yr (l:=X) (a:=0) (i:=k.i) (by omega) (fun j=>(zm0 (zce X)).getD j 0^^^ks.getD (16*(q.i+1)+j) 0)
              have hls:(zm0 (zce X)).length=16:=z3o _
              by_cases h7:k.i<16
              ·refine za ?_
               refine ⟨⟨k.i+1,h7⟩,[0,1,2,3,4],by show (16)-(k.i+1)<(16)-k.i;omega,?_⟩
               repeat ((conv=>whnf);refine zb ?_)
               conv=>whnf
               refine yc (congrArg (fun x=>SV.agg [SV.arr8 16 x]) (ye (by omega) ?hv ?hkk)) ?_
               case hkk=>show k.i=0+k.i;omega
               case hv=>
                 show List.getD _ k.i 0^^^ks.getD (((q.i:Int)+1).toNat*16+k.i) 0=_
                 rw [hQ,Nat.mul_comm]
               exact zu
              ·have e7:k.i=16:=by omega
               have hnx:ovr X 0 (fun j=>(zm0 (zce X)).getD j 0^^^ks.getD (16*(q.i+1)+j) 0) 16=zg2 ks R b (q.i+1):=by
                 rw [x2 hX]
                 simp only [zg2]
                 unfold rnd z1u
                 rw [hXe,if_pos h6]
               rw [e7,hnx]
               refine za ?_
               refine ⟨⟨q.i+1,h4⟩,[0,1,2,3],by show ((R-1))-(q.i+1)<((R-1))-q.i;omega,?_⟩
               exact zu
          ·refine za ?_
           refine zz (Ix (16)) (fun k=>⟨[(0,.ptr 0 0 0 []),(3,.ptr 2 0 0 []),(4,.ptr 3 0 0 []),(6,.int ((q.i:Int)+1)),(7,.ptr 4 0 0 []),(142,.int k.i)],[.mk t0 [.arr8 256 box,.sl 1 0 0 [] R c],.mk t1 [.arr8 N ks],.mk 168 [.arr8 16 (ovr X 0 (fun j=>(zce X).getD j 0^^^ks.getD (16*(q.i+1)+j) 0) k.i)],.mk 168 [.arr8 16 (List.replicate 16 0)],.mk 168 [.arr8 16 (zce X)]]⟩) (fun k=>(16)-k.i) ⟨0,Nat.zero_le _⟩ [0,1,2,3,4] ?_ ?_
           ·exact zu
           ·intro k
            have hki:=k.hi
            have hK:((k.i:Int)).toNat=k.i:=Int.toNat_natCast _
            have hQ:((q.i:Int)+1).toNat=q.i+1:=by omega
            have hlo:=yr (l:=X) (a:=0) (i:=k.i) (by omega) (fun j=>(zce X).getD j 0^^^ks.getD (16*(q.i+1)+j) 0)
            have hls:(zce X).length=16:=zsj X
            by_cases h7:k.i<16
            ·refine za ?_
             refine ⟨⟨k.i+1,h7⟩,[0,1,2,3,4],by show (16)-(k.i+1)<(16)-k.i;omega,?_⟩
             repeat ((conv=>whnf);refine zb ?_)
             conv=>whnf
             refine yc (congrArg (fun x=>SV.agg [SV.arr8 16 x]) (ye (by omega) ?hv ?hkk)) ?_
             case hkk=>show k.i=0+k.i;omega
             case hv=>
               show List.getD _ k.i 0^^^ks.getD (((q.i:Int)+1).toNat*16+k.i) 0=_
               rw [hQ,Nat.mul_comm]
             exact zu
            ·have e7:k.i=16:=by omega
             have hnx:ovr X 0 (fun j=>(zce X).getD j 0^^^ks.getD (16*(q.i+1)+j) 0) 16=zg2 ks R b (q.i+1):=by
               rw [x2 hX]
               simp only [zg2]
               unfold rnd z1u
               rw [hXe,if_neg h6]
             rw [e7,hnx]
             refine za ?_
             refine ⟨⟨q.i+1,h4⟩,[0,1,2,3],by show ((R-1))-(q.i+1)<((R-1))-q.i;omega,?_⟩
             exact zu
       ·have e4:q.i=R-1:=by omega
        rw [e4]
        refine za ?_
        exact zh [0,1] h
   ·exact h.elim
end Go.Sym.Z
