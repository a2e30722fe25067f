/-
  Contracts of functions of the program, each said of symbolic values, and plain laws; no condition beyond each statement's own.
-/
import Derived.Test.YtmmpgjcpielefaaGreatGLStreamActs20
import Derived.Test.YtmmpgjcpielefaaGreatGLStreamActs17
set_option linter.unusedSimpArgs false
set_option linter.unusedVariables false
namespace Go.Sym.Z
open Go Go.Proofs.Tryz Go.Sym.Lp Go.Sym.Cha Go.Sym.Sha
set_option maxRecDepth 100000
attribute [local irreducible] xb KC HB za1 wrH wrR bk
def yhy:List (Nat×List PStep):= []
def yhf:List (Nat×List PStep):= []
def yhe:List (Nat×List PStep):= []
theorem zgb (v:UInt8):List.take 1 (List.drop (off []) ((List.replicate 1 0).set (off [(0,ty5.sz)]) v))= [v]:=rfl
theorem zda {g:Nat→UInt8} {n:Nat} {x:UInt8} (hx:x=g n) (tl t2:List UInt8):List.take n ((List.range n).map g++tl)++ [x]++t2=(List.range (n+1)).map g++t2:=by
  rw [List.take_left' (zz _ _),List.range_succ,List.map_append,hx];rfl
theorem zde (W:List UInt64) (S a j:Nat) (hj:j<S) {k:Nat} (hk:k=a) {I:Int} (hI:I=(S:Int)-1-(j:Int)):(W.getD (off [(k,xj.sz)]) 0>>>UInt64.ofNat (8*I).toNat).toUInt8=Go.Sym.Sha.outG W S (S*a+j):=by
  subst hk hI
  unfold Go.Sym.Sha.outG Go.Sym.Sha.g64
  rw [Nat.mul_add_div (by omega),Nat.div_eq_of_lt hj,Nat.add_zero,Nat.mul_add_mod,Nat.mod_eq_of_lt hj,show (8*((S:Int)-1-(j:Int))).toNat=8*(S-1-j) by omega]
  congr 3
structure Ow (S:Nat) where
  a:Nat
  tl:List UInt8
  ha:1≤a∧a≤8
structure Iw (S:Nat) where
  j:Nat
  tl:List UInt8
  hj:j≤S
def zyc:Spec:=fun args hp K=>match args,hp with
  | [.ptr 0 0 0 []],[.mk t0 [.int m,.arr64 8 H,.arr64 80 k,.nilsl,.u64 all]]=>Pre (H.length=8∧k.length=80∧t0=248) (K (.ptr 1 0 0 []) [.mk t0 [.int m,.arr64 8 H,.arr64 80 k,.nilsl,.u64 all],.mk t0 [.int m,.arr64 8 H,.arr64 80 k,.nilsl,.u64 all]])
  | [.ptr 0 0 0 []],[.mk t0 [.int m,.arr64 8 H,.arr64 80 k,.sl 1 0 0 [] r c,.u64 all],.mk t [.arr8 L l]]=>Pre (H.length=8∧k.length=80∧t0=248∧0<r∧r≤c∧r≤128∧r≤l.length)
      (zaz fun tl:List UInt8=>K (.ptr 2 0 0 []) [.mk t0 [.int m,.arr64 8 H,.arr64 80 k,.sl 1 0 0 [] r c,.u64 all],.mk t [.arr8 L l],.mk t0 [.int m,.arr64 8 H,.arr64 80 k,.sl 3 0 0 [] r (r+tl.length),.u64 all],.mk 5 [.arr8 (r+tl.length) (l.take r++tl)]])
  |_,_=>False
set_option maxHeartbeats 4000000 in
theorem zz2:zp prog 173 zyc:=by
  refine zm zaw zi rfl func173 rfl call173 (D:=yhy) ?_ ?_
  ·intro args hp K h
   unfold zyc at h
   split at h
   ·exact Nat.le_of_ble_eq_true rfl
   ·exact Nat.le_of_ble_eq_true rfl
   ·exact h.elim
  ·intro args hp K h
   unfold zyc at h
   split at h
   ·rename_i t0 m H k all
    obtain ⟨⟨hH,hk,hT⟩,h⟩:=zq h
    subst hT
    refine za ?_
    exact zf [0,1] h
   ·rename_i t0 m H k r c all t L l
    obtain ⟨⟨hH,hk,hT,hr0,hr,hr2,hl⟩,h⟩:=zq h
    subst hT
    have htl:(List.take r (List.drop (off []) l)).length=r:=by rw [List.length_take,List.length_drop];show min r (l.length-0)=r;omega
    refine za ?_
    refine yi fun tl=>?_
    have h:=x0 h tl
    refine za ?_
    rw [htl]
    conv=>whnf
    exact zf [0,1,2,3] h
   ·exact h.elim
def zxf:Spec:=fun args hp K=>match args,hp with
  | [.ptr 0 0 0 []],[.mk t0 [.int m,.arr64 8 H,.arr64 80 k,.nilsl,.u64 all]]=>Pre (H.length=8∧k.length=80∧t0=248∧(m=256∨m=384)) (K (.str (zet m k H [] all)) [.mk t0 [.int m,.arr64 8 H,.arr64 80 k,.nilsl,.u64 all]])
  | [.ptr 0 0 0 []],[.mk t0 [.int m,.arr64 8 H,.arr64 80 k,.sl 1 0 0 [] r c,.u64 all],.mk t [.arr8 L l]]=>Pre (H.length=8∧k.length=80∧t0=248∧(m=256∨m=384)∧0<r∧r<bk m∧r≤c∧r≤l.length) (K (.str (zet m k H (l.take r) all)) [.mk t0 [.int m,.arr64 8 H,.arr64 80 k,.sl 1 0 0 [] r c,.u64 all],.mk t [.arr8 L l]])
  |_,_=>False
set_option maxHeartbeats 8000000 in
theorem z1o:zp prog 174 zxf:=by
  refine zm zaw (zd zz2 (zd zv6 (zd zkl zi))) rfl func174 rfl call174 (D:=yhf) ?_ ?_
  ·intro args hp K h
   unfold zxf at h
   split at h
   ·exact Nat.le_of_ble_eq_true rfl
   ·exact Nat.le_of_ble_eq_true rfl
   ·exact h.elim
  ·intro args hp K h
   unfold zxf at h
   split at h
   ·rename_i t0 m H k all
    obtain ⟨⟨hH,hk,hT,hm⟩,h⟩:=zq h
    subst hT
    have hpf:H.length=8∧k.length=80∧248=248:=⟨hH,hk,rfl⟩
    rcases hm with hm|hm
    ·have hb:bk m=64:=by unfold bk;rw [if_pos hm]
     refine za ?_
     rw [hb]
     have hq1:(8:Int)≠0∧ya (((64:Nat):Int).tdiv 8):=⟨by decide,by unfold ya;decide⟩
     have hq2:(16:Int)≠0∧ya (((64:Nat):Int).tdiv 16):=⟨by decide,by unfold ya;decide⟩
     have hd8:((64:Nat):Int).tdiv 8=8:=rfl
     have hd16:((64:Nat):Int).tdiv 16=4:=rfl
     have hmd:(2*((64:Nat):Int)-1-((64:Nat):Int).tdiv 8-0).tmod ((64:Nat):Int)=(((119-0)%64:Nat):Int):=by rw [hd8,Int.tmod_eq_emod_of_nonneg (by omega)];omega
     have hft:ya (1+(2*((64:Nat):Int)-1-((64:Nat):Int).tdiv 8-0).tmod ((64:Nat):Int)):=by rw [hmd];unfold ya;omega
     have hPl:1+(2*((64:Nat):Int)-1-((64:Nat):Int).tdiv 8-0).tmod ((64:Nat):Int)+((64:Nat):Int).tdiv 8=((zbz m 0:Nat):Int):=by rw [hmd,hd8];unfold zbz;rw [hb];omega
     have hPb:8+1≤zbz m 0∧zbz m 0≤200:=by unfold zbz;rw [hb];omega
     obtain ⟨Q,hQ⟩: ∃Q,Q=zbz m 0:=⟨_,rfl⟩
     rw [←hQ] at hPl hPb
     have hft2:ya (1+(2*((64:Nat):Int)-1-((64:Nat):Int).tdiv 8-0).tmod ((64:Nat):Int)+((64:Nat):Int).tdiv 8):=by rw [hPl];unfold ya;omega
     refine za ?_
     rw [hPl]
     refine za ?_
     have hPp:zi6 m 0 all=zcs Q all 8:=by unfold zi6;rw [←hQ]
     have hNone:=zhq (n:=m) (R:= []) (by rw [List.length_nil,hb];omega) all
     rw [List.length_nil,hPp] at hNone
     refine zt (Ix (8)) (fun q=>⟨[(0,.ptr 0 0 0 []),(3,.ptr 1 0 0 []),(4,.int 64),(5,.sl 2 0 0 [] Q Q),(39,.int q.i)],[.mk 248 [.int m,.arr64 8 H,.arr64 80 k,.nilsl,.u64 all],.mk 248 [.int m,.arr64 8 H,.arr64 80 k,.nilsl,.u64 all],.mk 5 [.arr8 Q (zcs Q all q.i)]]⟩) (fun q=>(8)-q.i) ⟨0,Nat.zero_le _⟩ [0,1,2] ?_ ?_
     ·exact zn
     ·intro q
      have hi:=q.hi
      have hpl:=zea Q all q.i
      have hof:off (yb [] ((Q:Int)-1-(q.i:Int)).toNat ty5.sz)=Q-1-q.i:=by rw [zy];show 0+((Q:Int)-1-(q.i:Int)).toNat*1=_;omega
      have hk8:(8*(q.i:Int)).toNat=8*q.i:=by omega
      by_cases h4:q.i<8
      ·refine za ?_
       refine ⟨⟨q.i+1,h4⟩,[0,1,2],by show (8)-(q.i+1)<(8)-q.i;omega,?_⟩
       repeat ((conv=>whnf);refine zb ?_)
       conv=>whnf
       exact zo (congrArg (fun x=>SV.agg [SV.arr8 Q x]) (show _=zcs Q all (q.i+1) by simp only [zcs];rw [hof,hk8];rfl))
      ·have e4:q.i=8:=by omega
       rw [e4] at hpl
       rw [e4]
       clear hi hof hk8 h4 e4 q
       obtain ⟨P,hP⟩: ∃P,P=zcs Q all 8:=⟨_,rfl⟩
       rw [←hP] at hpl hNone hPp
       rw [←hP]
       have hPt:List.take Q (List.drop (off []) P)=P:=List.take_of_length_le (Nat.le_of_eq hpl)
       have hpo:off []+Q≤P.length:=by rw [hpl];show 0+Q≤Q;omega
       skip
       refine za ?_
       rw [hPt]
       repeat ((conv=>whnf);first|refine zu ?_|refine zg ?_|refine zh ?_|refine zb ?_|refine zr (by first|exact decide_eq_true hNone) ?_|refine zj (by first|exact decide_eq_true hNone) ?_|refine zk (by first|exact decide_eq_true hNone) ?_)
       conv=>whnf
       have hWl:=zbr (n:=m) (k:=k) hH [] P
       generalize hWd:wrH m k H [] P=W at*
       refine zt (Option (Ow 4)) (fun q=>match q with
         |none=>⟨[(0,.ptr 0 0 0 []),(3,.ptr 1 0 0 []),(7,.nilsl),(8,.int 4),(68,.arr64 8 W),(69,.int 0)],[.mk 248 [.int m,.arr64 8 H,.arr64 80 k,.nilsl,.u64 all],.mk 248 [.int m,.arr64 8 W,.arr64 80 k,.nilsl,.u64 (all+UInt64.ofNat P.length)]]⟩
         |some s=>⟨[(0,.ptr 0 0 0 []),(3,.ptr 1 0 0 []),(7,.sl 2 0 0 [] (4*s.a) (4*s.a+s.tl.length)),(8,.int 4),(68,.arr64 8 W),(69,.int s.a)],[.mk 248 [.int m,.arr64 8 H,.arr64 80 k,.nilsl,.u64 all],.mk 248 [.int m,.arr64 8 W,.arr64 80 k,.nilsl,.u64 (all+UInt64.ofNat P.length)],.mk 5 [.arr8 (4*s.a+s.tl.length) ((List.range (4*s.a)).map (outG W 4)++s.tl)]]⟩)
         (fun q=>match q with|none=>9|some s=>8-s.a) none [0,1] ?_ ?_
       ·exact zn
       ·intro q
        cases q with
        |none=>
         refine za ?_
         refine zt (Option (Iw 4)) (fun v=>match v with
           |none=>⟨[(0,.ptr 0 0 0 []),(3,.ptr 1 0 0 []),(7,.nilsl),(8,.int 4),(10,.u64 (W.getD (off [(Int.toNat 0,xj.sz)]) 0)),(11,.int (4-1)),(68,.arr64 8 W),(69,.int 0)],[.mk 248 [.int m,.arr64 8 H,.arr64 80 k,.nilsl,.u64 all],.mk 248 [.int m,.arr64 8 W,.arr64 80 k,.nilsl,.u64 (all+UInt64.ofNat P.length)]]⟩
           |some v=>⟨[(0,.ptr 0 0 0 []),(3,.ptr 1 0 0 []),(7,.sl 2 0 0 [] v.j (v.j+v.tl.length)),(8,.int 4),(10,.u64 (W.getD (off [(Int.toNat 0,xj.sz)]) 0)),(11,.int ((4:Int)-1-v.j)),(68,.arr64 8 W),(69,.int 0)],[.mk 248 [.int m,.arr64 8 H,.arr64 80 k,.nilsl,.u64 all],.mk 248 [.int m,.arr64 8 W,.arr64 80 k,.nilsl,.u64 (all+UInt64.ofNat P.length)],.mk 5 [.arr8 (v.j+v.tl.length) ((List.range v.j).map (outG W 4)++v.tl)]]⟩)
           (fun v=>match v with|none=>4+1|some v=>4-v.j) none [0,1] ?_ ?_
         ·exact zn
         ·intro v
          cases v with
          |none=>
           refine za ?_
           refine yi fun t1=>?_
           refine za ?_
           rw [zgb]
           refine ⟨some ⟨1,t1,by omega⟩,[0,1,3],by show 4-1<4+1;omega,?_⟩
           exact zn
          |some v=>
           have hj':=v.hj
           by_cases hj:v.j<4
           ·refine za ?_
            rw [zgb]
            refine zr ⟨by omega,by rw [List.length_append,zz],by show _+1≤_;omega⟩ ?_
            refine za ?_
            refine yi fun t2=>?_
            refine za ?_
            refine ⟨some ⟨v.j+1,t2,by omega⟩,[0,1,4],by show 4-(v.j+1)<4-v.j;omega,?_⟩
            repeat ((conv=>whnf);refine zb ?_)
            conv=>whnf
            refine zv (congrArg (fun x=>SV.agg [SV.arr8 ((v.j+1)+t2.length) x]) (zda (g:=outG W 4) (n:=v.j) (by have:=zde W 4 0 v.j hj (k:=Int.toNat 0) rfl (I:=4-1-(v.j:Int)) rfl;rwa [Nat.mul_zero,Nat.zero_add] at this) _ _)) ?_
            repeat ((conv=>whnf);refine zb ?_)
            conv=>whnf
            exact zo (congrArg SV.int (show (4:Int)-1-(v.j:Int)-1=4-1-((v.j+1:Nat):Int) by omega))
           ·have ej:v.j=4:=by omega
            refine za ?_
            refine ⟨some ⟨0+1,v.tl,by omega⟩,[0,1,2],by show 8-(0+1)<9;omega,?_⟩
            rw [ej]
            exact zn
        |some s=>
         have ha:=s.ha
         by_cases h8:s.a<8
         ·refine za ?_
          refine zt (Iw 4) (fun v=>⟨[(0,.ptr 0 0 0 []),(3,.ptr 1 0 0 []),(7,.sl 2 0 0 [] (4*s.a+v.j) ((4*s.a+v.j)+v.tl.length)),(8,.int 4),(10,.u64 (W.getD (off [((s.a:Int).toNat,xj.sz)]) 0)),(11,.int ((4:Int)-1-v.j)),(68,.arr64 8 W),(69,.int (s.a:Int))],[.mk 248 [.int m,.arr64 8 H,.arr64 80 k,.nilsl,.u64 all],.mk 248 [.int m,.arr64 8 W,.arr64 80 k,.nilsl,.u64 (all+UInt64.ofNat P.length)],.mk 5 [.arr8 ((4*s.a+v.j)+v.tl.length) ((List.range (4*s.a+v.j)).map (outG W 4)++v.tl)]]⟩) (fun v=>4-v.j) ⟨0,s.tl,Nat.zero_le _⟩ [0,1,2] ?_ ?_
          ·exact zn
          ·intro v
           have hj':=v.hj
           by_cases hj:v.j<4
           ·refine za ?_
            rw [zgb]
            refine zr ⟨by omega,by rw [List.length_append,zz],by show _+1≤_;omega⟩ ?_
            refine za ?_
            refine yi fun t2=>?_
            refine za ?_
            refine ⟨⟨v.j+1,t2,by omega⟩,[0,1,4],by show 4-(v.j+1)<4-v.j;omega,?_⟩
            repeat ((conv=>whnf);refine zb ?_)
            conv=>whnf
            refine zv (congrArg (fun x=>SV.agg [SV.arr8 ((4*s.a+(v.j+1))+t2.length) x]) (zda (g:=outG W 4) (n:=(4*s.a+v.j)) (zde W 4 s.a v.j hj (Int.toNat_natCast _) rfl) _ _)) ?_
            repeat ((conv=>whnf);refine zb ?_)
            conv=>whnf
            exact zo (congrArg SV.int (show (4:Int)-1-(v.j:Int)-1=4-1-((v.j+1:Nat):Int) by omega))
           ·have ej:v.j=4:=by omega
            refine za ?_
            refine ⟨some ⟨s.a+1,v.tl,by omega⟩,[0,1,2],by show 8-(s.a+1)<8-s.a;omega,?_⟩
            rw [ej]
            exact zn
         ·have e8:s.a=8:=by omega
          have h8m:(8:Int)≠0∧ya (m.tdiv 8):=by rw [hm];exact ⟨by decide,by unfold ya;decide⟩
          have hd8m:m.tdiv 8=32:=by rw [hm];rfl
          refine za ?_
          rw [e8,hd8m]
          have hOl:=zhf W 4
          have hO:(List.range (4*8)).map (outG W 4)=zgw W 4:=by unfold zgw;rfl
          have hpo:off []+Int.toNat 32≤((List.range (4*8)).map (outG W 4)++s.tl).length:=by rw [List.length_append,zz];show 0+32≤_;omega
          have hsm:zet m k H [] all=List.take (Int.toNat 32) (List.drop (off []) ((List.range (4*8)).map (outG W 4)++s.tl)):=by
            unfold zet
            rw [List.length_nil,hPp,hWd,hb,hO,show (m/ 8).toNat=32 by rw [hm];rfl]
            show _=List.take 32 (zgw W 4++s.tl)
            rw [List.take_append_of_le_length (by rw [hOl];decide)]
          rw [hsm] at h
          refine za ?_
          exact zf [0] h
    ·have hb:bk m=128:=by unfold bk;rw [if_neg (by omega)]
     refine za ?_
     rw [hb]
     have hq1:(8:Int)≠0∧ya (((128:Nat):Int).tdiv 8):=⟨by decide,by unfold ya;decide⟩
     have hq2:(16:Int)≠0∧ya (((128:Nat):Int).tdiv 16):=⟨by decide,by unfold ya;decide⟩
     have hd8:((128:Nat):Int).tdiv 8=16:=rfl
     have hd16:((128:Nat):Int).tdiv 16=8:=rfl
     have hmd:(2*((128:Nat):Int)-1-((128:Nat):Int).tdiv 8-0).tmod ((128:Nat):Int)=(((239-0)%128:Nat):Int):=by rw [hd8,Int.tmod_eq_emod_of_nonneg (by omega)];omega
     have hft:ya (1+(2*((128:Nat):Int)-1-((128:Nat):Int).tdiv 8-0).tmod ((128:Nat):Int)):=by rw [hmd];unfold ya;omega
     have hPl:1+(2*((128:Nat):Int)-1-((128:Nat):Int).tdiv 8-0).tmod ((128:Nat):Int)+((128:Nat):Int).tdiv 8=((zbz m 0:Nat):Int):=by rw [hmd,hd8];unfold zbz;rw [hb];omega
     have hPb:16+1≤zbz m 0∧zbz m 0≤200:=by unfold zbz;rw [hb];omega
     obtain ⟨Q,hQ⟩: ∃Q,Q=zbz m 0:=⟨_,rfl⟩
     rw [←hQ] at hPl hPb
     have hft2:ya (1+(2*((128:Nat):Int)-1-((128:Nat):Int).tdiv 8-0).tmod ((128:Nat):Int)+((128:Nat):Int).tdiv 8):=by rw [hPl];unfold ya;omega
     refine za ?_
     rw [hPl]
     refine za ?_
     have hPp:zi6 m 0 all=zcs Q all 8:=by unfold zi6;rw [←hQ]
     have hNone:=zhq (n:=m) (R:= []) (by rw [List.length_nil,hb];omega) all
     rw [List.length_nil,hPp] at hNone
     refine zt (Ix (8)) (fun q=>⟨[(0,.ptr 0 0 0 []),(3,.ptr 1 0 0 []),(4,.int 128),(5,.sl 2 0 0 [] Q Q),(39,.int q.i)],[.mk 248 [.int m,.arr64 8 H,.arr64 80 k,.nilsl,.u64 all],.mk 248 [.int m,.arr64 8 H,.arr64 80 k,.nilsl,.u64 all],.mk 5 [.arr8 Q (zcs Q all q.i)]]⟩) (fun q=>(8)-q.i) ⟨0,Nat.zero_le _⟩ [0,1,2] ?_ ?_
     ·exact zn
     ·intro q
      have hi:=q.hi
      have hpl:=zea Q all q.i
      have hof:off (yb [] ((Q:Int)-1-(q.i:Int)).toNat ty5.sz)=Q-1-q.i:=by rw [zy];show 0+((Q:Int)-1-(q.i:Int)).toNat*1=_;omega
      have hk8:(8*(q.i:Int)).toNat=8*q.i:=by omega
      by_cases h4:q.i<8
      ·refine za ?_
       refine ⟨⟨q.i+1,h4⟩,[0,1,2],by show (8)-(q.i+1)<(8)-q.i;omega,?_⟩
       repeat ((conv=>whnf);refine zb ?_)
       conv=>whnf
       exact zo (congrArg (fun x=>SV.agg [SV.arr8 Q x]) (show _=zcs Q all (q.i+1) by simp only [zcs];rw [hof,hk8];rfl))
      ·have e4:q.i=8:=by omega
       rw [e4] at hpl
       rw [e4]
       clear hi hof hk8 h4 e4 q
       obtain ⟨P,hP⟩: ∃P,P=zcs Q all 8:=⟨_,rfl⟩
       rw [←hP] at hpl hNone hPp
       rw [←hP]
       have hPt:List.take Q (List.drop (off []) P)=P:=List.take_of_length_le (Nat.le_of_eq hpl)
       have hpo:off []+Q≤P.length:=by rw [hpl];show 0+Q≤Q;omega
       skip
       refine za ?_
       rw [hPt]
       repeat ((conv=>whnf);first|refine zu ?_|refine zg ?_|refine zh ?_|refine zb ?_|refine zr (by first|exact decide_eq_true hNone) ?_|refine zj (by first|exact decide_eq_true hNone) ?_|refine zk (by first|exact decide_eq_true hNone) ?_)
       conv=>whnf
       have hWl:=zbr (n:=m) (k:=k) hH [] P
       generalize hWd:wrH m k H [] P=W at*
       refine zt (Option (Ow 8)) (fun q=>match q with
         |none=>⟨[(0,.ptr 0 0 0 []),(3,.ptr 1 0 0 []),(7,.nilsl),(8,.int 8),(68,.arr64 8 W),(69,.int 0)],[.mk 248 [.int m,.arr64 8 H,.arr64 80 k,.nilsl,.u64 all],.mk 248 [.int m,.arr64 8 W,.arr64 80 k,.nilsl,.u64 (all+UInt64.ofNat P.length)]]⟩
         |some s=>⟨[(0,.ptr 0 0 0 []),(3,.ptr 1 0 0 []),(7,.sl 2 0 0 [] (8*s.a) (8*s.a+s.tl.length)),(8,.int 8),(68,.arr64 8 W),(69,.int s.a)],[.mk 248 [.int m,.arr64 8 H,.arr64 80 k,.nilsl,.u64 all],.mk 248 [.int m,.arr64 8 W,.arr64 80 k,.nilsl,.u64 (all+UInt64.ofNat P.length)],.mk 5 [.arr8 (8*s.a+s.tl.length) ((List.range (8*s.a)).map (outG W 8)++s.tl)]]⟩)
         (fun q=>match q with|none=>9|some s=>8-s.a) none [0,1] ?_ ?_
       ·exact zn
       ·intro q
        cases q with
        |none=>
         refine za ?_
         refine zt (Option (Iw 8)) (fun v=>match v with
           |none=>⟨[(0,.ptr 0 0 0 []),(3,.ptr 1 0 0 []),(7,.nilsl),(8,.int 8),(10,.u64 (W.getD (off [(Int.toNat 0,xj.sz)]) 0)),(11,.int (8-1)),(68,.arr64 8 W),(69,.int 0)],[.mk 248 [.int m,.arr64 8 H,.arr64 80 k,.nilsl,.u64 all],.mk 248 [.int m,.arr64 8 W,.arr64 80 k,.nilsl,.u64 (all+UInt64.ofNat P.length)]]⟩
           |some v=>⟨[(0,.ptr 0 0 0 []),(3,.ptr 1 0 0 []),(7,.sl 2 0 0 [] v.j (v.j+v.tl.length)),(8,.int 8),(10,.u64 (W.getD (off [(Int.toNat 0,xj.sz)]) 0)),(11,.int ((8:Int)-1-v.j)),(68,.arr64 8 W),(69,.int 0)],[.mk 248 [.int m,.arr64 8 H,.arr64 80 k,.nilsl,.u64 all],.mk 248 [.int m,.arr64 8 W,.arr64 80 k,.nilsl,.u64 (all+UInt64.ofNat P.length)],.mk 5 [.arr8 (v.j+v.tl.length) ((List.range v.j).map (outG W 8)++v.tl)]]⟩)
           (fun v=>match v with|none=>8+1|some v=>8-v.j) none [0,1] ?_ ?_
         ·exact zn
         ·intro v
          cases v with
          |none=>
           refine za ?_
           refine yi fun t1=>?_
           refine za ?_
           rw [zgb]
           refine ⟨some ⟨1,t1,by omega⟩,[0,1,3],by show 8-1<8+1;omega,?_⟩
           exact zn
          |some v=>
           have hj':=v.hj
           by_cases hj:v.j<8
           ·refine za ?_
            rw [zgb]
            refine zr ⟨by omega,by rw [List.length_append,zz],by show _+1≤_;omega⟩ ?_
            refine za ?_
            refine yi fun t2=>?_
            refine za ?_
            refine ⟨some ⟨v.j+1,t2,by omega⟩,[0,1,4],by show 8-(v.j+1)<8-v.j;omega,?_⟩
            repeat ((conv=>whnf);refine zb ?_)
            conv=>whnf
            refine zv (congrArg (fun x=>SV.agg [SV.arr8 ((v.j+1)+t2.length) x]) (zda (g:=outG W 8) (n:=v.j) (by have:=zde W 8 0 v.j hj (k:=Int.toNat 0) rfl (I:=8-1-(v.j:Int)) rfl;rwa [Nat.mul_zero,Nat.zero_add] at this) _ _)) ?_
            repeat ((conv=>whnf);refine zb ?_)
            conv=>whnf
            exact zo (congrArg SV.int (show (8:Int)-1-(v.j:Int)-1=8-1-((v.j+1:Nat):Int) by omega))
           ·have ej:v.j=8:=by omega
            refine za ?_
            refine ⟨some ⟨0+1,v.tl,by omega⟩,[0,1,2],by show 8-(0+1)<9;omega,?_⟩
            rw [ej]
            exact zn
        |some s=>
         have ha:=s.ha
         by_cases h8:s.a<8
         ·refine za ?_
          refine zt (Iw 8) (fun v=>⟨[(0,.ptr 0 0 0 []),(3,.ptr 1 0 0 []),(7,.sl 2 0 0 [] (8*s.a+v.j) ((8*s.a+v.j)+v.tl.length)),(8,.int 8),(10,.u64 (W.getD (off [((s.a:Int).toNat,xj.sz)]) 0)),(11,.int ((8:Int)-1-v.j)),(68,.arr64 8 W),(69,.int (s.a:Int))],[.mk 248 [.int m,.arr64 8 H,.arr64 80 k,.nilsl,.u64 all],.mk 248 [.int m,.arr64 8 W,.arr64 80 k,.nilsl,.u64 (all+UInt64.ofNat P.length)],.mk 5 [.arr8 ((8*s.a+v.j)+v.tl.length) ((List.range (8*s.a+v.j)).map (outG W 8)++v.tl)]]⟩) (fun v=>8-v.j) ⟨0,s.tl,Nat.zero_le _⟩ [0,1,2] ?_ ?_
          ·exact zn
          ·intro v
           have hj':=v.hj
           by_cases hj:v.j<8
           ·refine za ?_
            rw [zgb]
            refine zr ⟨by omega,by rw [List.length_append,zz],by show _+1≤_;omega⟩ ?_
            refine za ?_
            refine yi fun t2=>?_
            refine za ?_
            refine ⟨⟨v.j+1,t2,by omega⟩,[0,1,4],by show 8-(v.j+1)<8-v.j;omega,?_⟩
            repeat ((conv=>whnf);refine zb ?_)
            conv=>whnf
            refine zv (congrArg (fun x=>SV.agg [SV.arr8 ((8*s.a+(v.j+1))+t2.length) x]) (zda (g:=outG W 8) (n:=(8*s.a+v.j)) (zde W 8 s.a v.j hj (Int.toNat_natCast _) rfl) _ _)) ?_
            repeat ((conv=>whnf);refine zb ?_)
            conv=>whnf
            exact zo (congrArg SV.int (show (8:Int)-1-(v.j:Int)-1=8-1-((v.j+1:Nat):Int) by omega))
           ·have ej:v.j=8:=by omega
            refine za ?_
            refine ⟨some ⟨s.a+1,v.tl,by omega⟩,[0,1,2],by show 8-(s.a+1)<8-s.a;omega,?_⟩
            rw [ej]
            exact zn
         ·have e8:s.a=8:=by omega
          have h8m:(8:Int)≠0∧ya (m.tdiv 8):=by rw [hm];exact ⟨by decide,by unfold ya;decide⟩
          have hd8m:m.tdiv 8=48:=by rw [hm];rfl
          refine za ?_
          rw [e8,hd8m]
          have hOl:=zhf W 8
          have hO:(List.range (8*8)).map (outG W 8)=zgw W 8:=by unfold zgw;rfl
          have hpo:off []+Int.toNat 48≤((List.range (8*8)).map (outG W 8)++s.tl).length:=by rw [List.length_append,zz];show 0+48≤_;omega
          have hsm:zet m k H [] all=List.take (Int.toNat 48) (List.drop (off []) ((List.range (8*8)).map (outG W 8)++s.tl)):=by
            unfold zet
            rw [List.length_nil,hPp,hWd,hb,hO,show (m/ 8).toNat=48 by rw [hm];rfl]
            show _=List.take 48 (zgw W 8++s.tl)
            rw [List.take_append_of_le_length (by rw [hOl];decide)]
          rw [hsm] at h
          refine za ?_
          exact zf [0] h
   ·rename_i t0 m H k r c all t L l
    obtain ⟨⟨hH,hk,hT,hm,hr0,hrb,hr,hl⟩,h⟩:=zq h
    subst hT
    have hb:bk m=64∨bk m=128:=by unfold bk;split<;>simp
    have hpf:H.length=8∧k.length=80∧248=248∧0<r∧r≤c∧r≤128∧r≤l.length:=⟨hH,hk,rfl,hr0,hr,by omega,hl⟩
    clear hb
    rcases hm with hm|hm
    ·have hb:bk m=64:=by unfold bk;rw [if_pos hm]
     refine za ?_
     refine yi fun tl=>?_
     refine za ?_
     rw [hb]
     have hq1:(8:Int)≠0∧ya (((64:Nat):Int).tdiv 8):=⟨by decide,by unfold ya;decide⟩
     have hq2:(16:Int)≠0∧ya (((64:Nat):Int).tdiv 16):=⟨by decide,by unfold ya;decide⟩
     have hd8:((64:Nat):Int).tdiv 8=8:=rfl
     have hd16:((64:Nat):Int).tdiv 16=4:=rfl
     have hmd:(2*((64:Nat):Int)-1-((64:Nat):Int).tdiv 8-(r:Int)).tmod ((64:Nat):Int)=(((119-r)%64:Nat):Int):=by rw [hd8,Int.tmod_eq_emod_of_nonneg (by omega)];omega
     have hft:ya (1+(2*((64:Nat):Int)-1-((64:Nat):Int).tdiv 8-(r:Int)).tmod ((64:Nat):Int)):=by rw [hmd];unfold ya;omega
     have hPl:1+(2*((64:Nat):Int)-1-((64:Nat):Int).tdiv 8-(r:Int)).tmod ((64:Nat):Int)+((64:Nat):Int).tdiv 8=((zbz m r:Nat):Int):=by rw [hmd,hd8];unfold zbz;rw [hb];omega
     have hPb:8+1≤zbz m r∧zbz m r≤200:=by unfold zbz;rw [hb];omega
     obtain ⟨Q,hQ⟩: ∃Q,Q=zbz m r:=⟨_,rfl⟩
     rw [←hQ] at hPl hPb
     have hft2:ya (1+(2*((64:Nat):Int)-1-((64:Nat):Int).tdiv 8-(r:Int)).tmod ((64:Nat):Int)+((64:Nat):Int).tdiv 8):=by rw [hPl];unfold ya;omega
     refine za ?_
     rw [hPl]
     refine za ?_
     have hPp:zi6 m r all=zcs Q all 8:=by unfold zi6;rw [←hQ]
     have hNone:=zhq (n:=m) (R:=(l.take r)) (by rw [show (l.take r).length=r by rw [List.length_take];omega,hb];omega) all
     rw [show (l.take r).length=r by rw [List.length_take];omega,hPp] at hNone
     refine zt (Ix (8)) (fun q=>⟨[(0,.ptr 0 0 0 []),(3,.ptr 2 0 0 []),(4,.int 64),(5,.sl 4 0 0 [] Q Q),(39,.int q.i)],[.mk 248 [.int m,.arr64 8 H,.arr64 80 k,.sl 1 0 0 [] r c,.u64 all],.mk t [.arr8 L l],.mk 248 [.int m,.arr64 8 H,.arr64 80 k,.sl 3 0 0 [] r (r+tl.length),.u64 all],.mk 5 [.arr8 (r+tl.length) (l.take r++tl)],.mk 5 [.arr8 Q (zcs Q all q.i)]]⟩) (fun q=>(8)-q.i) ⟨0,Nat.zero_le _⟩ [0,1,2,3,4] ?_ ?_
     ·exact zn
     ·intro q
      have hi:=q.hi
      have hpl:=zea Q all q.i
      have hof:off (yb [] ((Q:Int)-1-(q.i:Int)).toNat ty5.sz)=Q-1-q.i:=by rw [zy];show 0+((Q:Int)-1-(q.i:Int)).toNat*1=_;omega
      have hk8:(8*(q.i:Int)).toNat=8*q.i:=by omega
      by_cases h4:q.i<8
      ·refine za ?_
       refine ⟨⟨q.i+1,h4⟩,[0,1,2,3,4],by show (8)-(q.i+1)<(8)-q.i;omega,?_⟩
       repeat ((conv=>whnf);refine zb ?_)
       conv=>whnf
       exact zo (congrArg (fun x=>SV.agg [SV.arr8 Q x]) (show _=zcs Q all (q.i+1) by simp only [zcs];rw [hof,hk8];rfl))
      ·have e4:q.i=8:=by omega
       rw [e4] at hpl
       rw [e4]
       clear hi hof hk8 h4 e4 q
       obtain ⟨P,hP⟩: ∃P,P=zcs Q all 8:=⟨_,rfl⟩
       rw [←hP] at hpl hNone hPp
       rw [←hP]
       have hPt:List.take Q (List.drop (off []) P)=P:=List.take_of_length_le (Nat.le_of_eq hpl)
       have hpo:off []+Q≤P.length:=by rw [hpl];show 0+Q≤Q;omega
       have hll:(List.take r l++tl).length=r+tl.length:=by rw [List.length_append,List.length_take];omega
       have htt:List.take r (List.take r l++tl)=List.take r l:=List.take_left' (by rw [List.length_take];omega)
       rw [←htt] at hNone
       have hpw:H.length=8∧k.length=80∧P.length≤140737488351232∧0<r∧r≤r+tl.length∧r≤128∧r+tl.length=(List.take r l++tl).length∧r+tl.length=r+tl.length:=⟨hH,hk,by omega,hr0,by omega,by omega,hll.symm,rfl⟩
       refine za ?_
       rw [hPt]
       repeat ((conv=>whnf);first|refine zu ?_|refine zg ?_|refine zh ?_|refine zb ?_|refine zr (by first|exact decide_eq_true hNone) ?_|refine zj (by first|exact decide_eq_true hNone) ?_|refine zk (by first|exact decide_eq_true hNone) ?_)
       conv=>whnf
       have hWl:=zbr (n:=m) (k:=k) hH (List.take r (List.take r l++tl)) P
       generalize hWd:wrH m k H (List.take r (List.take r l++tl)) P=W at*
       refine zt (Option (Ow 4)) (fun q=>match q with
         |none=>⟨[(0,.ptr 0 0 0 []),(3,.ptr 2 0 0 []),(7,.nilsl),(8,.int 4),(68,.arr64 8 W),(69,.int 0)],[.mk 248 [.int m,.arr64 8 H,.arr64 80 k,.sl 1 0 0 [] r c,.u64 all],.mk t [.arr8 L l],.mk 248 [.int m,.arr64 8 W,.arr64 80 k,.nilsl,.u64 (all+UInt64.ofNat P.length)]]⟩
         |some s=>⟨[(0,.ptr 0 0 0 []),(3,.ptr 2 0 0 []),(7,.sl 3 0 0 [] (4*s.a) (4*s.a+s.tl.length)),(8,.int 4),(68,.arr64 8 W),(69,.int s.a)],[.mk 248 [.int m,.arr64 8 H,.arr64 80 k,.sl 1 0 0 [] r c,.u64 all],.mk t [.arr8 L l],.mk 248 [.int m,.arr64 8 W,.arr64 80 k,.nilsl,.u64 (all+UInt64.ofNat P.length)],.mk 5 [.arr8 (4*s.a+s.tl.length) ((List.range (4*s.a)).map (outG W 4)++s.tl)]]⟩)
         (fun q=>match q with|none=>9|some s=>8-s.a) none [0,1,2] ?_ ?_
       ·exact zn
       ·intro q
        cases q with
        |none=>
         refine za ?_
         refine zt (Option (Iw 4)) (fun v=>match v with
           |none=>⟨[(0,.ptr 0 0 0 []),(3,.ptr 2 0 0 []),(7,.nilsl),(8,.int 4),(10,.u64 (W.getD (off [(Int.toNat 0,xj.sz)]) 0)),(11,.int (4-1)),(68,.arr64 8 W),(69,.int 0)],[.mk 248 [.int m,.arr64 8 H,.arr64 80 k,.sl 1 0 0 [] r c,.u64 all],.mk t [.arr8 L l],.mk 248 [.int m,.arr64 8 W,.arr64 80 k,.nilsl,.u64 (all+UInt64.ofNat P.length)]]⟩
           |some v=>⟨[(0,.ptr 0 0 0 []),(3,.ptr 2 0 0 []),(7,.sl 3 0 0 [] v.j (v.j+v.tl.length)),(8,.int 4),(10,.u64 (W.getD (off [(Int.toNat 0,xj.sz)]) 0)),(11,.int ((4:Int)-1-v.j)),(68,.arr64 8 W),(69,.int 0)],[.mk 248 [.int m,.arr64 8 H,.arr64 80 k,.sl 1 0 0 [] r c,.u64 all],.mk t [.arr8 L l],.mk 248 [.int m,.arr64 8 W,.arr64 80 k,.nilsl,.u64 (all+UInt64.ofNat P.length)],.mk 5 [.arr8 (v.j+v.tl.length) ((List.range v.j).map (outG W 4)++v.tl)]]⟩)
           (fun v=>match v with|none=>4+1|some v=>4-v.j) none [0,1,2] ?_ ?_
         ·exact zn
         ·intro v
          cases v with
          |none=>
           refine za ?_
           refine yi fun t1=>?_
           refine za ?_
           rw [zgb]
           refine ⟨some ⟨1,t1,by omega⟩,[0,1,2,4],by show 4-1<4+1;omega,?_⟩
           exact zn
          |some v=>
           have hj':=v.hj
           by_cases hj:v.j<4
           ·refine za ?_
            rw [zgb]
            refine zr ⟨by omega,by rw [List.length_append,zz],by show _+1≤_;omega⟩ ?_
            refine za ?_
            refine yi fun t2=>?_
            refine za ?_
            refine ⟨some ⟨v.j+1,t2,by omega⟩,[0,1,2,5],by show 4-(v.j+1)<4-v.j;omega,?_⟩
            repeat ((conv=>whnf);refine zb ?_)
            conv=>whnf
            refine zv (congrArg (fun x=>SV.agg [SV.arr8 ((v.j+1)+t2.length) x]) (zda (g:=outG W 4) (n:=v.j) (by have:=zde W 4 0 v.j hj (k:=Int.toNat 0) rfl (I:=4-1-(v.j:Int)) rfl;rwa [Nat.mul_zero,Nat.zero_add] at this) _ _)) ?_
            repeat ((conv=>whnf);refine zb ?_)
            conv=>whnf
            exact zo (congrArg SV.int (show (4:Int)-1-(v.j:Int)-1=4-1-((v.j+1:Nat):Int) by omega))
           ·have ej:v.j=4:=by omega
            refine za ?_
            refine ⟨some ⟨0+1,v.tl,by omega⟩,[0,1,2,3],by show 8-(0+1)<9;omega,?_⟩
            rw [ej]
            exact zn
        |some s=>
         have ha:=s.ha
         by_cases h8:s.a<8
         ·refine za ?_
          refine zt (Iw 4) (fun v=>⟨[(0,.ptr 0 0 0 []),(3,.ptr 2 0 0 []),(7,.sl 3 0 0 [] (4*s.a+v.j) ((4*s.a+v.j)+v.tl.length)),(8,.int 4),(10,.u64 (W.getD (off [((s.a:Int).toNat,xj.sz)]) 0)),(11,.int ((4:Int)-1-v.j)),(68,.arr64 8 W),(69,.int (s.a:Int))],[.mk 248 [.int m,.arr64 8 H,.arr64 80 k,.sl 1 0 0 [] r c,.u64 all],.mk t [.arr8 L l],.mk 248 [.int m,.arr64 8 W,.arr64 80 k,.nilsl,.u64 (all+UInt64.ofNat P.length)],.mk 5 [.arr8 ((4*s.a+v.j)+v.tl.length) ((List.range (4*s.a+v.j)).map (outG W 4)++v.tl)]]⟩) (fun v=>4-v.j) ⟨0,s.tl,Nat.zero_le _⟩ [0,1,2,3] ?_ ?_
          ·exact zn
          ·intro v
           have hj':=v.hj
           by_cases hj:v.j<4
           ·refine za ?_
            rw [zgb]
            refine zr ⟨by omega,by rw [List.length_append,zz],by show _+1≤_;omega⟩ ?_
            refine za ?_
            refine yi fun t2=>?_
            refine za ?_
            refine ⟨⟨v.j+1,t2,by omega⟩,[0,1,2,5],by show 4-(v.j+1)<4-v.j;omega,?_⟩
            repeat ((conv=>whnf);refine zb ?_)
            conv=>whnf
            refine zv (congrArg (fun x=>SV.agg [SV.arr8 ((4*s.a+(v.j+1))+t2.length) x]) (zda (g:=outG W 4) (n:=(4*s.a+v.j)) (zde W 4 s.a v.j hj (Int.toNat_natCast _) rfl) _ _)) ?_
            repeat ((conv=>whnf);refine zb ?_)
            conv=>whnf
            exact zo (congrArg SV.int (show (4:Int)-1-(v.j:Int)-1=4-1-((v.j+1:Nat):Int) by omega))
           ·have ej:v.j=4:=by omega
            refine za ?_
            refine ⟨some ⟨s.a+1,v.tl,by omega⟩,[0,1,2,3],by show 8-(s.a+1)<8-s.a;omega,?_⟩
            rw [ej]
            exact zn
         ·have e8:s.a=8:=by omega
          have h8m:(8:Int)≠0∧ya (m.tdiv 8):=by rw [hm];exact ⟨by decide,by unfold ya;decide⟩
          have hd8m:m.tdiv 8=32:=by rw [hm];rfl
          refine za ?_
          rw [e8,hd8m]
          have hOl:=zhf W 4
          have hO:(List.range (4*8)).map (outG W 4)=zgw W 4:=by unfold zgw;rfl
          have hpo:off []+Int.toNat 32≤((List.range (4*8)).map (outG W 4)++s.tl).length:=by rw [List.length_append,zz];show 0+32≤_;omega
          have hsm:zet m k H (l.take r) all=List.take (Int.toNat 32) (List.drop (off []) ((List.range (4*8)).map (outG W 4)++s.tl)):=by
            unfold zet
            rw [show (l.take r).length=r by rw [List.length_take];omega,hPp,←htt,hWd,hb,hO,show (m/ 8).toNat=32 by rw [hm];rfl]
            show _=List.take 32 (zgw W 4++s.tl)
            rw [List.take_append_of_le_length (by rw [hOl];decide)]
          rw [hsm] at h
          refine za ?_
          exact zf [0,1] h
    ·have hb:bk m=128:=by unfold bk;rw [if_neg (by omega)]
     refine za ?_
     refine yi fun tl=>?_
     refine za ?_
     rw [hb]
     have hq1:(8:Int)≠0∧ya (((128:Nat):Int).tdiv 8):=⟨by decide,by unfold ya;decide⟩
     have hq2:(16:Int)≠0∧ya (((128:Nat):Int).tdiv 16):=⟨by decide,by unfold ya;decide⟩
     have hd8:((128:Nat):Int).tdiv 8=16:=rfl
     have hd16:((128:Nat):Int).tdiv 16=8:=rfl
     have hmd:(2*((128:Nat):Int)-1-((128:Nat):Int).tdiv 8-(r:Int)).tmod ((128:Nat):Int)=(((239-r)%128:Nat):Int):=by rw [hd8,Int.tmod_eq_emod_of_nonneg (by omega)];omega
     have hft:ya (1+(2*((128:Nat):Int)-1-((128:Nat):Int).tdiv 8-(r:Int)).tmod ((128:Nat):Int)):=by rw [hmd];unfold ya;omega
     have hPl:1+(2*((128:Nat):Int)-1-((128:Nat):Int).tdiv 8-(r:Int)).tmod ((128:Nat):Int)+((128:Nat):Int).tdiv 8=((zbz m r:Nat):Int):=by rw [hmd,hd8];unfold zbz;rw [hb];omega
     have hPb:16+1≤zbz m r∧zbz m r≤200:=by unfold zbz;rw [hb];omega
     obtain ⟨Q,hQ⟩: ∃Q,Q=zbz m r:=⟨_,rfl⟩
     rw [←hQ] at hPl hPb
     have hft2:ya (1+(2*((128:Nat):Int)-1-((128:Nat):Int).tdiv 8-(r:Int)).tmod ((128:Nat):Int)+((128:Nat):Int).tdiv 8):=by rw [hPl];unfold ya;omega
     refine za ?_
     rw [hPl]
     refine za ?_
     have hPp:zi6 m r all=zcs Q all 8:=by unfold zi6;rw [←hQ]
     have hNone:=zhq (n:=m) (R:=(l.take r)) (by rw [show (l.take r).length=r by rw [List.length_take];omega,hb];omega) all
     rw [show (l.take r).length=r by rw [List.length_take];omega,hPp] at hNone
     refine zt (Ix (8)) (fun q=>⟨[(0,.ptr 0 0 0 []),(3,.ptr 2 0 0 []),(4,.int 128),(5,.sl 4 0 0 [] Q Q),(39,.int q.i)],[.mk 248 [.int m,.arr64 8 H,.arr64 80 k,.sl 1 0 0 [] r c,.u64 all],.mk t [.arr8 L l],.mk 248 [.int m,.arr64 8 H,.arr64 80 k,.sl 3 0 0 [] r (r+tl.length),.u64 all],.mk 5 [.arr8 (r+tl.length) (l.take r++tl)],.mk 5 [.arr8 Q (zcs Q all q.i)]]⟩) (fun q=>(8)-q.i) ⟨0,Nat.zero_le _⟩ [0,1,2,3,4] ?_ ?_
     ·exact zn
     ·intro q
      have hi:=q.hi
      have hpl:=zea Q all q.i
      have hof:off (yb [] ((Q:Int)-1-(q.i:Int)).toNat ty5.sz)=Q-1-q.i:=by rw [zy];show 0+((Q:Int)-1-(q.i:Int)).toNat*1=_;omega
      have hk8:(8*(q.i:Int)).toNat=8*q.i:=by omega
      by_cases h4:q.i<8
      ·refine za ?_
       refine ⟨⟨q.i+1,h4⟩,[0,1,2,3,4],by show (8)-(q.i+1)<(8)-q.i;omega,?_⟩
       repeat ((conv=>whnf);refine zb ?_)
       conv=>whnf
       exact zo (congrArg (fun x=>SV.agg [SV.arr8 Q x]) (show _=zcs Q all (q.i+1) by simp only [zcs];rw [hof,hk8];rfl))
      ·have e4:q.i=8:=by omega
       rw [e4] at hpl
       rw [e4]
       clear hi hof hk8 h4 e4 q
       obtain ⟨P,hP⟩: ∃P,P=zcs Q all 8:=⟨_,rfl⟩
       rw [←hP] at hpl hNone hPp
       rw [←hP]
       have hPt:List.take Q (List.drop (off []) P)=P:=List.take_of_length_le (Nat.le_of_eq hpl)
       have hpo:off []+Q≤P.length:=by rw [hpl];show 0+Q≤Q;omega
       have hll:(List.take r l++tl).length=r+tl.length:=by rw [List.length_append,List.length_take];omega
       have htt:List.take r (List.take r l++tl)=List.take r l:=List.take_left' (by rw [List.length_take];omega)
       rw [←htt] at hNone
       have hpw:H.length=8∧k.length=80∧P.length≤140737488351232∧0<r∧r≤r+tl.length∧r≤128∧r+tl.length=(List.take r l++tl).length∧r+tl.length=r+tl.length:=⟨hH,hk,by omega,hr0,by omega,by omega,hll.symm,rfl⟩
       refine za ?_
       rw [hPt]
       repeat ((conv=>whnf);first|refine zu ?_|refine zg ?_|refine zh ?_|refine zb ?_|refine zr (by first|exact decide_eq_true hNone) ?_|refine zj (by first|exact decide_eq_true hNone) ?_|refine zk (by first|exact decide_eq_true hNone) ?_)
       conv=>whnf
       have hWl:=zbr (n:=m) (k:=k) hH (List.take r (List.take r l++tl)) P
       generalize hWd:wrH m k H (List.take r (List.take r l++tl)) P=W at*
       refine zt (Option (Ow 8)) (fun q=>match q with
         |none=>⟨[(0,.ptr 0 0 0 []),(3,.ptr 2 0 0 []),(7,.nilsl),(8,.int 8),(68,.arr64 8 W),(69,.int 0)],[.mk 248 [.int m,.arr64 8 H,.arr64 80 k,.sl 1 0 0 [] r c,.u64 all],.mk t [.arr8 L l],.mk 248 [.int m,.arr64 8 W,.arr64 80 k,.nilsl,.u64 (all+UInt64.ofNat P.length)]]⟩
         |some s=>⟨[(0,.ptr 0 0 0 []),(3,.ptr 2 0 0 []),(7,.sl 3 0 0 [] (8*s.a) (8*s.a+s.tl.length)),(8,.int 8),(68,.arr64 8 W),(69,.int s.a)],[.mk 248 [.int m,.arr64 8 H,.arr64 80 k,.sl 1 0 0 [] r c,.u64 all],.mk t [.arr8 L l],.mk 248 [.int m,.arr64 8 W,.arr64 80 k,.nilsl,.u64 (all+UInt64.ofNat P.length)],.mk 5 [.arr8 (8*s.a+s.tl.length) ((List.range (8*s.a)).map (outG W 8)++s.tl)]]⟩)
         (fun q=>match q with|none=>9|some s=>8-s.a) none [0,1,2] ?_ ?_
       ·exact zn
       ·intro q
        cases q with
        |none=>
         refine za ?_
         refine zt (Option (Iw 8)) (fun v=>match v with
           |none=>⟨[(0,.ptr 0 0 0 []),(3,.ptr 2 0 0 []),(7,.nilsl),(8,.int 8),(10,.u64 (W.getD (off [(Int.toNat 0,xj.sz)]) 0)),(11,.int (8-1)),(68,.arr64 8 W),(69,.int 0)],[.mk 248 [.int m,.arr64 8 H,.arr64 80 k,.sl 1 0 0 [] r c,.u64 all],.mk t [.arr8 L l],.mk 248 [.int m,.arr64 8 W,.arr64 80 k,.nilsl,.u64 (all+UInt64.ofNat P.length)]]⟩
           |some v=>⟨[(0,.ptr 0 0 0 []),(3,.ptr 2 0 0 []),(7,.sl 3 0 0 [] v.j (v.j+v.tl.length)),(8,.int 8),(10,.u64 (W.getD (off [(Int.toNat 0,xj.sz)]) 0)),(11,.int ((8:Int)-1-v.j)),(68,.arr64 8 W),(69,.int 0)],[.mk 248 [.int m,.arr64 8 H,.arr64 80 k,.sl 1 0 0 [] r c,.u64 all],.mk t [.arr8 L l],.mk 248 [.int m,.arr64 8 W,.arr64 80 k,.nilsl,.u64 (all+UInt64.ofNat P.length)],.mk 5 [.arr8 (v.j+v.tl.length) ((List.range v.j).map (outG W 8)++v.tl)]]⟩)
           (fun v=>match v with|none=>8+1|some v=>8-v.j) none [0,1,2] ?_ ?_
         ·exact zn
         ·intro v
          cases v with
          |none=>
           refine za ?_
           refine yi fun t1=>?_
           refine za ?_
           rw [zgb]
           refine ⟨some ⟨1,t1,by omega⟩,[0,1,2,4],by show 8-1<8+1;omega,?_⟩
           exact zn
          |some v=>
           have hj':=v.hj
           by_cases hj:v.j<8
           ·refine za ?_
            rw [zgb]
            refine zr ⟨by omega,by rw [List.length_append,zz],by show _+1≤_;omega⟩ ?_
            refine za ?_
            refine yi fun t2=>?_
            refine za ?_
            refine ⟨some ⟨v.j+1,t2,by omega⟩,[0,1,2,5],by show 8-(v.j+1)<8-v.j;omega,?_⟩
            repeat ((conv=>whnf);refine zb ?_)
            conv=>whnf
            refine zv (congrArg (fun x=>SV.agg [SV.arr8 ((v.j+1)+t2.length) x]) (zda (g:=outG W 8) (n:=v.j) (by have:=zde W 8 0 v.j hj (k:=Int.toNat 0) rfl (I:=8-1-(v.j:Int)) rfl;rwa [Nat.mul_zero,Nat.zero_add] at this) _ _)) ?_
            repeat ((conv=>whnf);refine zb ?_)
            conv=>whnf
            exact zo (congrArg SV.int (show (8:Int)-1-(v.j:Int)-1=8-1-((v.j+1:Nat):Int) by omega))
           ·have ej:v.j=8:=by omega
            refine za ?_
            refine ⟨some ⟨0+1,v.tl,by omega⟩,[0,1,2,3],by show 8-(0+1)<9;omega,?_⟩
            rw [ej]
            exact zn
        |some s=>
         have ha:=s.ha
         by_cases h8:s.a<8
         ·refine za ?_
          refine zt (Iw 8) (fun v=>⟨[(0,.ptr 0 0 0 []),(3,.ptr 2 0 0 []),(7,.sl 3 0 0 [] (8*s.a+v.j) ((8*s.a+v.j)+v.tl.length)),(8,.int 8),(10,.u64 (W.getD (off [((s.a:Int).toNat,xj.sz)]) 0)),(11,.int ((8:Int)-1-v.j)),(68,.arr64 8 W),(69,.int (s.a:Int))],[.mk 248 [.int m,.arr64 8 H,.arr64 80 k,.sl 1 0 0 [] r c,.u64 all],.mk t [.arr8 L l],.mk 248 [.int m,.arr64 8 W,.arr64 80 k,.nilsl,.u64 (all+UInt64.ofNat P.length)],.mk 5 [.arr8 ((8*s.a+v.j)+v.tl.length) ((List.range (8*s.a+v.j)).map (outG W 8)++v.tl)]]⟩) (fun v=>8-v.j) ⟨0,s.tl,Nat.zero_le _⟩ [0,1,2,3] ?_ ?_
          ·exact zn
          ·intro v
           have hj':=v.hj
           by_cases hj:v.j<8
           ·refine za ?_
            rw [zgb]
            refine zr ⟨by omega,by rw [List.length_append,zz],by show _+1≤_;omega⟩ ?_
            refine za ?_
            refine yi fun t2=>?_
            refine za ?_
            refine ⟨⟨v.j+1,t2,by omega⟩,[0,1,2,5],by show 8-(v.j+1)<8-v.j;omega,?_⟩
            repeat ((conv=>whnf);refine zb ?_)
            conv=>whnf
            refine zv (congrArg (fun x=>SV.agg [SV.arr8 ((8*s.a+(v.j+1))+t2.length) x]) (zda (g:=outG W 8) (n:=(8*s.a+v.j)) (zde W 8 s.a v.j hj (Int.toNat_natCast _) rfl) _ _)) ?_
            repeat ((conv=>whnf);refine zb ?_)
            conv=>whnf
            exact zo (congrArg SV.int (show (8:Int)-1-(v.j:Int)-1=8-1-((v.j+1:Nat):Int) by omega))
           ·have ej:v.j=8:=by omega
            refine za ?_
            refine ⟨some ⟨s.a+1,v.tl,by omega⟩,[0,1,2,3],by show 8-(s.a+1)<8-s.a;omega,?_⟩
            rw [ej]
            exact zn
         ·have e8:s.a=8:=by omega
          have h8m:(8:Int)≠0∧ya (m.tdiv 8):=by rw [hm];exact ⟨by decide,by unfold ya;decide⟩
          have hd8m:m.tdiv 8=48:=by rw [hm];rfl
          refine za ?_
          rw [e8,hd8m]
          have hOl:=zhf W 8
          have hO:(List.range (8*8)).map (outG W 8)=zgw W 8:=by unfold zgw;rfl
          have hpo:off []+Int.toNat 48≤((List.range (8*8)).map (outG W 8)++s.tl).length:=by rw [List.length_append,zz];show 0+48≤_;omega
          have hsm:zet m k H (l.take r) all=List.take (Int.toNat 48) (List.drop (off []) ((List.range (8*8)).map (outG W 8)++s.tl)):=by
            unfold zet
            rw [show (l.take r).length=r by rw [List.length_take];omega,hPp,←htt,hWd,hb,hO,show (m/ 8).toNat=48 by rw [hm];rfl]
            show _=List.take 48 (zgw W 8++s.tl)
            rw [List.take_append_of_le_length (by rw [hOl];decide)]
          rw [hsm] at h
          refine za ?_
          exact zf [0,1] h
   ·exact h.elim
def zug:Spec:=fun args hp K=>match args,hp with
  | [.int n,.str s],[]=>Pre ((n=256∨n=384)∧s.length≤140737488351232) (K (.tup [.str (x9 n s),.int 0]) [])
  |_,_=>False
theorem z56:zp prog 184 zug:=by
  refine zm zaw (zd z5v (zd zkl (zd z1o zi))) rfl func184 rfl call184 (D:=yhe) ?_ ?_
  ·intro args hp K h
   unfold zug at h
   split at h
   ·exact Nat.le_of_ble_eq_true rfl
   ·exact h.elim
  ·intro args hp K h
   unfold zug at h
   split at h
   ·rename_i n s
    obtain ⟨⟨hn,hs⟩,h⟩:=zq h
    have hd:=decide_eq_true hn
    have hk:=zog
    have hl:=zn2 n
    have hwl:=zbr (n:=n) (k:=KC) hl [] s
    have hall:(0:UInt64)+UInt64.ofNat s.length=UInt64.ofNat s.length:=UInt64.zero_add _
    have hF:x9 n s=zet n KC (wrH n KC (HB n) [] s) (wrR n [] s) (0+UInt64.ofNat s.length):=by unfold x9;rw [hall]
    rw [hF] at h
    by_cases hz:(wrR n [] s).length=0
    ·have hz0:wrR n [] s= []:=List.length_eq_zero_iff.1 hz
     rw [hz0] at h
     have hps:(wrH n KC (HB n) [] s).length=8∧KC.length=80∧248=248∧(n=256∨n=384):=⟨hwl,hk,rfl,hn⟩
     repeat ((conv=>whnf);first|refine zu ?_|refine zg ?_|refine zh ?_|refine zb ?_|refine zr (by first|exact hd) ?_|refine zj (by first|exact hd) ?_|refine zk (by first|exact hd) ?_)
     conv=>whnf
     conv=>whnf
     exact zf [] h
    ·have hrl:=ztc n [] s
     repeat ((conv=>whnf);first|refine zu ?_|refine zg ?_|refine zh ?_|refine zb ?_|refine zr (by first|exact hd) ?_|refine zj (by first|exact hd) ?_|refine zk (by first|exact hd) ?_)
     conv=>whnf
     refine yi fun tl=>?_
     have htk:List.take (wrR n [] s).length (wrR n [] s++tl)=wrR n [] s:=List.take_left' rfl
     have hps:(wrH n KC (HB n) [] s).length=8∧KC.length=80∧248=248∧(n=256∨n=384)∧0<(wrR n [] s).length∧(wrR n [] s).length<bk n∧(wrR n [] s).length≤(wrR n [] s).length+tl.length∧(wrR n [] s).length≤(wrR n [] s++tl).length:=⟨hwl,hk,rfl,hn,by omega,hrl,by omega,by rw [List.length_append];omega⟩
     refine za ?_
     rw [htk]
     conv=>whnf
     exact zf [] h
   ·exact h.elim
end Go.Sym.Z

namespace Go.Sym.Z
open Go Go.Proofs.Tryz Go.Sym.Lp Go.Sym.Cha Go.Sym.Sha Go.Sym.Hk
set_option maxRecDepth 100000
attribute [local irreducible] xb KC HB za1 wrH wrR x9 zet bk
def yhz:List (Nat×List PStep):= [(6,[⟨0,[]⟩,⟨1,[]⟩,⟨2,[0,1]⟩,⟨3,[0,1]⟩,⟨4,[2,3]⟩,⟨5,[]⟩]),(15,[⟨0,[]⟩,⟨1,[]⟩,⟨2,[0,1]⟩,⟨3,[0,1]⟩,⟨4,[2,3]⟩,⟨5,[]⟩])]
def ymd:List (Nat×TyI):= [(3,ty3),(4,ty4),(5,ty5),(9,ty9),(48,zd6),(51,zeb),(113,xw),(99,xj),(248,zl4),(207,zl7),(209,zpx)]
theorem zdt: ∀t i,y8 ymd t=some i→yt prog t i:=(zc zbg (zc zbj (zc zbc (zc zbf (zc zaq (zc zap (zc zai (zc za6 (zc zu8 (zc zu1 (zc z8j x1)))))))))))
theorem zj4 (key:List UInt8) (N i:Nat):(key++List.replicate (N-key.length) 0).getD i 0=key.getD i 0:=by
  rw [List.getD_eq_getElem?_getD,List.getD_eq_getElem?_getD]
  by_cases h:i<key.length
  ·rw [List.getElem?_append_left h]
  ·rw [List.getElem?_append_right (by omega),List.getElem?_eq_none (show key.length≤i by omega),List.getElem?_replicate]
   split<;>rfl
theorem zf6 {key:List UInt8} {N:Nat} (h:key.length≤N):zx (List.replicate N 0) (off []) (List.take (min key.length N) key)=key++List.replicate (N-key.length) 0:=by
  rw [List.take_of_length_le (show key.length≤min key.length N by omega)]
  unfold zx
  show List.take 0 _++key++List.drop (0+key.length) _=_
  rw [List.take_zero,List.nil_append,List.drop_replicate,Nat.zero_add]
def z6x:Spec:=fun args hp K=>match args,hp with
  | [.int n,.str key],[]=>Pre ((n=256∨n=384)∧key.length≤140737488351232) (K (.tup [.str (pdX (bk n) (kN n key) 54),.str (pdX (bk n) (kN n key) 92)]) [])
  |_,_=>False
set_option maxHeartbeats 4000000 in
theorem yeu:zp prog 171 z6x:=by
  refine zm zdt (zd z56 zi) rfl func171 rfl call171 (D:=yhz) ?_ ?_
  ·intro args hp K h
   unfold z6x at h
   split at h
   ·exact Nat.le_of_ble_eq_true rfl
   ·exact h.elim
  ·intro args hp K h
   unfold z6x at h
   split at h
   ·rename_i n key
    obtain ⟨⟨hn,hk⟩,h⟩:=zq h
    have hn2:=hn
    rcases hn with hn|hn
    ·have hb:bk n=64:=by unfold bk;rw [if_pos hn]
     have hp4:(4:Int)≠0∧ya (n.tdiv 4):=by rw [hn];exact ⟨by decide,by unfold ya;decide⟩
     have hd4:n.tdiv 4=64:=by rw [hn];rfl
     have hps:(n=256∨n=384)∧key.length≤140737488351232:=⟨hn2,hk⟩
     by_cases hl:64<key.length
     ·have hX:kN n key=(x9 n key):=by unfold kN;rw [hb];exact if_pos hl
      rw [hX] at h
      have hXl:(x9 n key).length≤64:=by rw [zn8 hn2];unfold dl;split<;>omega
      obtain ⟨Y,hY⟩: ∃Y,Y=(x9 n key):=⟨_,rfl⟩
      rw [←hY] at h hXl
      obtain ⟨KP,hKP⟩: ∃KP,KP=Y++List.replicate (64-Y.length) 0:=⟨_,rfl⟩
      have hKl:KP.length=64:=by rw [hKP,List.length_append,List.length_replicate];omega
      have hKg: ∀i,KP.getD i 0=Y.getD i 0:=fun i=>by rw [hKP];exact zj4 Y 64 i
      have hsp:=zf6 hXl
      rw [←hKP] at hsp
      refine za ?_
      rw [hd4]
      rw [←hY]
      rw [show zx (List.replicate (Int.toNat 64) 0) (off []) (List.take (min Y.length (Int.toNat 64)) Y)=KP from hsp]
      refine zt (Ix (64)) (fun q=>⟨[(7,.sl 0 0 0 [] 64 64),(8,.sl 1 0 0 [] 64 64),(34,.int 64),(35,.int q.i)],[.mk 5 [.arr8 64 (ovr KP 0 (fun i=>KP.getD i 0^^^54) q.i)],.mk 5 [.arr8 64 (ovr KP 0 (fun i=>KP.getD i 0^^^92) q.i)]]⟩) (fun q=>(64)-q.i) ⟨0,Nat.zero_le _⟩ [0,1] ?_ ?_
      ·exact zn
      ·intro q
       have hi:=q.hi
       have h1:=yg (l:=KP) (a:=0) (i:=q.i) (by omega) (fun i=>KP.getD i 0^^^54)
       have h2:=yg (l:=KP) (a:=0) (i:=q.i) (by omega) (fun i=>KP.getD i 0^^^92)
       have hI:((q.i:Int)).toNat=q.i:=Int.toNat_natCast _
       by_cases h4:q.i<64
       ·refine za ?_
        refine ⟨⟨q.i+1,h4⟩,[0,1],by show (64)-(q.i+1)<(64)-q.i;omega,?_⟩
        repeat ((conv=>whnf);refine zb ?_)
        conv=>whnf
        refine zv (congrArg (fun x=>SV.agg [SV.arr8 64 x]) (z9 (by omega) ?hv ?hkk)) ?_
        case hkk=>show ((q.i:Int)).toNat=0+q.i;omega
        case hv=>show (ovr KP 0 _ q.i).getD ((q.i:Int)).toNat 0^^^UInt8.ofNat 54=_;rw [hI,yw (by omega) _ (by omega)];rfl
        repeat ((conv=>whnf);refine zb ?_)
        conv=>whnf
        refine zv (congrArg (fun x=>SV.agg [SV.arr8 64 x]) (z9 (by omega) ?hv ?hkk)) ?_
        case hkk=>show ((q.i:Int)).toNat=0+q.i;omega
        case hv=>show (ovr KP 0 _ q.i).getD ((q.i:Int)).toNat 0^^^UInt8.ofNat 92=_;rw [hI,yw (by omega) _ (by omega)];rfl
        exact zn
       ·have e4:q.i=64:=by omega
        have hp: ∀b,ovr KP 0 (fun i=>KP.getD i 0^^^b) 64=pdX (bk n) Y b:=fun b=>by
          rw [y4 hKl,hb];unfold pdX
          exact yo fun i _=>by rw [hKg]
        have hq: ∀b,List.take 64 (List.drop (off []) (pdX (bk n) Y b))=pdX (bk n) Y b:=fun b=>List.take_of_length_le (by show (pdX (bk n) Y b).length≤_;rw [za4,hb];exact Nat.le_refl _)
        have hl3: ∀b,off []+64≤(pdX (bk n) Y b).length:=fun b=>by rw [za4,hb];show 0+64≤64;exact Nat.le_of_eq (Nat.zero_add _)
        have hl54:=hl3 54
        have hl92:=hl3 92
        rw [e4,hp 54,hp 92]
        refine za ?_
        rw [hq 54,hq 92]
        conv=>whnf
        exact zf [] h
     ·have hX:kN n key=key:=by unfold kN;rw [hb];exact if_neg hl
      rw [hX] at h
      have hXl:key.length≤64:=by omega
      obtain ⟨Y,hY⟩: ∃Y,Y=key:=⟨_,rfl⟩
      rw [←hY] at h hXl
      obtain ⟨KP,hKP⟩: ∃KP,KP=Y++List.replicate (64-Y.length) 0:=⟨_,rfl⟩
      have hKl:KP.length=64:=by rw [hKP,List.length_append,List.length_replicate];omega
      have hKg: ∀i,KP.getD i 0=Y.getD i 0:=fun i=>by rw [hKP];exact zj4 Y 64 i
      have hsp:=zf6 hXl
      rw [←hKP] at hsp
      refine za ?_
      rw [hd4]
      rw [←hY]
      rw [show zx (List.replicate (Int.toNat 64) 0) (off []) (List.take (min Y.length (Int.toNat 64)) Y)=KP from hsp]
      refine zt (Ix (64)) (fun q=>⟨[(7,.sl 0 0 0 [] 64 64),(8,.sl 1 0 0 [] 64 64),(34,.int 64),(35,.int q.i)],[.mk 5 [.arr8 64 (ovr KP 0 (fun i=>KP.getD i 0^^^54) q.i)],.mk 5 [.arr8 64 (ovr KP 0 (fun i=>KP.getD i 0^^^92) q.i)]]⟩) (fun q=>(64)-q.i) ⟨0,Nat.zero_le _⟩ [0,1] ?_ ?_
      ·exact zn
      ·intro q
       have hi:=q.hi
       have h1:=yg (l:=KP) (a:=0) (i:=q.i) (by omega) (fun i=>KP.getD i 0^^^54)
       have h2:=yg (l:=KP) (a:=0) (i:=q.i) (by omega) (fun i=>KP.getD i 0^^^92)
       have hI:((q.i:Int)).toNat=q.i:=Int.toNat_natCast _
       by_cases h4:q.i<64
       ·refine za ?_
        refine ⟨⟨q.i+1,h4⟩,[0,1],by show (64)-(q.i+1)<(64)-q.i;omega,?_⟩
        repeat ((conv=>whnf);refine zb ?_)
        conv=>whnf
        refine zv (congrArg (fun x=>SV.agg [SV.arr8 64 x]) (z9 (by omega) ?hv ?hkk)) ?_
        case hkk=>show ((q.i:Int)).toNat=0+q.i;omega
        case hv=>show (ovr KP 0 _ q.i).getD ((q.i:Int)).toNat 0^^^UInt8.ofNat 54=_;rw [hI,yw (by omega) _ (by omega)];rfl
        repeat ((conv=>whnf);refine zb ?_)
        conv=>whnf
        refine zv (congrArg (fun x=>SV.agg [SV.arr8 64 x]) (z9 (by omega) ?hv ?hkk)) ?_
        case hkk=>show ((q.i:Int)).toNat=0+q.i;omega
        case hv=>show (ovr KP 0 _ q.i).getD ((q.i:Int)).toNat 0^^^UInt8.ofNat 92=_;rw [hI,yw (by omega) _ (by omega)];rfl
        exact zn
       ·have e4:q.i=64:=by omega
        have hp: ∀b,ovr KP 0 (fun i=>KP.getD i 0^^^b) 64=pdX (bk n) Y b:=fun b=>by
          rw [y4 hKl,hb];unfold pdX
          exact yo fun i _=>by rw [hKg]
        have hq: ∀b,List.take 64 (List.drop (off []) (pdX (bk n) Y b))=pdX (bk n) Y b:=fun b=>List.take_of_length_le (by show (pdX (bk n) Y b).length≤_;rw [za4,hb];exact Nat.le_refl _)
        have hl3: ∀b,off []+64≤(pdX (bk n) Y b).length:=fun b=>by rw [za4,hb];show 0+64≤64;exact Nat.le_of_eq (Nat.zero_add _)
        have hl54:=hl3 54
        have hl92:=hl3 92
        rw [e4,hp 54,hp 92]
        refine za ?_
        rw [hq 54,hq 92]
        conv=>whnf
        exact zf [] h
    ·have hb:bk n=128:=by unfold bk;rw [if_neg (by omega)]
     have hp4:(4:Int)≠0∧ya (n.tdiv 4):=by rw [hn];exact ⟨by decide,by unfold ya;decide⟩
     have hd4:n.tdiv 4=96:=by rw [hn];rfl
     have hps:(n=256∨n=384)∧key.length≤140737488351232:=⟨hn2,hk⟩
     by_cases hl:128<key.length
     ·have hX:kN n key=(x9 n key):=by unfold kN;rw [hb];exact if_pos hl
      rw [hX] at h
      have hXl:(x9 n key).length≤128:=by rw [zn8 hn2];unfold dl;split<;>omega
      obtain ⟨Y,hY⟩: ∃Y,Y=(x9 n key):=⟨_,rfl⟩
      rw [←hY] at h hXl
      obtain ⟨KP,hKP⟩: ∃KP,KP=Y++List.replicate (128-Y.length) 0:=⟨_,rfl⟩
      have hKl:KP.length=128:=by rw [hKP,List.length_append,List.length_replicate];omega
      have hKg: ∀i,KP.getD i 0=Y.getD i 0:=fun i=>by rw [hKP];exact zj4 Y 128 i
      have hsp:=zf6 hXl
      rw [←hKP] at hsp
      refine za ?_
      skip
      rw [←hY]
      rw [show zx (List.replicate (Int.toNat 128) 0) (off []) (List.take (min Y.length (Int.toNat 128)) Y)=KP from hsp]
      refine zt (Ix (128)) (fun q=>⟨[(7,.sl 0 0 0 [] 128 128),(8,.sl 1 0 0 [] 128 128),(34,.int 128),(35,.int q.i)],[.mk 5 [.arr8 128 (ovr KP 0 (fun i=>KP.getD i 0^^^54) q.i)],.mk 5 [.arr8 128 (ovr KP 0 (fun i=>KP.getD i 0^^^92) q.i)]]⟩) (fun q=>(128)-q.i) ⟨0,Nat.zero_le _⟩ [0,1] ?_ ?_
      ·exact zn
      ·intro q
       have hi:=q.hi
       have h1:=yg (l:=KP) (a:=0) (i:=q.i) (by omega) (fun i=>KP.getD i 0^^^54)
       have h2:=yg (l:=KP) (a:=0) (i:=q.i) (by omega) (fun i=>KP.getD i 0^^^92)
       have hI:((q.i:Int)).toNat=q.i:=Int.toNat_natCast _
       by_cases h4:q.i<128
       ·refine za ?_
        refine ⟨⟨q.i+1,h4⟩,[0,1],by show (128)-(q.i+1)<(128)-q.i;omega,?_⟩
        repeat ((conv=>whnf);refine zb ?_)
        conv=>whnf
        refine zv (congrArg (fun x=>SV.agg [SV.arr8 128 x]) (z9 (by omega) ?hv ?hkk)) ?_
        case hkk=>show ((q.i:Int)).toNat=0+q.i;omega
        case hv=>show (ovr KP 0 _ q.i).getD ((q.i:Int)).toNat 0^^^UInt8.ofNat 54=_;rw [hI,yw (by omega) _ (by omega)];rfl
        repeat ((conv=>whnf);refine zb ?_)
        conv=>whnf
        refine zv (congrArg (fun x=>SV.agg [SV.arr8 128 x]) (z9 (by omega) ?hv ?hkk)) ?_
        case hkk=>show ((q.i:Int)).toNat=0+q.i;omega
        case hv=>show (ovr KP 0 _ q.i).getD ((q.i:Int)).toNat 0^^^UInt8.ofNat 92=_;rw [hI,yw (by omega) _ (by omega)];rfl
        exact zn
       ·have e4:q.i=128:=by omega
        have hp: ∀b,ovr KP 0 (fun i=>KP.getD i 0^^^b) 128=pdX (bk n) Y b:=fun b=>by
          rw [y4 hKl,hb];unfold pdX
          exact yo fun i _=>by rw [hKg]
        have hq: ∀b,List.take 128 (List.drop (off []) (pdX (bk n) Y b))=pdX (bk n) Y b:=fun b=>List.take_of_length_le (by show (pdX (bk n) Y b).length≤_;rw [za4,hb];exact Nat.le_refl _)
        have hl3: ∀b,off []+128≤(pdX (bk n) Y b).length:=fun b=>by rw [za4,hb];show 0+128≤128;exact Nat.le_of_eq (Nat.zero_add _)
        have hl54:=hl3 54
        have hl92:=hl3 92
        rw [e4,hp 54,hp 92]
        refine za ?_
        rw [hq 54,hq 92]
        conv=>whnf
        exact zf [] h
     ·have hX:kN n key=key:=by unfold kN;rw [hb];exact if_neg hl
      rw [hX] at h
      have hXl:key.length≤128:=by omega
      obtain ⟨Y,hY⟩: ∃Y,Y=key:=⟨_,rfl⟩
      rw [←hY] at h hXl
      obtain ⟨KP,hKP⟩: ∃KP,KP=Y++List.replicate (128-Y.length) 0:=⟨_,rfl⟩
      have hKl:KP.length=128:=by rw [hKP,List.length_append,List.length_replicate];omega
      have hKg: ∀i,KP.getD i 0=Y.getD i 0:=fun i=>by rw [hKP];exact zj4 Y 128 i
      have hsp:=zf6 hXl
      rw [←hKP] at hsp
      refine za ?_
      skip
      rw [←hY]
      rw [show zx (List.replicate (Int.toNat 128) 0) (off []) (List.take (min Y.length (Int.toNat 128)) Y)=KP from hsp]
      refine zt (Ix (128)) (fun q=>⟨[(7,.sl 0 0 0 [] 128 128),(8,.sl 1 0 0 [] 128 128),(34,.int 128),(35,.int q.i)],[.mk 5 [.arr8 128 (ovr KP 0 (fun i=>KP.getD i 0^^^54) q.i)],.mk 5 [.arr8 128 (ovr KP 0 (fun i=>KP.getD i 0^^^92) q.i)]]⟩) (fun q=>(128)-q.i) ⟨0,Nat.zero_le _⟩ [0,1] ?_ ?_
      ·exact zn
      ·intro q
       have hi:=q.hi
       have h1:=yg (l:=KP) (a:=0) (i:=q.i) (by omega) (fun i=>KP.getD i 0^^^54)
       have h2:=yg (l:=KP) (a:=0) (i:=q.i) (by omega) (fun i=>KP.getD i 0^^^92)
       have hI:((q.i:Int)).toNat=q.i:=Int.toNat_natCast _
       by_cases h4:q.i<128
       ·refine za ?_
        refine ⟨⟨q.i+1,h4⟩,[0,1],by show (128)-(q.i+1)<(128)-q.i;omega,?_⟩
        repeat ((conv=>whnf);refine zb ?_)
        conv=>whnf
        refine zv (congrArg (fun x=>SV.agg [SV.arr8 128 x]) (z9 (by omega) ?hv ?hkk)) ?_
        case hkk=>show ((q.i:Int)).toNat=0+q.i;omega
        case hv=>show (ovr KP 0 _ q.i).getD ((q.i:Int)).toNat 0^^^UInt8.ofNat 54=_;rw [hI,yw (by omega) _ (by omega)];rfl
        repeat ((conv=>whnf);refine zb ?_)
        conv=>whnf
        refine zv (congrArg (fun x=>SV.agg [SV.arr8 128 x]) (z9 (by omega) ?hv ?hkk)) ?_
        case hkk=>show ((q.i:Int)).toNat=0+q.i;omega
        case hv=>show (ovr KP 0 _ q.i).getD ((q.i:Int)).toNat 0^^^UInt8.ofNat 92=_;rw [hI,yw (by omega) _ (by omega)];rfl
        exact zn
       ·have e4:q.i=128:=by omega
        have hp: ∀b,ovr KP 0 (fun i=>KP.getD i 0^^^b) 128=pdX (bk n) Y b:=fun b=>by
          rw [y4 hKl,hb];unfold pdX
          exact yo fun i _=>by rw [hKg]
        have hq: ∀b,List.take 128 (List.drop (off []) (pdX (bk n) Y b))=pdX (bk n) Y b:=fun b=>List.take_of_length_le (by show (pdX (bk n) Y b).length≤_;rw [za4,hb];exact Nat.le_refl _)
        have hl3: ∀b,off []+128≤(pdX (bk n) Y b).length:=fun b=>by rw [za4,hb];show 0+128≤128;exact Nat.le_of_eq (Nat.zero_add _)
        have hl54:=hl3 54
        have hl92:=hl3 92
        rw [e4,hp 54,hp 92]
        refine za ?_
        rw [hq 54,hq 92]
        conv=>whnf
        exact zf [] h
   ·exact h.elim
end Go.Sym.Z
